/- A text of this claim, made small by a program of this session (wip/pack.py): lemmas and contracts that the law's row leans on. -/
import Derived.Test.YtabppnjmdlaohaaGreatDoorZFnSynchronised25
import Derived.Test.YtabppnjmdlaohaaGreatDoorZFnSynchronised27
import Derived.Test.YtabppnjmdlaohaaGreatDoorZFnSynchronised33
import Derived.Test.YtabppnjmdlaohaaGreatDoorZFnSynchronised34
namespace Go.Proofs.YtabppnjmdlaohaaGreatDoor.QFnSynchronised
open Go.RowKit Go.Proofs.YtabppnjmdlaohaaGreatDoorW.PrintWords Go.Proofs.YtabppnjmdlaohaaGreatDoorW.PrintLast Go.Proofs.YtabppnjmdlaohaaGreatDoorW.PrintMore
attribute [local go_sem] max2_int min2_int max_two min_two max_three min_three max_four min_four
set_option linter.unusedVariables false
set_option linter.unusedSimpArgs false
mutual
def impl_FlipLoss.j0 : Nat → List ByteArray → List Int → Int → Bool → Option (Int × Int × Bool)
 | 0, _, _, _, _ => none
 | k + 1, x0, x1, x2, x36 => if x36 = true then (some (0, 0, false)) else (impl_FlipLoss.l0 k x0 x2 (⟨#[]⟩ : ByteArray) x1 (x1.length : Int) 0)
def impl_FlipLoss.l0 : Nat → List ByteArray → Int → ByteArray → List Int → Int → Int → Option (Int × Int × Bool)
 | 0, _, _, _, _, _, _ => none
 | k + 1, x0, x2, x9, x37, x38, x39 => if x39 < x38 then (if 0 ≤ x39 then (if x39 < (x37.length : Int) then (if 0 ≤ (rd x37 x39) then (if (rd x37 x39) < (x0.length : Int) then (if x9.size + (rdOf ByteArray.empty x0 (rd x37 x39)).size ≤ 9223372036854775807 then (impl_FlipLoss.l0 k x0 x2 (x9 ++ (rdOf ByteArray.empty x0 (rd x37 x39))) x37 x38 (wrap64 (x39 + 1))) else (none)) else (none)) else (none)) else (none)) else (none)) else (if (x9.size : Int) > 400 then (impl_FlipLoss.j2 k x0 x2 x9 true) else ((impl_within.f x2 0 (wrap64 ((x9.size : Int) - 1))).bind fun t265 => (impl_FlipLoss.j2 k x0 x2 x9 (!t265))))
def impl_FlipLoss.j2 : Nat → List ByteArray → Int → ByteArray → Bool → Option (Int × Int × Bool)
 | 0, _, _, _, _ => none
 | k + 1, x0, x2, x9, x60 => if x60 = true then (some (0, 0, false)) else ((impl_ends.f k x0 x9).bind fun t266 => (if 0 ≤ x2 then (if x2 ≤ (x9.size : Int) then (if x2 ≤ (wrap64 (x2 + 1)) then (if (wrap64 (x2 + 1)) ≤ (x9.size : Int) then ((impl_opposite.f k (x9.extract (x2 : Int).toNat ((wrap64 (x2 + 1)) : Int).toNat)).bind fun t269 => (if (x9.extract 0 (x2 : Int).toNat).size + t269.size ≤ 9223372036854775807 then (if 0 ≤ (wrap64 (x2 + 1)) then (if ((x9.extract 0 (x2 : Int).toNat) ++ t269).size + (x9.extract ((wrap64 (x2 + 1)) : Int).toNat x9.size).size ≤ 9223372036854775807 then ((impl_ends.f k x0 (((x9.extract 0 (x2 : Int).toNat) ++ t269) ++ (x9.extract ((wrap64 (x2 + 1)) : Int).toNat x9.size))).bind fun t270 => (impl_FlipLoss.l1 k x9 t266 t270 0 (wrap64 (x2 + 1)))) else (none)) else (none)) else (none))) else (none)) else (none)) else (none)) else (none)))
def impl_FlipLoss.l1 : Nat → ByteArray → List Bool → List Bool → Int → Int → Option (Int × Int × Bool)
 | 0, _, _, _, _, _ => none
 | k + 1, x9, x12, x13, x14, x15 => if x15 ≤ (x9.size : Int) then (if 0 ≤ x15 then (if x15 < (x12.length : Int) then (if rdOf false x12 x15 = true then (if x15 < (x13.length : Int) then (if rdOf false x13 x15 = true then (some (wrap64 (x14 + 1), x15, true)) else (impl_FlipLoss.l1 k x9 x12 x13 (wrap64 (x14 + 1)) (wrap64 (x15 + 1)))) else (none)) else (impl_FlipLoss.l1 k x9 x12 x13 x14 (wrap64 (x15 + 1)))) else (none)) else (none)) else (some (0, 0, false))
end
def impl_FlipLoss.f (k : Nat) (l0 : List ByteArray) (l1 : List Int) (a2 : Int) : Option (Int × Int × Bool) := (impl_IsCompleteCode.f k l0).bind fun t261 => (if t261 = true then (if (l0.length : Int) < 2 then (impl_FlipLoss.j0 k l0 l1 a2 true) else (if (l1.length : Int) > 400 then (impl_FlipLoss.j0 k l0 l1 a2 true) else ((impl_areIn.f k l1 0 (wrap64 ((l0.length : Int) - 1))).bind fun t262 => (impl_FlipLoss.j0 k l0 l1 a2 (!t262))))) else (impl_FlipLoss.j0 k l0 l1 a2 true))
def impl_FlipLoss.T12 : Bool × List (List Nat × List Nat) := (true, [([], []), ([], []), ([], []), ([1, 2], [1, 2]), ([], []), ([], []), ([], []), ([6], [6]), ([4, 5, 7], [4, 5, 7]), ([8], [8]), ([3, 9], [3, 9]), ([], []), ([], []), ([12], [12]), ([11, 13], [11, 13]), ([10, 14], [10, 14]), ([0, 15, 9], [0, 15]), ([16, 16, 0, 1, 2, 3, 4, 5, 6, 7, 8, 9, 10, 11, 12, 13, 14, 15, 16], [16])])
def impl_FlipLoss.B12 : List Nat := [0, 0, 0, 6, 0, 0, 0, 64, 240, 496, 1022, 0, 0, 4096, 14336, 32766, 65535, 131071]
theorem impl_FlipLoss.tab12 : rtab .any (opsOf Tryz.f12 12) = impl_FlipLoss.T12 := by kernel_rfl
theorem impl_FlipLoss.bits12 : waitsOk impl_FlipLoss.T12.2 impl_FlipLoss.B12 = true := by kernel_rfl
set_option maxHeartbeats 8000000 in
set_option maxRecDepth 100000 in
theorem impl_FlipLoss.calls (k : Nat) (A0 : Option Addr) (c0 : Nat) (l0 : List ByteArray) (A1 : Option Addr) (c1 : Nat) (l1 : List Int) (a2 : Int) (r1 : Int) (r2 : Int) (r3 : Bool) (w : World) (hr0 : Kd.C Kd.string w A0 l0.length l0) (hc0 : l0.length ≤ c0) (hr1 : Kd.C (Kd.int .i64) w A1 l1.length l1) (hc1 : l1.length ≤ c1) (h : impl_FlipLoss.f k l0 l1 a2 = some (r1, r2, r3)) :
 Calls Tryz.prog 12 #[.slice A0 l0.length c0, .slice A1 l1.length c1, .int .i64 a2] w fun e w' => e = .returned (.tuple #[.int .i64 r1, .int .i64 r2, .bool r3]) ∧ Below w.heap.size w w' := by
 have HR0 := Aside0.mk hr0
 have HC0 := Aside0.mk hc0
 clear hr0 hc0
 have HR1 := Aside0.mk hr1
 have HC1 := Aside0.mk hc1
 clear hr1 hc1
 have HB := Aside0.mk (Below.refl w.heap.size w)
 have H : ((impl_IsCompleteCode.f k l0).bind fun t261 => (if t261 = true then (if (l0.length : Int) < 2 then (impl_FlipLoss.j0 k l0 l1 a2 true) else (if (l1.length : Int) > 400 then (impl_FlipLoss.j0 k l0 l1 a2 true) else ((impl_areIn.f k l1 0 (wrap64 ((l0.length : Int) - 1))).bind fun t262 => (impl_FlipLoss.j0 k l0 l1 a2 (!t262))))) else (impl_FlipLoss.j0 k l0 l1 a2 true))) = some (r1, r2, r3) := h
 clear h
 have HC4 := Aside0.mk H
 clear H
 go_enter Tryz.func12, Tryz.ntmps12
 go_upto_region 1 with (fail)
 go_cut [36] (fun v36 wc => ∃ (kq : Nat) (x36_3 : Bool), v36 = .bool x36_3 ∧ Aside0 (impl_FlipLoss.j0 kq l0 l1 a2 x36_3 = some (r1, r2, r3)) ∧ Aside0 (kq ≤ k) ∧ Aside0 (Below w.heap.size w wc))
 case first =>
  have H := HC4.out
  clear HC4
  replace H := Option.bind_eq_some_iff.mp H
  obtain ⟨t261, A50, H⟩ := H
  replace H : (if t261 = true then (if (l0.length : Int) < 2 then (impl_FlipLoss.j0 k l0 l1 a2 true) else (if (l1.length : Int) > 400 then (impl_FlipLoss.j0 k l0 l1 a2 true) else ((impl_areIn.f k l1 0 (wrap64 ((l0.length : Int) - 1))).bind fun t262 => (impl_FlipLoss.j0 k l0 l1 a2 (!t262))))) else (impl_FlipLoss.j0 k l0 l1 a2 true)) = some (r1, r2, r3) := H
  have A5 := Aside0.mk A50
  clear A50
  by_cases c6 : t261 = true
  ·subst c6
   have H1 : (if (l0.length : Int) < 2 then (impl_FlipLoss.j0 k l0 l1 a2 true) else (if (l1.length : Int) > 400 then (impl_FlipLoss.j0 k l0 l1 a2 true) else ((impl_areIn.f k l1 0 (wrap64 ((l0.length : Int) - 1))).bind fun t262 => (impl_FlipLoss.j0 k l0 l1 a2 (!t262))))) = some (r1, r2, r3) := by rw [if_pos rfl] at H; exact H
   clear H
   have H := H1
   clear H1
   by_cases c7 : (l0.length : Int) < 2
   ·rw [if_pos c7] at H
    have c7b0 : decide ((l0.length : Int) < 2) = true := decide_eq_true c7
    have c7b1 : decide (l0.length < 2) = true := decide_eq_true (by omega)
    clear c7
    (first | rw [c7b0] | (simp only [i64_w, i32_w]; rw [c7b0]) | skip)
    have H' := Aside0.mk H
    clear H
    go_wp2_with (first | ((with_reducible refine gate_callee (f := 9) rfl ?_); refine goesL_ (some 17) rfl rfl Tryz.func9 (by kernel_rfl) rfl #[.slice A0 l0.length c0] rfl (by (try simp only [List.map_toArray, List.map_cons, List.map_nil]); first | done | rfl | (simp only [List.length_drop, List.length_take]; rfl)) ?_; (with_reducible refine (impl_IsCompleteCode.calls k _ _ l0 true _ ?side1 ?side2 A5.out).mono ?_); (case side1 => repeat (first | exact (Kd.C_below HR0.out HB.out) | (with_reducible refine Kd.C_alloc ?_ _) | (with_reducible refine Kd.C_drewN ?_ _) | (with_reducible refine Kd.C_drew ?_))); (case side2 => exact HC0.out); rintro e w8 ⟨rfl, hb⟩; refine ⟨_, rfl, ?_⟩; have n0_ := Aside0.mk (below_step (by repeat (first | (with_reducible first | exact HB.out | apply below_alloc | apply pw_below_drewN | apply below_drew1) | exact HB.out)) hb); clear HB; have HB := n0_; clear n0_; (try clear hb); (try clear hb2); (try clear hk); (try clear hi)))
    go_meet
    case rel => exact ⟨_, (true), (by first | rfl | (simp; done) | (simp [*]; done)), H', ⟨by first | omega | exact Nat.le_refl _⟩, ⟨by repeat (first | (with_reducible first | exact HB.out | apply below_alloc | apply pw_below_drewN | apply below_drew1) | exact HB.out)⟩⟩
   ·rw [if_neg c7] at H
    have c7b0 : decide ((l0.length : Int) < 2) = false := decide_eq_false c7
    have c7b1 : decide (l0.length < 2) = false := decide_eq_false (by omega)
    clear c7
    (first | rw [c7b0] | (simp only [i64_w, i32_w]; rw [c7b0]) | skip)
    by_cases c9 : (l1.length : Int) > 400
    ·rw [if_pos c9] at H
     have c9b0 : decide (400 < (l1.length : Int)) = true := decide_eq_true c9
     have c9b1 : decide (400 < l1.length) = true := decide_eq_true (by omega)
     clear c9
     have H' := Aside0.mk H
     clear H
     go_wp2_with (first | ((with_reducible refine gate_callee (f := 9) rfl ?_); refine goesL_ (some 17) rfl rfl Tryz.func9 (by kernel_rfl) rfl #[.slice A0 l0.length c0] rfl (by (try simp only [List.map_toArray, List.map_cons, List.map_nil]); first | done | rfl | (simp only [List.length_drop, List.length_take]; rfl)) ?_; (with_reducible refine (impl_IsCompleteCode.calls k _ _ l0 true _ ?side1 ?side2 A5.out).mono ?_); (case side1 => repeat (first | exact (Kd.C_below HR0.out HB.out) | (with_reducible refine Kd.C_alloc ?_ _) | (with_reducible refine Kd.C_drewN ?_ _) | (with_reducible refine Kd.C_drew ?_))); (case side2 => exact HC0.out); rintro e w10 ⟨rfl, hb⟩; refine ⟨_, rfl, ?_⟩; have n0_ := Aside0.mk (below_step (by repeat (first | (with_reducible first | exact HB.out | apply below_alloc | apply pw_below_drewN | apply below_drew1) | exact HB.out)) hb); clear HB; have HB := n0_; clear n0_; (try clear hb); (try clear hb2); (try clear hk); (try clear hi)))
     go_meet
     case rel => exact ⟨_, (true), (by first | rfl | (simp; done) | (simp [*]; done)), H', ⟨by first | omega | exact Nat.le_refl _⟩, ⟨by repeat (first | (with_reducible first | exact HB.out | apply below_alloc | apply pw_below_drewN | apply below_drew1) | exact HB.out)⟩⟩
    ·rw [if_neg c9] at H
     have c9b0 : decide (400 < (l1.length : Int)) = false := decide_eq_false c9
     have c9b1 : decide (400 < l1.length) = false := decide_eq_false (by omega)
     clear c9
     replace H := Option.bind_eq_some_iff.mp H
     obtain ⟨t262, A110, H⟩ := H
     replace H : (impl_FlipLoss.j0 k l0 l1 a2 (!t262)) = some (r1, r2, r3) := H
     have A11 := Aside0.mk A110
     clear A110
     have H' := Aside0.mk H
     clear H
     go_wp2_with (first | ((with_reducible refine gate_callee (f := 9) rfl ?_); refine goesL_ (some 17) rfl rfl Tryz.func9 (by kernel_rfl) rfl #[.slice A0 l0.length c0] rfl (by (try simp only [List.map_toArray, List.map_cons, List.map_nil]); first | done | rfl | (simp only [List.length_drop, List.length_take]; rfl)) ?_; (with_reducible refine (impl_IsCompleteCode.calls k _ _ l0 true _ ?side1 ?side2 A5.out).mono ?_); (case side1 => repeat (first | exact (Kd.C_below HR0.out HB.out) | (with_reducible refine Kd.C_alloc ?_ _) | (with_reducible refine Kd.C_drewN ?_ _) | (with_reducible refine Kd.C_drew ?_))); (case side2 => exact HC0.out); rintro e w12 ⟨rfl, hb⟩; refine ⟨_, rfl, ?_⟩; have n0_ := Aside0.mk (below_step (by repeat (first | (with_reducible first | exact HB.out | apply below_alloc | apply pw_below_drewN | apply below_drew1) | exact HB.out)) hb); clear HB; have HB := n0_; clear n0_; (try clear hb); (try clear hb2); (try clear hk); (try clear hi)) | (go_at_call 31; (with_reducible refine (impl_areIn.calls k _ _ l1 0 (wrap64 ((l0.length : Int) - 1)) t262 _ ?side1 ?side2 A11.out).mono ?_); (case side1 => repeat (first | exact (Kd.C_below HR1.out HB.out) | (with_reducible refine Kd.C_alloc ?_ _) | (with_reducible refine Kd.C_drewN ?_ _) | (with_reducible refine Kd.C_drew ?_))); (case side2 => exact HC1.out); rintro e w' ⟨rfl, ⟨nd, rfl⟩⟩))
     go_meet
     case rel => exact ⟨_, (!t262), (by first | rfl | (simp; done) | (simp [*]; done)), H', ⟨by first | omega | exact Nat.le_refl _⟩, ⟨by repeat (first | (with_reducible first | exact HB.out | apply below_alloc | apply pw_below_drewN | apply below_drew1) | exact HB.out)⟩⟩
  ·replace c6 := Bool.eq_false_iff.mpr c6
   subst c6
   have H1 : (impl_FlipLoss.j0 k l0 l1 a2 true) = some (r1, r2, r3) := by rw [if_neg (show ¬ (false = true) by decide)] at H; exact H
   clear H
   have H := H1
   clear H1
   have H' := Aside0.mk H
   clear H
   go_wp2_with (first | ((with_reducible refine gate_callee (f := 9) rfl ?_); refine goesL_ (some 17) rfl rfl Tryz.func9 (by kernel_rfl) rfl #[.slice A0 l0.length c0] rfl (by (try simp only [List.map_toArray, List.map_cons, List.map_nil]); first | done | rfl | (simp only [List.length_drop, List.length_take]; rfl)) ?_; (with_reducible refine (impl_IsCompleteCode.calls k _ _ l0 false _ ?side1 ?side2 A5.out).mono ?_); (case side1 => repeat (first | exact (Kd.C_below HR0.out HB.out) | (with_reducible refine Kd.C_alloc ?_ _) | (with_reducible refine Kd.C_drewN ?_ _) | (with_reducible refine Kd.C_drew ?_))); (case side2 => exact HC0.out); rintro e w13 ⟨rfl, hb⟩; refine ⟨_, rfl, ?_⟩; have n0_ := Aside0.mk (below_step (by repeat (first | (with_reducible first | exact HB.out | apply below_alloc | apply pw_below_drewN | apply below_drew1) | exact HB.out)) hb); clear HB; have HB := n0_; clear n0_; (try clear hb); (try clear hb2); (try clear hk); (try clear hi)))
   go_meet
   case rel => exact ⟨_, (true), (by first | rfl | (simp; done) | (simp [*]; done)), H', ⟨by first | omega | exact Nat.le_refl _⟩, ⟨by repeat (first | (with_reducible first | exact HB.out | apply below_alloc | apply pw_below_drewN | apply below_drew1) | exact HB.out)⟩⟩
 case rest =>
  clear HC4
  try clear c1
  try clear p2
  try clear c6
  try clear p6
  try clear c7
  try clear c7b0
  try clear c7b1
  try clear c9
  try clear c9b0
  try clear c9b1
  try clear c12
  obtain ⟨kq, x36_3, rfl, HA, HJ3, HB⟩ := hcut
  cases kq with
  | zero => exact absurd HA.out (by simp [impl_FlipLoss.j0])
  | succ kj3 =>
   have H := HA.out
   clear HA
   simp only [impl_FlipLoss.j0] at H
   by_cases c14 : x36_3 = true
   ·subst c14
    have H1 : (some (0, 0, false)) = some (r1, r2, r3) := by rw [if_pos rfl] at H; exact H
    clear H
    have H := H1
    clear H1
    simp only [Option.some.injEq, Prod.mk.injEq] at H
    obtain ⟨rfl, rfl, rfl⟩ := H
    go_wp2
    go_ret3
    exact ⟨by first | rfl | (simp [errW_none, errW_some] <;> rfl) | (simp [*, errW_none, errW_some] <;> rfl), by repeat (first | (with_reducible first | exact HB.out | apply below_alloc | apply pw_below_drewN | apply below_drew1) | exact HB.out)⟩
   ·replace c14 := Bool.eq_false_iff.mpr c14
    subst c14
    have H1 : (impl_FlipLoss.l0 kj3 l0 a2 (⟨#[]⟩ : ByteArray) l1 (l1.length : Int) 0) = some (r1, r2, r3) := by rw [if_neg (show ¬ (false = true) by decide)] at H; exact H
    clear H
    have H := H1
    clear H1
    have H' := Aside0.mk H
    clear H
    go_wp2
    go_loopg [9, 39] kj3 (fun kq v9 v39 w' => ∃ (x9_2 : ByteArray) (x39_2 : Int), v9 = .string x9_2 ∧ v39 = .int .i64 x39_2 ∧ Aside0 (impl_FlipLoss.l0 kq l0 a2 x9_2 l1 (l1.length : Int) x39_2 = some (r1, r2, r3)) ∧ Aside0 (kq ≤ kj3) ∧ Aside0 (Below w.heap.size w w'))
    case atStart => exact ⟨((⟨#[]⟩ : ByteArray)), (0), (by first | rfl | (simp; done) | (simp [*]; done)), (by first | rfl | (simp; done) | (simp [*]; done)), H', ⟨Nat.le_refl _⟩, ⟨by repeat (first | (with_reducible first | exact HB.out | apply below_alloc | apply pw_below_drewN | apply below_drew1) | exact HB.out)⟩⟩
    case round =>
     clear H'
     try clear c1
     try clear p2
     try clear c6
     try clear p6
     try clear c7
     try clear c7b0
     try clear c7b1
     try clear c9
     try clear c9b0
     try clear c9b1
     try clear c12
     try clear c14
     try clear p2
     try clear p6
     obtain ⟨x9_2, x39_2, rfl, rfl, HA, HK2, HB⟩ := hrel
     cases gk with
     | zero => exact absurd HA.out (by simp [impl_FlipLoss.l0])
     | succ k2 =>
      have H := HA.out
      clear HA
      simp only [impl_FlipLoss.l0] at H
      by_cases c15 : x39_2 < (l1.length : Int)
      ·rw [if_pos c15] at H
       have c15b0 : decide (x39_2 < (l1.length : Int)) = true := decide_eq_true c15
       clear c15
       by_cases c16 : 0 ≤ x39_2
       ·rw [if_pos c16] at H
        have c16b0 : decide (0 ≤ x39_2) = true := decide_eq_true c16
        clear c16
        by_cases c17 : x39_2 < (l1.length : Int)
        ·rw [if_pos c17] at H
         have c17b0 : decide (x39_2 < (l1.length : Int)) = true := decide_eq_true c17
         clear c17
         by_cases c18 : 0 ≤ (rd l1 x39_2)
         ·rw [if_pos c18] at H
          have c18b0 : decide (0 ≤ (rd l1 x39_2)) = true := decide_eq_true c18
          clear c18
          by_cases c19 : (rd l1 x39_2) < (l0.length : Int)
          ·rw [if_pos c19] at H
           have c19b0 : decide ((rd l1 x39_2) < (l0.length : Int)) = true := decide_eq_true c19
           clear c19
           by_cases c20 : x9_2.size + (rdOf ByteArray.empty l0 (rd l1 x39_2)).size ≤ 9223372036854775807
           ·rw [if_pos c20] at H
            have c20b0 := eq_true c20
            have c20b1 : decide (x9_2.size + (rdOf ByteArray.empty l0 (rd l1 x39_2)).size ≤ 9223372036854775807) = true := decide_eq_true c20
            try have c20b2 : (9223372036854775807 < x9_2.size + (rdOf ByteArray.empty l0 (rd l1 x39_2)).size) = False := eq_false (Nat.not_lt.2 c20)
            have H' := Aside0.mk H
            clear H
            have p263 : 0 ≤ (x39_2 : Int) := of_decide_eq_true (by first | (with_reducible assumption) | assumption)
            have q263 : x39_2 < (l1.length : Int) := of_decide_eq_true (by first | (with_reducible assumption) | assumption)
            obtain ⟨ad263, e263, hx263_0⟩ := Kd.at_int HR1.out x39_2 p263 q263
            cases e263
            replace hx263_0 := (HB.out.cell (World.block_lt_of_cell? w _ hx263_0)).trans hx263_0
            replace p263 := eq_true p263
            replace q263 := eq_true q263
            have p264 : 0 ≤ ((rd l1 x39_2) : Int) := of_decide_eq_true (by first | (with_reducible assumption) | assumption)
            have q264 : (rd l1 x39_2) < (l0.length : Int) := of_decide_eq_true (by first | (with_reducible assumption) | assumption)
            obtain ⟨ad264, e264, hx264_0⟩ := Kd.at_string HR0.out (rd l1 x39_2) p264 q264
            cases e264
            replace hx264_0 := (HB.out.cell (World.block_lt_of_cell? w _ hx264_0)).trans hx264_0
            replace p264 := eq_true p264
            replace q264 := eq_true q264
            go_wp2
            go_roundg k2
            case measure => have := HJ3.out; have := HK2.out; omega
            case rel => exact ⟨(x9_2 ++ (rdOf ByteArray.empty l0 (rd l1 x39_2))), (wrap64 (x39_2 + 1)), (by first | rfl | (simp; done) | (simp [*]; done)), (by first | rfl | (simp; done) | (simp [*]; done)), H', ⟨by have := HJ3.out; have := HK2.out; omega⟩, ⟨by repeat (first | (with_reducible first | exact HB.out | apply below_alloc | apply pw_below_drewN | apply below_drew1) | exact HB.out)⟩⟩
           ·rw [if_neg c20] at H
            exact absurd H (by simp)
          ·rw [if_neg c19] at H
           exact absurd H (by simp)
         ·rw [if_neg c18] at H
          exact absurd H (by simp)
        ·rw [if_neg c17] at H
         exact absurd H (by simp)
       ·rw [if_neg c16] at H
        exact absurd H (by simp)
      ·rw [if_neg c15] at H
       have c15b0 : decide (x39_2 < (l1.length : Int)) = false := decide_eq_false c15
       clear c15
       have HC21 := Aside0.mk H
       clear H
       go_upto_region 9 with (fail)
       go_cut [60] (fun v60 wc => ∃ (kq : Nat) (x60_20 : Bool), v60 = .bool x60_20 ∧ Aside0 (impl_FlipLoss.j2 kq l0 a2 x9_2 x60_20 = some (r1, r2, r3)) ∧ Aside0 (kq ≤ k2) ∧ Aside0 (Below w.heap.size w wc))
       case first =>
        have H := HC21.out
        clear HC21
        by_cases c22 : (x9_2.size : Int) > 400
        ·rw [if_pos c22] at H
         have c22b0 : decide (400 < (x9_2.size : Int)) = true := decide_eq_true c22
         have c22b1 : decide (400 < x9_2.size) = true := decide_eq_true (by omega)
         clear c22
         (first | rw [c22b0] | (simp only [i64_w, i32_w]; rw [c22b0]) | skip)
         have H' := Aside0.mk H
         clear H
         go_wp2
         go_meet
         case rel => exact ⟨_, (true), (by first | rfl | (simp; done) | (simp [*]; done)), H', ⟨by have := HJ3.out; have := HK2.out; first | omega | exact Nat.le_refl _⟩, ⟨by repeat (first | (with_reducible first | exact HB.out | apply below_alloc | apply pw_below_drewN | apply below_drew1) | exact HB.out)⟩⟩
        ·rw [if_neg c22] at H
         have c22b0 : decide (400 < (x9_2.size : Int)) = false := decide_eq_false c22
         have c22b1 : decide (400 < x9_2.size) = false := decide_eq_false (by omega)
         clear c22
         (first | rw [c22b0] | (simp only [i64_w, i32_w]; rw [c22b0]) | skip)
         replace H := Option.bind_eq_some_iff.mp H
         obtain ⟨t265, A230, H⟩ := H
         replace H : (impl_FlipLoss.j2 k2 l0 a2 x9_2 (!t265)) = some (r1, r2, r3) := H
         have A23 := Aside0.mk A230
         clear A230
         have H' := Aside0.mk H
         clear H
         go_wp2_with (first | (go_at_call 32; (with_reducible refine (impl_within.calls a2 0 (wrap64 ((x9_2.size : Int) - 1)) t265 _ A23.out).mono ?_); rintro e w' ⟨rfl, ⟨nd, rfl⟩⟩))
         go_meet
         case rel => exact ⟨_, (!t265), (by first | rfl | (simp; done) | (simp [*]; done)), H', ⟨by have := HJ3.out; have := HK2.out; first | omega | exact Nat.le_refl _⟩, ⟨by repeat (first | (with_reducible first | exact HB.out | apply below_alloc | apply pw_below_drewN | apply below_drew1) | exact HB.out)⟩⟩
       case rest =>
        clear HC21
        try clear c1
        try clear c2
        try clear p2
        try clear q2
        try clear hx2
        try clear c6
        try clear p6
        try clear c7
        try clear c7b0
        try clear c7b1
        try clear c9
        try clear c9b0
        try clear c9b1
        try clear c12
        try clear c14
        try clear c15
        try clear c15b0
        try clear c16
        try clear c16b0
        try clear c17
        try clear c17b0
        try clear c18
        try clear c18b0
        try clear c19
        try clear c19b0
        try clear c20
        try clear c20b0
        try clear c20b1
        try clear c20b2
        try clear c22
        try clear c22b0
        try clear c22b1
        try clear hx263_0
        try clear hx264_0
        try clear p2
        try clear p263
        try clear p264
        try clear p6
        try clear q263
        try clear q264
        obtain ⟨kq, x60_20, rfl, HA, HJ20, HB⟩ := hcut
        cases kq with
        | zero => exact absurd HA.out (by simp [impl_FlipLoss.j2])
        | succ kj20 =>
         have H := HA.out
         clear HA
         simp only [impl_FlipLoss.j2] at H
         by_cases c24 : x60_20 = true
         ·subst c24
          have H1 : (some (0, 0, false)) = some (r1, r2, r3) := by rw [if_pos rfl] at H; exact H
          clear H
          have H := H1
          clear H1
          simp only [Option.some.injEq, Prod.mk.injEq] at H
          obtain ⟨rfl, rfl, rfl⟩ := H
          go_wp2
          go_ret3
          exact ⟨by first | rfl | (simp [errW_none, errW_some] <;> rfl) | (simp [*, errW_none, errW_some] <;> rfl), by repeat (first | (with_reducible first | exact HB.out | apply below_alloc | apply pw_below_drewN | apply below_drew1) | exact HB.out)⟩
         ·replace c24 := Bool.eq_false_iff.mpr c24
          subst c24
          have H1 : ((impl_ends.f kj20 l0 x9_2).bind fun t266 => (if 0 ≤ a2 then (if a2 ≤ (x9_2.size : Int) then (if a2 ≤ (wrap64 (a2 + 1)) then (if (wrap64 (a2 + 1)) ≤ (x9_2.size : Int) then ((impl_opposite.f kj20 (x9_2.extract (a2 : Int).toNat ((wrap64 (a2 + 1)) : Int).toNat)).bind fun t269 => (if (x9_2.extract 0 (a2 : Int).toNat).size + t269.size ≤ 9223372036854775807 then (if 0 ≤ (wrap64 (a2 + 1)) then (if ((x9_2.extract 0 (a2 : Int).toNat) ++ t269).size + (x9_2.extract ((wrap64 (a2 + 1)) : Int).toNat x9_2.size).size ≤ 9223372036854775807 then ((impl_ends.f kj20 l0 (((x9_2.extract 0 (a2 : Int).toNat) ++ t269) ++ (x9_2.extract ((wrap64 (a2 + 1)) : Int).toNat x9_2.size))).bind fun t270 => (impl_FlipLoss.l1 kj20 x9_2 t266 t270 0 (wrap64 (a2 + 1)))) else (none)) else (none)) else (none))) else (none)) else (none)) else (none)) else (none))) = some (r1, r2, r3) := by rw [if_neg (show ¬ (false = true) by decide)] at H; exact H
          clear H
          have H := H1
          clear H1
          replace H := Option.bind_eq_some_iff.mp H
          obtain ⟨t266, A250, H⟩ := H
          replace H : (if 0 ≤ a2 then (if a2 ≤ (x9_2.size : Int) then (if a2 ≤ (wrap64 (a2 + 1)) then (if (wrap64 (a2 + 1)) ≤ (x9_2.size : Int) then ((impl_opposite.f kj20 (x9_2.extract (a2 : Int).toNat ((wrap64 (a2 + 1)) : Int).toNat)).bind fun t269 => (if (x9_2.extract 0 (a2 : Int).toNat).size + t269.size ≤ 9223372036854775807 then (if 0 ≤ (wrap64 (a2 + 1)) then (if ((x9_2.extract 0 (a2 : Int).toNat) ++ t269).size + (x9_2.extract ((wrap64 (a2 + 1)) : Int).toNat x9_2.size).size ≤ 9223372036854775807 then ((impl_ends.f kj20 l0 (((x9_2.extract 0 (a2 : Int).toNat) ++ t269) ++ (x9_2.extract ((wrap64 (a2 + 1)) : Int).toNat x9_2.size))).bind fun t270 => (impl_FlipLoss.l1 kj20 x9_2 t266 t270 0 (wrap64 (a2 + 1)))) else (none)) else (none)) else (none))) else (none)) else (none)) else (none)) else (none)) = some (r1, r2, r3) := H
          have A25 := Aside0.mk A250
          clear A250
          by_cases c26 : 0 ≤ a2
          ·rw [if_pos c26] at H
           have c26b0 := eq_true c26
           have c26b1 : decide (0 ≤ a2) = true := decide_eq_true c26
           clear c26
           by_cases c27 : a2 ≤ (x9_2.size : Int)
           ·rw [if_pos c27] at H
            have c27b0 := eq_true c27
            have c27b1 : decide (a2 ≤ (x9_2.size : Int)) = true := decide_eq_true c27
            clear c27
            have c28b0 := eq_true (of_decide_eq_true (by first | (with_reducible assumption) | assumption) : 0 ≤ a2)
            by_cases c29 : a2 ≤ (wrap64 (a2 + 1))
            ·rw [if_pos c29] at H
             have c29b0 := eq_true c29
             have c29b1 : decide (a2 ≤ (wrap64 (a2 + 1))) = true := decide_eq_true c29
             by_cases c30 : (wrap64 (a2 + 1)) ≤ (x9_2.size : Int)
             ·rw [if_pos c30] at H
              have c30b0 := eq_true c30
              have c30b1 : decide ((wrap64 (a2 + 1)) ≤ (x9_2.size : Int)) = true := decide_eq_true c30
              replace H := Option.bind_eq_some_iff.mp H
              obtain ⟨t269, A310, H⟩ := H
              replace H : (if (x9_2.extract 0 (a2 : Int).toNat).size + t269.size ≤ 9223372036854775807 then (if 0 ≤ (wrap64 (a2 + 1)) then (if ((x9_2.extract 0 (a2 : Int).toNat) ++ t269).size + (x9_2.extract ((wrap64 (a2 + 1)) : Int).toNat x9_2.size).size ≤ 9223372036854775807 then ((impl_ends.f kj20 l0 (((x9_2.extract 0 (a2 : Int).toNat) ++ t269) ++ (x9_2.extract ((wrap64 (a2 + 1)) : Int).toNat x9_2.size))).bind fun t270 => (impl_FlipLoss.l1 kj20 x9_2 t266 t270 0 (wrap64 (a2 + 1)))) else (none)) else (none)) else (none)) = some (r1, r2, r3) := H
              have A31 := Aside0.mk A310
              clear A310
              by_cases c32 : (x9_2.extract 0 (a2 : Int).toNat).size + t269.size ≤ 9223372036854775807
              ·rw [if_pos c32] at H
               have c32b0 := eq_true c32
               have c32b1 : decide ((x9_2.extract 0 (a2 : Int).toNat).size + t269.size ≤ 9223372036854775807) = true := decide_eq_true c32
               try have c32b2 : (9223372036854775807 < (x9_2.extract 0 (a2 : Int).toNat).size + t269.size) = False := eq_false (Nat.not_lt.2 c32)
               try have c32b3 : (9223372036854775807 < (a2 : Int).toNat + t269.size) = False := eq_false (Nat.not_lt.2 (by have u0_ := of_decide_eq_true (show decide (a2 ≤ (x9_2.size : Int)) = true by assumption); have q_ := c32; simp only [ByteArray.size_append, ByteArray.size_extract] at q_; omega))
               obtain ⟨ji33, hji33⟩ : ∃ j_ : Int, (wrap64 (a2 + 1)) = j_ := ⟨_, rfl⟩
               replace H : (if 0 ≤ (ji33) then (if ((x9_2.extract 0 (a2 : Int).toNat) ++ t269).size + (x9_2.extract ((ji33) : Int).toNat x9_2.size).size ≤ 9223372036854775807 then ((impl_ends.f kj20 l0 (((x9_2.extract 0 (a2 : Int).toNat) ++ t269) ++ (x9_2.extract ((ji33) : Int).toNat x9_2.size))).bind fun t270 => (impl_FlipLoss.l1 kj20 x9_2 t266 t270 0 ji33)) else (none)) else (none)) = some (r1, r2, r3) := by first | (rw [hji33] at H; exact H) | (simp only [hji33] at H ⊢; exact H)
               (try rw [hji33] at c29b0)
               (try rw [hji33] at c29b1)
               (try rw [hji33] at c29)
               (try rw [hji33] at c30b0)
               (try rw [hji33] at c30b1)
               (try rw [hji33] at c30)
               (try rw [hji33] at A25)
               (try rw [hji33] at A31)
               have hji33w : (IntKind.i64.wrap (a2 + 1)) = ji33 := (i64_w _).trans hji33
               (try rw [hji33])
               by_cases c34 : 0 ≤ (ji33)
               ·rw [if_pos c34] at H
                have c34b0 := eq_true c34
                have c34b1 : decide (0 ≤ (ji33)) = true := decide_eq_true c34
                clear c34
                have c35b0 := eq_true (of_decide_eq_true (by first | (with_reducible assumption) | assumption) : (ji33) ≤ (x9_2.size : Int))
                by_cases c36 : ((x9_2.extract 0 (a2 : Int).toNat) ++ t269).size + (x9_2.extract ((ji33) : Int).toNat x9_2.size).size ≤ 9223372036854775807
                ·rw [if_pos c36] at H
                 have c36b0 := eq_true c36
                 have c36b1 : decide (((x9_2.extract 0 (a2 : Int).toNat) ++ t269).size + (x9_2.extract ((ji33) : Int).toNat x9_2.size).size ≤ 9223372036854775807) = true := decide_eq_true c36
                 try have c36b2 : (9223372036854775807 < ((x9_2.extract 0 (a2 : Int).toNat) ++ t269).size + (x9_2.extract ((ji33) : Int).toNat x9_2.size).size) = False := eq_false (Nat.not_lt.2 c36)
                 try have c36b3 : (9223372036854775807 < (a2 : Int).toNat + t269.size + (x9_2.size - (ji33 : Int).toNat)) = False := eq_false (Nat.not_lt.2 (by have u0_ := of_decide_eq_true (show decide (a2 ≤ (x9_2.size : Int)) = true by assumption); have q_ := c36; simp only [ByteArray.size_append, ByteArray.size_extract] at q_; omega))
                 replace H := Option.bind_eq_some_iff.mp H
                 obtain ⟨t270, A370, H⟩ := H
                 replace H : (impl_FlipLoss.l1 kj20 x9_2 t266 t270 0 ji33) = some (r1, r2, r3) := H
                 have A37 := Aside0.mk A370
                 clear A370
                 have H' := Aside0.mk H
                 clear H
                 try go_wp2_with (first | ((with_reducible refine gate_callee (f := 33) rfl ?_); refine goesL_ (some 63) rfl rfl Tryz.func33 (by kernel_rfl) rfl #[.slice A0 l0.length c0, .string x9_2] rfl (by (try simp only [List.map_toArray, List.map_cons, List.map_nil]); first | done | rfl | (simp only [List.length_drop, List.length_take]; rfl)) ?_; (with_reducible refine (impl_ends.calls kj20 _ _ l0 x9_2 t266 _ ?side1 ?side2 A25.out).mono ?_); (case side1 => repeat (first | exact (Kd.C_below HR0.out HB.out) | (with_reducible refine Kd.C_alloc ?_ _) | (with_reducible refine Kd.C_drewN ?_ _) | (with_reducible refine Kd.C_drew ?_))); (case side2 => exact HC0.out); rintro e w38 ⟨v267, rfl, ho0, hb⟩; refine ⟨_, rfl, ?_⟩; have n0_ := Aside0.mk (Kd.R_lower ho0 (below_size (by repeat (first | (with_reducible first | exact HB.out | apply below_alloc | apply pw_below_drewN | apply below_drew1) | exact HB.out)))); have n1_ := Aside0.mk (below_step (by repeat (first | (with_reducible first | exact HB.out | apply below_alloc | apply pw_below_drewN | apply below_drew1) | exact HB.out)) hb); clear HB; have HO268 := n0_; have HB := n1_; clear n0_ n1_; (try clear hb); (try clear hb2); (try clear hk); (try clear hi); (try clear ho0)))
                 have n0_ := Aside0.mk (Kd.R_drew HO268.out)
                 have n1_ := Aside0.mk (below_drew1 HB.out)
                 clear HO268
                 clear HB
                 have HO268 := n0_
                 have HB := n1_
                 clear n0_ n1_
                 refine start_ (n := 18) (S := fun w' => True) (ds := []) #[false, false, false, false, false, false, false, false, false, false, false, false, false, false, false, false, false, false] (by kernel_rfl) rfl rfl trivial (fun hHeld => ?_); refine with_tabW impl_FlipLoss.tab12 impl_FlipLoss.bits12 (fun HT_ HW_ => ?_)
                 generalize w38.drew = w39 at HO268 HB hHeld ⊢
                 refine pure_ (i := 0) (N := some 64) (v := ?_) (a' := ?_) #[true, false, false, false, false, false, false, false, false, false, false, false, false, false, false, false, false, false] rfl rfl (any_of HT_.out (by kernel_rfl)) (fun _ _ _ h => h) (Or.inl ⟨by rfl, ?_⟩) ?_ ?_
                 rotate_left
                 ·intro w'
                  go_simp
                  with_reducible rfl
                 rotate_left
                 ·simp only [Act.put, List.setIfInBounds_toArray, List.set_cons_zero, List.set_cons_succ, i64_w, i32_w]
                  rfl
                 refine pure_ (i := 1) (N := some 65) (v := ?_) (a' := ?_) #[true, true, false, false, false, false, false, false, false, false, false, false, false, false, false, false, false, false] rfl rfl (any_of HT_.out (by kernel_rfl)) (fun _ _ _ h => h) (Or.inl ⟨by rfl, ?_⟩) ?_ ?_
                 rotate_left
                 ·intro w'
                  go_simp
                  with_reducible rfl
                 rotate_left
                 ·simp only [Act.put, List.setIfInBounds_toArray, List.set_cons_zero, List.set_cons_succ, i64_w, i32_w]
                  rfl
                 refine pure_ (i := 2) (N := some 66) (v := ?_) (a' := ?_) #[true, true, true, false, false, false, false, false, false, false, false, false, false, false, false, false, false, false] rfl rfl (any_of HT_.out (by kernel_rfl)) (fun _ _ _ h => h) (Or.inl ⟨by rfl, ?_⟩) ?_ ?_
                 rotate_left
                 ·intro w'
                  go_simp
                  with_reducible rfl
                 rotate_left
                 ·simp only [Act.put, List.setIfInBounds_toArray, List.set_cons_zero, List.set_cons_succ, i64_w, i32_w]
                  rfl
                 refine pure_ (i := 3) (N := some 67) (v := ?_) (a' := ?_) #[true, true, true, true, false, false, false, false, false, false, false, false, false, false, false, false, false, false] rfl rfl (any_of HT_.out (by kernel_rfl)) (fun _ _ _ h => h) (Or.inl ⟨by rfl, ?_⟩) ?_ ?_
                 rotate_left
                 ·intro w'
                  go_simp
                  with_reducible rfl
                 rotate_left
                 ·simp only [Act.put, List.setIfInBounds_toArray, List.set_cons_zero, List.set_cons_succ, i64_w, i32_w]
                  rfl
                 refine pure_ (i := 4) (N := some 68) (v := ?_) (a' := ?_) #[true, true, true, true, true, false, false, false, false, false, false, false, false, false, false, false, false, false] rfl rfl (any_of HT_.out (by kernel_rfl)) (fun _ _ _ h => h) (Or.inl ⟨by rfl, ?_⟩) ?_ ?_
                 rotate_left
                 ·intro w'
                  go_simp
                  with_reducible rfl
                 rotate_left
                 ·simp only [Act.put, List.setIfInBounds_toArray, List.set_cons_zero, List.set_cons_succ, i64_w, i32_w]
                  rfl
                 refine pure_ (i := 5) (N := some 69) (v := ?_) (a' := ?_) #[true, true, true, true, true, true, false, false, false, false, false, false, false, false, false, false, false, false] rfl rfl (any_of HT_.out (by kernel_rfl)) (fun _ _ _ h => h) (Or.inl ⟨by rfl, ?_⟩) ?_ ?_
                 rotate_left
                 ·intro w'
                  go_simp
                  with_reducible rfl
                 rotate_left
                 ·simp only [Act.put, List.setIfInBounds_toArray, List.set_cons_zero, List.set_cons_succ, i64_w, i32_w]
                  rfl
                 refine pure_ (i := 6) (N := some 70) (v := ?_) (a' := ?_) #[true, true, true, true, true, true, true, false, false, false, false, false, false, false, false, false, false, false] rfl rfl (any_of HT_.out (by kernel_rfl)) (fun _ _ _ h => h) (Or.inl ⟨by rfl, ?_⟩) ?_ ?_
                 rotate_left
                 ·intro w'
                  go_simp
                  with_reducible rfl
                 rotate_left
                 ·simp only [Act.put, List.setIfInBounds_toArray, List.set_cons_zero, List.set_cons_succ, i64_w, i32_w]
                  rfl
                 refine pure_ (i := 7) (N := some 71) (v := ?_) (a' := ?_) #[true, true, true, true, true, true, true, true, false, false, false, false, false, false, false, false, false, false] rfl rfl (any_of HT_.out (by kernel_rfl)) (fun _ _ _ h => h) (Or.inl ⟨by rfl, ?_⟩) ?_ ?_
                 rotate_left
                 ·intro w'
                  go_simp
                  with_reducible rfl
                 rotate_left
                 ·simp only [Act.put, List.setIfInBounds_toArray, List.set_cons_zero, List.set_cons_succ, i64_w, i32_w]
                  rfl
                 refine pure_ (i := 8) (N := some 72) (v := ?_) (a' := ?_) #[true, true, true, true, true, true, true, true, true, false, false, false, false, false, false, false, false, false] rfl rfl (any_of HT_.out (by kernel_rfl)) (fun _ _ _ h => h) (Or.inl ⟨by rfl, ?_⟩) ?_ ?_
                 rotate_left
                 ·intro w'
                  go_simp
                  with_reducible rfl
                 rotate_left
                 ·simp only [Act.put, List.setIfInBounds_toArray, List.set_cons_zero, List.set_cons_succ, i64_w, i32_w]
                  rfl
                 refine pure_ (i := 11) (N := some 75) (v := ?_) (a' := ?_) #[true, true, true, true, true, true, true, true, true, false, false, true, false, false, false, false, false, false] rfl rfl (any_of HT_.out (by kernel_rfl)) (fun _ _ _ h => h) (Or.inl ⟨by rfl, ?_⟩) ?_ ?_
                 rotate_left
                 ·intro w'
                  go_simp
                  with_reducible rfl
                 rotate_left
                 ·simp only [Act.put, List.setIfInBounds_toArray, List.set_cons_zero, List.set_cons_succ, i64_w, i32_w]
                  rfl
                 refine pure_ (i := 12) (N := some 76) (v := ?_) (a' := ?_) #[true, true, true, true, true, true, true, true, true, false, false, true, true, false, false, false, false, false] rfl rfl (any_of HT_.out (by kernel_rfl)) (fun _ _ _ h => h) (Or.inl ⟨by rfl, ?_⟩) ?_ ?_
                 rotate_left
                 ·intro w'
                  go_simp
                  with_reducible rfl
                 rotate_left
                 ·simp only [Act.put, List.setIfInBounds_toArray, List.set_cons_zero, List.set_cons_succ, i64_w, i32_w]
                  rfl
                 refine pure_ (i := 13) (N := some 77) (v := ?_) (a' := ?_) #[true, true, true, true, true, true, true, true, true, false, false, true, true, true, false, false, false, false] rfl rfl (any_of HT_.out (by kernel_rfl)) (fun _ _ _ h => h) (Or.inl ⟨by rfl, ?_⟩) ?_ ?_
                 rotate_left
                 ·intro w'
                  go_simp
                  with_reducible rfl
                 rotate_left
                 ·simp only [Act.put, List.setIfInBounds_toArray, List.set_cons_zero, List.set_cons_succ, i64_w, i32_w]
                  rfl
                 refine pure_ (i := 14) (N := some 78) (v := ?_) (a' := ?_) #[true, true, true, true, true, true, true, true, true, false, false, true, true, true, true, false, false, false] rfl rfl (any_of HT_.out (by kernel_rfl)) (fun _ _ _ h => h) (Or.inl ⟨by rfl, ?_⟩) ?_ ?_
                 rotate_left
                 ·intro w'
                  go_simp
                  with_reducible rfl
                 rotate_left
                 ·simp only [Act.put, List.setIfInBounds_toArray, List.set_cons_zero, List.set_cons_succ, i64_w, i32_w]
                  rfl
                 refine one_ (i := 9) (N := some 73) #[true, true, true, true, true, true, true, true, true, true, false, true, true, true, true, false, false, false] rfl rfl (one_of HT_.out (by kernel_rfl)) (by decide) (fun K hK => ?_)
                 refine goes_ Tryz.func34 (by kernel_rfl) rfl #[.string (x9_2.extract (a2 : Int).toNat ((ji33) : Int).toNat)] (by rfl) rfl rfl (by (try simp only [List.map_toArray, List.map_cons, List.map_nil]); first | done | (simp only [hji33]; rfl) | rfl | (simp only [List.length_drop, List.length_take]; rfl)) ?_
                 with_reducible refine (impl_opposite.calls kj20 (x9_2.extract (a2 : Int).toNat ((ji33) : Int).toNat) t269 _ A31.out).mono ?_
                 rintro e w40 ⟨rfl, hb⟩
                 refine ⟨_, rfl, ?_⟩
                 have n0_ := Aside0.mk (Kd.R_below (by (with_reducible repeat (first | apply Kd.R_alloc | apply Kd.R_drewN | apply Kd.R_drew)); exact HO268.out) hb)
                 have n1_ := Aside0.mk (below_step (by repeat (first | (with_reducible first | exact HB.out | apply below_alloc | apply pw_below_drewN | apply below_drew1) | exact HB.out)) hb)
                 clear HO268
                 clear HB
                 have HO268 := n0_
                 have HB := n1_
                 clear n0_ n1_
                 (try clear hb)
                 (try clear hb2)
                 (try clear hk)
                 (try clear hi)
                 refine hK.out _ _ trivial (fun hHeld => ?_)
                 clear hK K
                 refine norm_ (a' := ?_) ?_ ?_
                 rotate_left
                 ·show Act.put _ (some 73) _ = _
                  simp only [Act.put, List.setIfInBounds_toArray, List.set_cons_zero, List.set_cons_succ, i64_w, i32_w]
                  rfl
                 refine pure_ (i := 10) (N := some 74) (v := ?_) (a' := ?_) #[true, true, true, true, true, true, true, true, true, true, true, true, true, true, true, false, false, false] rfl rfl (any_of HT_.out (by kernel_rfl)) (fun _ _ _ h => h) (Or.inl ⟨by rfl, ?_⟩) ?_ ?_
                 rotate_left
                 ·intro w'
                  go_simp
                  with_reducible rfl
                 rotate_left
                 ·simp only [Act.put, List.setIfInBounds_toArray, List.set_cons_zero, List.set_cons_succ, i64_w, i32_w]
                  rfl
                 refine pure_ (i := 15) (N := some 79) (v := ?_) (a' := ?_) #[true, true, true, true, true, true, true, true, true, true, true, true, true, true, true, true, false, false] rfl rfl (any_of HT_.out (by kernel_rfl)) (fun _ _ _ h => h) (Or.inl ⟨by rfl, ?_⟩) ?_ ?_
                 rotate_left
                 ·intro w'
                  go_simp
                  with_reducible rfl
                 rotate_left
                 ·simp only [Act.put, List.setIfInBounds_toArray, List.set_cons_zero, List.set_cons_succ, i64_w, i32_w]
                  rfl
                 refine one_ (i := 16) (N := some 80) #[true, true, true, true, true, true, true, true, true, true, true, true, true, true, true, true, true, false] rfl rfl (one_of HT_.out (by kernel_rfl)) (by decide) (fun K hK => ?_)
                 refine goes_ Tryz.func33 (by kernel_rfl) rfl #[.slice A0 l0.length c0, .string (((x9_2.extract 0 (a2 : Int).toNat) ++ t269) ++ (x9_2.extract ((ji33) : Int).toNat x9_2.size))] (by rfl) rfl rfl (by (try simp only [List.map_toArray, List.map_cons, List.map_nil]); first | done | (simp only [hji33]; rfl) | rfl | (simp only [List.length_drop, List.length_take]; rfl)) ?_
                 with_reducible refine (impl_ends.calls kj20 _ _ l0 (((x9_2.extract 0 (a2 : Int).toNat) ++ t269) ++ (x9_2.extract ((ji33) : Int).toNat x9_2.size)) t270 _ ?side1 ?side2 A37.out).mono ?_
                 (case side1 => repeat (first | exact (Kd.C_below HR0.out HB.out) | (with_reducible refine Kd.C_alloc ?_ _) | (with_reducible refine Kd.C_drewN ?_ _) | (with_reducible refine Kd.C_drew ?_)))
                 (case side2 => exact HC0.out)
                 rintro e w41 ⟨v271, rfl, ho0, hb⟩
                 refine ⟨_, rfl, ?_⟩
                 have n0_ := Aside0.mk (Kd.R_elder' (by (with_reducible repeat (first | apply Kd.R_alloc | apply Kd.R_drewN | apply Kd.R_drew)); exact HO268.out) (Kd.R_base ho0) hb)
                 have n1_ := Aside0.mk (Kd.R_lower (Kd.R_new' ho0 (Kd.R_lt (by (with_reducible repeat (first | apply Kd.R_alloc | apply Kd.R_drewN | apply Kd.R_drew)); exact HO268.out))) (below_size (by repeat (first | (with_reducible first | exact HB.out | apply below_alloc | apply pw_below_drewN | apply below_drew1) | exact HB.out))))
                 have n2_ := Aside0.mk (below_step (by repeat (first | (with_reducible first | exact HB.out | apply below_alloc | apply pw_below_drewN | apply below_drew1) | exact HB.out)) hb)
                 clear HO268
                 clear HB
                 have HO268 := n0_
                 have HO272 := n1_
                 have HB := n2_
                 clear n0_ n1_ n2_
                 (try clear hb)
                 (try clear hb2)
                 (try clear hk)
                 (try clear hi)
                 (try clear ho0)
                 refine hK.out _ _ trivial (fun hHeld => ?_)
                 clear hK K
                 refine norm_ (a' := ?_) ?_ ?_
                 rotate_left
                 ·show Act.put _ (some 80) _ = _
                  simp only [Act.put, List.setIfInBounds_toArray, List.set_cons_zero, List.set_cons_succ, i64_w, i32_w]
                  rfl
                 refine pure_ (i := 17) (N := some 13) (v := ?_) (a' := ?_) #[true, true, true, true, true, true, true, true, true, true, true, true, true, true, true, true, true, true] rfl rfl (any_of HT_.out (by kernel_rfl)) (fun _ _ _ h => h) (Or.inl ⟨by rfl, ?_⟩) ?_ ?_
                 rotate_left
                 ·intro w'
                  go_simp
                  with_reducible rfl
                 rotate_left
                 ·simp only [Act.put, List.setIfInBounds_toArray, List.set_cons_zero, List.set_cons_succ, i64_w, i32_w]
                  rfl
                 refine done_ (done_of HT_.out (by kernel_rfl)) ?_
                 try go_wp2
                 go_loopg [14, 15] kj20 (fun kq v14 v15 w' => ∃ (x14_4 : Int) (x15_4 : Int), v14 = .int .i64 x14_4 ∧ v15 = .int .i64 x15_4 ∧ Aside0 (impl_FlipLoss.l1 kq x9_2 t266 t270 x14_4 x15_4 = some (r1, r2, r3)) ∧ Aside0 (kq ≤ kj20) ∧ Aside0 (Kd.R Kd.bool 4 w' w.heap.size (fun k_ => some k_ ≠ (v271 : Value).ownBlock) v267 t266) ∧ Aside0 (Kd.R Kd.bool 4 w' w.heap.size (fun k_ => some k_ ≠ (v267 : Value).ownBlock) v271 t270) ∧ Aside0 (Below w.heap.size w w'))
                 case atStart => exact ⟨(0), (ji33), (by first | rfl | (simp; done) | (simp [*]; done)), (by first | rfl | (simp; done) | (simp only [← hji33] <;> (first | rfl | simp)) | (simp [*]; done)), H', ⟨Nat.le_refl _⟩, ⟨by (with_reducible repeat (first | apply Kd.R_alloc | apply Kd.R_drewN | apply Kd.R_drew)); exact Kd.R_mono HO268.out (fun _ hk => hk.2)⟩, ⟨by (with_reducible repeat (first | apply Kd.R_alloc | apply Kd.R_drewN | apply Kd.R_drew)); exact Kd.R_mono HO272.out (fun _ hk => hk.2)⟩, ⟨by repeat (first | (with_reducible first | exact HB.out | apply below_alloc | apply pw_below_drewN | apply below_drew1) | exact HB.out)⟩⟩
                 case round =>
                  clear H'
                  try clear c1
                  try clear c2
                  try clear p2
                  try clear q2
                  try clear hx2
                  try clear c3
                  try clear c6
                  try clear p6
                  try clear c7
                  try clear c7b0
                  try clear c7b1
                  try clear c9
                  try clear c9b0
                  try clear c9b1
                  try clear c12
                  try clear c14
                  try clear c15
                  try clear c15b0
                  try clear c16
                  try clear c16b0
                  try clear c17
                  try clear c17b0
                  try clear c18
                  try clear c18b0
                  try clear c19
                  try clear c19b0
                  try clear c20
                  try clear c20b0
                  try clear c20b1
                  try clear c20b2
                  try clear c22
                  try clear c22b0
                  try clear c22b1
                  try clear c24
                  try clear c26
                  try clear c26b0
                  try clear c26b1
                  try clear p26
                  try clear q26
                  try clear hx26
                  try clear c27
                  try clear c27b0
                  try clear c27b1
                  try clear c28
                  try clear c28b0
                  try clear c29
                  try clear c29b0
                  try clear c29b1
                  try clear c30
                  try clear c30b0
                  try clear c30b1
                  try clear c32
                  try clear c32b0
                  try clear c32b1
                  try clear c32b2
                  try clear c33
                  try clear c34
                  try clear c34b0
                  try clear c34b1
                  try clear c35
                  try clear c35b0
                  try clear c36
                  try clear c36b0
                  try clear c36b1
                  try clear c36b2
                  try clear hx263_0
                  try clear hx264_0
                  try clear p2
                  try clear p263
                  try clear p264
                  try clear p6
                  try clear q2
                  try clear q263
                  try clear q264
                  obtain ⟨x14_4, x15_4, rfl, rfl, HA, HK4, HO_12, HO_13, HB⟩ := hrel
                  cases gk with
                  | zero => exact absurd HA.out (by simp [impl_FlipLoss.l1])
                  | succ k4 =>
                   have H := HA.out
                   clear HA
                   simp only [impl_FlipLoss.l1] at H
                   by_cases c42 : x15_4 ≤ (x9_2.size : Int)
                   ·rw [if_pos c42] at H
                    have c42b0 : decide (x15_4 ≤ (x9_2.size : Int)) = true := decide_eq_true c42
                    clear c42
                    by_cases c43 : 0 ≤ x15_4
                    ·rw [if_pos c43] at H
                     have c43b0 : decide (0 ≤ x15_4) = true := decide_eq_true c43
                     clear c43
                     by_cases c44 : x15_4 < (t266.length : Int)
                     ·rw [if_pos c44] at H
                      have c44b0 : decide (x15_4 < (t266.length : Int)) = true := decide_eq_true c44
                      clear c44
                      obtain ⟨bq45, hbq45⟩ : ∃ b_ : Bool, b_ = (rdOf false t266 x15_4) := ⟨_, rfl⟩
                      replace H : (if bq45 = true then (if x15_4 < (t270.length : Int) then (if rdOf false t270 x15_4 = true then (some (wrap64 (x14_4 + 1), x15_4, true)) else (impl_FlipLoss.l1 k4 x9_2 t266 t270 (wrap64 (x14_4 + 1)) (wrap64 (x15_4 + 1)))) else (none)) else (impl_FlipLoss.l1 k4 x9_2 t266 t270 x14_4 (wrap64 (x15_4 + 1)))) = some (r1, r2, r3) := by rw [← hbq45] at H; exact H
                      have Nbq45 := Aside0.mk hbq45
                      clear hbq45
                      by_cases c46 : bq45 = true
                      ·subst c46
                       have H1 : (if x15_4 < (t270.length : Int) then (if rdOf false t270 x15_4 = true then (some (wrap64 (x14_4 + 1), x15_4, true)) else (impl_FlipLoss.l1 k4 x9_2 t266 t270 (wrap64 (x14_4 + 1)) (wrap64 (x15_4 + 1)))) else (none)) = some (r1, r2, r3) := by rw [if_pos rfl] at H; exact H
                       clear H
                       have H := H1
                       clear H1
                       by_cases c47 : x15_4 < (t270.length : Int)
                       ·rw [if_pos c47] at H
                        have c47b0 : decide (x15_4 < (t270.length : Int)) = true := decide_eq_true c47
                        clear c47
                        obtain ⟨bq48, hbq48⟩ : ∃ b_ : Bool, b_ = (rdOf false t270 x15_4) := ⟨_, rfl⟩
                        replace H : (if bq48 = true then (some (wrap64 (x14_4 + 1), x15_4, true)) else (impl_FlipLoss.l1 k4 x9_2 t266 t270 (wrap64 (x14_4 + 1)) (wrap64 (x15_4 + 1)))) = some (r1, r2, r3) := by rw [← hbq48] at H; exact H
                        have Nbq48 := Aside0.mk hbq48
                        clear hbq48
                        by_cases c49 : bq48 = true
                        ·subst c49
                         have H1 : (some (wrap64 (x14_4 + 1), x15_4, true)) = some (r1, r2, r3) := by rw [if_pos rfl] at H; exact H
                         clear H
                         have H := H1
                         clear H1
                         simp only [Option.some.injEq, Prod.mk.injEq] at H
                         obtain ⟨rfl, rfl, rfl⟩ := H
                         obtain ⟨Ao50, co50, eo50⟩ := Kd.R_slice HO_12.out
                         subst eo50
                         have p273 : 0 ≤ (x15_4 : Int) := of_decide_eq_true (by first | (with_reducible assumption) | assumption)
                         have q273 : x15_4 < (t266.length : Int) := of_decide_eq_true (by first | (with_reducible assumption) | assumption)
                         obtain ⟨ad273, e273, hx273_0⟩ := Kd.at_bool (Kd.R_reads' HO_12.out).2.2 x15_4 p273 q273
                         (try rw [← Nbq45.out] at hx273_0)
                         (try rw [← Nbq48.out] at hx273_0)
                         cases e273
                         replace p273 := eq_true p273
                         replace q273 := eq_true q273
                         obtain ⟨Ao51, co51, eo51⟩ := Kd.R_slice HO_13.out
                         subst eo51
                         have p274 : 0 ≤ (x15_4 : Int) := of_decide_eq_true (by first | (with_reducible assumption) | assumption)
                         have q274 : x15_4 < (t270.length : Int) := of_decide_eq_true (by first | (with_reducible assumption) | assumption)
                         obtain ⟨ad274, e274, hx274_0⟩ := Kd.at_bool (Kd.R_reads' HO_13.out).2.2 x15_4 p274 q274
                         (try rw [← Nbq45.out] at hx274_0)
                         (try rw [← Nbq48.out] at hx274_0)
                         cases e274
                         replace p274 := eq_true p274
                         replace q274 := eq_true q274
                         go_wp2
                         go_ret3
                         exact ⟨by first | rfl | (simp [errW_none, errW_some] <;> rfl) | (simp only [← hji33]; first | rfl | (simp [errW_none, errW_some] <;> rfl)) | (simp [*, errW_none, errW_some] <;> rfl), by repeat (first | (with_reducible first | exact HB.out | apply below_alloc | apply pw_below_drewN | apply below_drew1) | exact HB.out)⟩
                        ·replace c49 := Bool.eq_false_iff.mpr c49
                         subst c49
                         have H1 : (impl_FlipLoss.l1 k4 x9_2 t266 t270 (wrap64 (x14_4 + 1)) (wrap64 (x15_4 + 1))) = some (r1, r2, r3) := by rw [if_neg (show ¬ (false = true) by decide)] at H; exact H
                         clear H
                         have H := H1
                         clear H1
                         have H' := Aside0.mk H
                         clear H
                         obtain ⟨Ao52, co52, eo52⟩ := Kd.R_slice HO_12.out
                         subst eo52
                         have p273 : 0 ≤ (x15_4 : Int) := of_decide_eq_true (by first | (with_reducible assumption) | assumption)
                         have q273 : x15_4 < (t266.length : Int) := of_decide_eq_true (by first | (with_reducible assumption) | assumption)
                         obtain ⟨ad273, e273, hx273_0⟩ := Kd.at_bool (Kd.R_reads' HO_12.out).2.2 x15_4 p273 q273
                         (try rw [← Nbq45.out] at hx273_0)
                         (try rw [← Nbq48.out] at hx273_0)
                         cases e273
                         replace p273 := eq_true p273
                         replace q273 := eq_true q273
                         obtain ⟨Ao53, co53, eo53⟩ := Kd.R_slice HO_13.out
                         subst eo53
                         have p274 : 0 ≤ (x15_4 : Int) := of_decide_eq_true (by first | (with_reducible assumption) | assumption)
                         have q274 : x15_4 < (t270.length : Int) := of_decide_eq_true (by first | (with_reducible assumption) | assumption)
                         obtain ⟨ad274, e274, hx274_0⟩ := Kd.at_bool (Kd.R_reads' HO_13.out).2.2 x15_4 p274 q274
                         (try rw [← Nbq45.out] at hx274_0)
                         (try rw [← Nbq48.out] at hx274_0)
                         cases e274
                         replace p274 := eq_true p274
                         replace q274 := eq_true q274
                         go_wp2
                         go_roundg k4
                         case measure => have := HJ3.out; have := HK2.out; have := HJ20.out; have := HK4.out; omega
                         case rel => exact ⟨(wrap64 (x14_4 + 1)), (wrap64 (x15_4 + 1)), (by first | rfl | (simp; done) | (simp [*]; done)), (by first | rfl | (simp; done) | (simp [*]; done)), H', ⟨by have := HJ3.out; have := HK2.out; have := HJ20.out; have := HK4.out; omega⟩, ⟨by (with_reducible repeat (first | apply Kd.R_alloc | apply Kd.R_drewN | apply Kd.R_drew)); exact HO_12.out⟩, ⟨by (with_reducible repeat (first | apply Kd.R_alloc | apply Kd.R_drewN | apply Kd.R_drew)); exact HO_13.out⟩, ⟨by repeat (first | (with_reducible first | exact HB.out | apply below_alloc | apply pw_below_drewN | apply below_drew1) | exact HB.out)⟩⟩
                       ·rw [if_neg c47] at H
                        exact absurd H (by simp)
                      ·replace c46 := Bool.eq_false_iff.mpr c46
                       subst c46
                       have H1 : (impl_FlipLoss.l1 k4 x9_2 t266 t270 x14_4 (wrap64 (x15_4 + 1))) = some (r1, r2, r3) := by rw [if_neg (show ¬ (false = true) by decide)] at H; exact H
                       clear H
                       have H := H1
                       clear H1
                       have H' := Aside0.mk H
                       clear H
                       obtain ⟨Ao54, co54, eo54⟩ := Kd.R_slice HO_12.out
                       subst eo54
                       have p273 : 0 ≤ (x15_4 : Int) := of_decide_eq_true (by first | (with_reducible assumption) | assumption)
                       have q273 : x15_4 < (t266.length : Int) := of_decide_eq_true (by first | (with_reducible assumption) | assumption)
                       obtain ⟨ad273, e273, hx273_0⟩ := Kd.at_bool (Kd.R_reads' HO_12.out).2.2 x15_4 p273 q273
                       (try rw [← Nbq45.out] at hx273_0)
                       cases e273
                       replace p273 := eq_true p273
                       replace q273 := eq_true q273
                       go_wp2
                       go_roundg k4
                       case measure => have := HJ3.out; have := HK2.out; have := HJ20.out; have := HK4.out; omega
                       case rel => exact ⟨(x14_4), (wrap64 (x15_4 + 1)), (by first | rfl | (simp; done) | (simp [*]; done)), (by first | rfl | (simp; done) | (simp [*]; done)), H', ⟨by have := HJ3.out; have := HK2.out; have := HJ20.out; have := HK4.out; omega⟩, ⟨by (with_reducible repeat (first | apply Kd.R_alloc | apply Kd.R_drewN | apply Kd.R_drew)); exact HO_12.out⟩, ⟨by (with_reducible repeat (first | apply Kd.R_alloc | apply Kd.R_drewN | apply Kd.R_drew)); exact HO_13.out⟩, ⟨by repeat (first | (with_reducible first | exact HB.out | apply below_alloc | apply pw_below_drewN | apply below_drew1) | exact HB.out)⟩⟩
                     ·rw [if_neg c44] at H
                      exact absurd H (by simp)
                    ·rw [if_neg c43] at H
                     exact absurd H (by simp)
                   ·rw [if_neg c42] at H
                    have c42b0 : decide (x15_4 ≤ (x9_2.size : Int)) = false := decide_eq_false c42
                    clear c42
                    simp only [Option.some.injEq, Prod.mk.injEq] at H
                    obtain ⟨rfl, rfl, rfl⟩ := H
                    go_wp2
                    go_ret3
                    exact ⟨by first | rfl | (simp [errW_none, errW_some] <;> rfl) | (simp only [← hji33]; first | rfl | (simp [errW_none, errW_some] <;> rfl)) | (simp [*, errW_none, errW_some] <;> rfl), by repeat (first | (with_reducible first | exact HB.out | apply below_alloc | apply pw_below_drewN | apply below_drew1) | exact HB.out)⟩
                ·rw [if_neg c36] at H
                 exact absurd H (by simp)
               ·rw [if_neg c34] at H
                exact absurd H (by simp)
              ·rw [if_neg c32] at H
               exact absurd H (by simp)
             ·rw [if_neg c30] at H
              exact absurd H (by simp)
            ·rw [if_neg c29] at H
             exact absurd H (by simp)
           ·rw [if_neg c27] at H
            exact absurd H (by simp)
          ·rw [if_neg c26] at H
           exact absurd H (by simp)
end Go.Proofs.YtabppnjmdlaohaaGreatDoor.QFnSynchronised
