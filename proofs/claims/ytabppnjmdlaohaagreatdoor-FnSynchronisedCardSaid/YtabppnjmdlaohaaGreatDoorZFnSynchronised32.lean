/- A text of this claim, made small by a program of this session (wip/pack.py): lemmas and contracts that the law's row leans on. -/
import Derived.Test.YtabppnjmdlaohaaGreatDoorZFnSynchronised25
import Derived.Test.YtabppnjmdlaohaaGreatDoorZFnSynchronised28
import Derived.Test.YtabppnjmdlaohaaGreatDoorZFnSynchronised30
import Derived.Test.YtabppnjmdlaohaaGreatDoorZFnSynchronised31
namespace Go.Proofs.YtabppnjmdlaohaaGreatDoor.QFnSynchronised
open Go.RowKit Go.Proofs.YtabppnjmdlaohaaGreatDoorW.PrintWords Go.Proofs.YtabppnjmdlaohaaGreatDoorW.PrintLast Go.Proofs.YtabppnjmdlaohaaGreatDoorW.PrintMore
attribute [local go_sem] max2_int min2_int max_two min_two max_three min_three max_four min_four
set_option linter.unusedVariables false
set_option linter.unusedSimpArgs false
mutual
def spec_SyncWord.j0 : Nat → List ByteArray → Bool → Option (ByteArray × Bool)
 | 0, _, _ => none
 | k + 1, x0, x30 => if x30 = true then (some ((⟨#[]⟩ : ByteArray), false)) else ((spec_l05Readers.f k x0).bind fun t180 => (if 2 ≤ 11728124029610 then (spec_SyncWord.l0 k x0 t180 (t180.length : Int) (List.replicate 2 []) 0) else (none)))
def spec_SyncWord.l0 : Nat → List ByteArray → List ByteArray → Int → List (List Int) → Int → Option (ByteArray × Bool)
 | 0, _, _, _, _, _ => none
 | k + 1, x0, x4, x5, x6, x7 => if x7 < 2 then (spec_SyncWord.l1 k x0 x4 x5 x6 x7 0) else ((spec_l03Index.f k x4 (⟨#[]⟩ : ByteArray)).bind fun t197 => (if 0 ≤ (IntKind.u64.wrap (t197)) then (if 0 ≤ (IntKind.u64.wrap (x5)) then (if 0 ≤ (shl .i64 1 (IntKind.u64.wrap (x5))) then (if (shl .i64 1 (IntKind.u64.wrap (x5)) : Int).toNat ≤ 35184372088832 then ((some (List.replicate (shl .i64 1 (IntKind.u64.wrap (x5)) : Int).toNat 0 : List Int)).bind fun y198 => (if 0 ≤ (wrap64 ((shl .i64 1 (IntKind.u64.wrap (x5))) - 1)) then (if (wrap64 ((shl .i64 1 (IntKind.u64.wrap (x5))) - 1)) < (y198.length : Int) then (spec_SyncWord.l2 k x5 x6 (shl .i64 1 (IntKind.u64.wrap (t197))) (y198.set ((wrap64 ((shl .i64 1 (IntKind.u64.wrap (x5))) - 1)) : Int).toNat (-1)) (([wrap64 ((shl .i64 1 (IntKind.u64.wrap (x5))) - 1)] : List Int)) 0) else (none)) else (none))) else (none)) else (none)) else (none)) else (none)))
def spec_SyncWord.l1 : Nat → List ByteArray → List ByteArray → Int → List (List Int) → Int → Int → Option (ByteArray × Bool)
 | 0, _, _, _, _, _, _ => none
 | k + 1, x0, x4, x5, x6, x7, x8 => if x8 < x5 then (if 0 ≤ x7 then (if x7 < (x6.length : Int) then (if 0 ≤ x8 then (if x8 < (x4.length : Int) then ((spec_l05Read.f k x0 (rdOf ByteArray.empty x4 x8) (strOfNums (([(wrap64 (48 + x7)) % 256] : List Int)))).bind fun t191 => ((spec_l03Index.f k x4 t191).bind fun t192 => (if (rd_L3 x6 x7).length < 17592186044416 then (spec_SyncWord.l1 k x0 x4 x5 (x6.set (x7 : Int).toNat ((rd_L3 x6 x7) ++ [t192])) x7 (wrap64 (x8 + 1))) else (none)))) else (none)) else (none)) else (none)) else (none)) else (spec_SyncWord.l0 k x0 x4 x5 x6 (wrap64 (x7 + 1)))
def spec_SyncWord.l2 : Nat → Int → List (List Int) → Int → List Int → List Int → Int → Option (ByteArray × Bool)
 | 0, _, _, _, _, _, _ => none
 | k + 1, x5, x6, x9, x10, x12, x13 => if x13 < (x12.length : Int) then (if 0 ≤ x13 then (spec_SyncWord.l3 k x5 x6 x9 x10 x12 x13 (rd x12 x13) 0) else (none)) else (some ((⟨#[]⟩ : ByteArray), false))
def spec_SyncWord.l3 : Nat → Int → List (List Int) → Int → List Int → List Int → Int → Int → Int → Option (ByteArray × Bool)
 | 0, _, _, _, _, _, _, _, _ => none
 | k + 1, x5, x6, x9, x10, x12, x13, x14, x15 => if x15 < 2 then (spec_SyncWord.l4 k x5 x6 x9 x10 x12 x13 x14 x15 0 0) else (spec_SyncWord.l2 k x5 x6 x9 x10 x12 (wrap64 (x13 + 1)))
def spec_SyncWord.l4 : Nat → Int → List (List Int) → Int → List Int → List Int → Int → Int → Int → Int → Int → Option (ByteArray × Bool)
 | 0, _, _, _, _, _, _, _, _, _, _ => none
 | k + 1, x5, x6, x9, x10, x12, x13, x14, x15, x16, x17 => if x17 < x5 then (if 0 ≤ (IntKind.u64.wrap (x17)) then (if (Go.bits .and .i64 (shr .i64 x14 (IntKind.u64.wrap (x17))) 1) = 1 then (if 0 ≤ x15 then (if x15 < (x6.length : Int) then (if 0 ≤ x17 then (if x17 < ((rd_L3 x6 x15).length : Int) then (if 0 ≤ (IntKind.u64.wrap (rd (rd_L3 x6 x15) x17)) then (spec_SyncWord.l4 k x5 x6 x9 x10 x12 x13 x14 x15 (Go.bits .or .i64 x16 (shl .i64 1 (IntKind.u64.wrap (rd (rd_L3 x6 x15) x17)))) (wrap64 (x17 + 1))) else (none)) else (none)) else (none)) else (none)) else (none)) else (spec_SyncWord.l4 k x5 x6 x9 x10 x12 x13 x14 x15 x16 (wrap64 (x17 + 1)))) else (none)) else (if x16 = x9 then ((spec_l05Back.f k x10 x14).bind fun t208 => ((some (([(wrap64 (48 + x15)) % 256] : List Int) : List Int)).bind fun y209 => (if t208.size + (strOfNums y209).size ≤ 9223372036854775807 then (some (t208 ++ (strOfNums y209), true)) else (none)))) else (if 0 ≤ x16 then (if x16 < (x10.length : Int) then (if (rd x10 x16) = 0 then (if x12.length < 17592186044416 then (spec_SyncWord.l3 k x5 x6 x9 (x10.set (x16 : Int).toNat (wrap64 ((wrap64 (2 * x14)) + x15))) (x12 ++ [x16]) x13 x14 (wrap64 (x15 + 1))) else (none)) else (spec_SyncWord.l3 k x5 x6 x9 x10 x12 x13 x14 (wrap64 (x15 + 1)))) else (none)) else (none)))
end
def spec_SyncWord.f (k : Nat) (l0 : List ByteArray) : Option (ByteArray × Bool) := (spec_l05Is.f k l0).bind fun t178 => (if t178 = true then (if (l0.length : Int) < 2 then (spec_SyncWord.j0 k l0 true) else ((spec_l05Complete.f k l0).bind fun t179 => (spec_SyncWord.j0 k l0 (!t179)))) else (spec_SyncWord.j0 k l0 true))
def spec_SyncWord.T12 : Bool × List (List Nat × List Nat) := (true, [([], []), ([], []), ([], []), ([], []), ([2, 3], [2, 3]), ([4], [4]), ([], []), ([], []), ([], []), ([], []), ([8, 9], [8, 9]), ([10], [10]), ([], []), ([12], [12]), ([13], [13]), ([14], [14]), ([15], [15]), ([7, 11, 16], [7, 11, 16]), ([6, 17, 17], [6, 17]), ([18], [18]), ([5, 19, 18], [5, 19]), ([0, 1, 0, 1, 2, 3, 4, 5, 6, 7, 8, 9, 10, 11, 12, 13, 14, 15, 16, 17, 18, 19, 20], [0, 1]), ([21, 20, 20, 0, 1, 2, 3, 4, 5, 6, 7, 8, 9, 10, 11, 12, 13, 14, 15, 16, 17, 18, 19, 20], [20, 21])])
def spec_SyncWord.B12 : List Nat := [0, 0, 0, 0, 12, 28, 0, 0, 0, 0, 768, 1792, 0, 4096, 12288, 28672, 61440, 130944, 262080, 524224, 1048572, 2097151, 4194303]
theorem spec_SyncWord.tab12 : rtab .any (opsOf Tryz.f8 12) = spec_SyncWord.T12 := by kernel_rfl
theorem spec_SyncWord.bits12 : waitsOk spec_SyncWord.T12.2 spec_SyncWord.B12 = true := by kernel_rfl
def spec_SyncWord.T32 : Bool × List (List Nat × List Nat) := (true, [([], []), ([], []), ([0, 1], [0, 1]), ([], []), ([3], [3]), ([4], [4]), ([5], [5]), ([6], [6]), ([2, 7], [2, 7]), ([8, 2, 0, 1, 2, 3, 4, 5, 6, 7, 8], [8]), ([9, 0, 1, 2, 3, 4, 5, 6, 7, 8, 9], [])])
def spec_SyncWord.B32 : List Nat := [0, 0, 3, 0, 8, 24, 56, 120, 255, 511, 1023]
theorem spec_SyncWord.tab32 : rtab .any (opsOf Tryz.f8 32) = spec_SyncWord.T32 := by kernel_rfl
theorem spec_SyncWord.bits32 : waitsOk spec_SyncWord.T32.2 spec_SyncWord.B32 = true := by kernel_rfl
set_option maxHeartbeats 8000000 in
set_option maxRecDepth 100000 in
theorem spec_SyncWord.calls (k : Nat) (A0 : Option Addr) (c0 : Nat) (l0 : List ByteArray) (r1 : ByteArray) (r2 : Bool) (w : World) (hr0 : Kd.C Kd.string w A0 l0.length l0) (hc0 : l0.length ≤ c0) (h : spec_SyncWord.f k l0 = some (r1, r2)) :
 Calls Tryz.prog 8 #[.slice A0 l0.length c0] w fun e w' => e = .returned (.tuple #[.string r1, .bool r2]) ∧ Below w.heap.size w w' := by
 have HR0 := Aside0.mk hr0
 have HC0 := Aside0.mk hc0
 clear hr0 hc0
 have HB := Aside0.mk (Below.refl w.heap.size w)
 have H : ((spec_l05Is.f k l0).bind fun t178 => (if t178 = true then (if (l0.length : Int) < 2 then (spec_SyncWord.j0 k l0 true) else ((spec_l05Complete.f k l0).bind fun t179 => (spec_SyncWord.j0 k l0 (!t179)))) else (spec_SyncWord.j0 k l0 true))) = some (r1, r2) := h
 clear h
 have HC2 := Aside0.mk H
 clear H
 go_enter Tryz.func8, Tryz.ntmps8
 go_upto_region 1 with (fail)
 go_cut [30] (fun v30 wc => ∃ (kq : Nat) (x30_1 : Bool), v30 = .bool x30_1 ∧ Aside0 (spec_SyncWord.j0 kq l0 x30_1 = some (r1, r2)) ∧ Aside0 (kq ≤ k) ∧ Aside0 (Below w.heap.size w wc))
 case first =>
  have H := HC2.out
  clear HC2
  replace H := Option.bind_eq_some_iff.mp H
  obtain ⟨t178, A30, H⟩ := H
  replace H : (if t178 = true then (if (l0.length : Int) < 2 then (spec_SyncWord.j0 k l0 true) else ((spec_l05Complete.f k l0).bind fun t179 => (spec_SyncWord.j0 k l0 (!t179)))) else (spec_SyncWord.j0 k l0 true)) = some (r1, r2) := H
  have A3 := Aside0.mk A30
  clear A30
  by_cases c4 : t178 = true
  ·subst c4
   have H1 : (if (l0.length : Int) < 2 then (spec_SyncWord.j0 k l0 true) else ((spec_l05Complete.f k l0).bind fun t179 => (spec_SyncWord.j0 k l0 (!t179)))) = some (r1, r2) := by rw [if_pos rfl] at H; exact H
   clear H
   have H := H1
   clear H1
   by_cases c5 : (l0.length : Int) < 2
   ·rw [if_pos c5] at H
    have c5b0 : decide ((l0.length : Int) < 2) = true := decide_eq_true c5
    have c5b1 : decide (l0.length < 2) = true := decide_eq_true (by omega)
    clear c5
    (first | rw [c5b0] | (simp only [i64_w, i32_w]; rw [c5b0]) | skip)
    have H' := Aside0.mk H
    clear H
    go_wp2_with (first | ((with_reducible refine gate_callee (f := 21) rfl ?_); refine goesL_ (some 19) rfl rfl Tryz.func21 (by kernel_rfl) rfl #[.slice A0 l0.length c0] rfl (by (try simp only [List.map_toArray, List.map_cons, List.map_nil]); first | done | rfl | (simp only [List.length_drop, List.length_take]; rfl)) ?_; (with_reducible refine (spec_l05Is.calls k _ _ l0 true _ ?side1 ?side2 A3.out).mono ?_); (case side1 => repeat (first | exact (Kd.C_below HR0.out HB.out) | (with_reducible refine Kd.C_alloc ?_ _) | (with_reducible refine Kd.C_drewN ?_ _) | (with_reducible refine Kd.C_drew ?_))); (case side2 => exact HC0.out); rintro e w6 ⟨rfl, hb⟩; refine ⟨_, rfl, ?_⟩; have n0_ := Aside0.mk (below_step (by repeat (first | (with_reducible first | exact HB.out | apply below_alloc | apply pw_below_drewN | apply below_drew1) | exact HB.out)) hb); clear HB; have HB := n0_; clear n0_; (try clear hb); (try clear hb2); (try clear hk); (try clear hi)))
    go_meet
    case rel => exact ⟨_, (true), (by first | rfl | (simp; done) | (simp [*]; done)), H', ⟨by first | omega | exact Nat.le_refl _⟩, ⟨by repeat (first | (with_reducible first | exact HB.out | apply below_alloc | apply pw_below_drewN | apply below_drew1) | exact HB.out)⟩⟩
   ·rw [if_neg c5] at H
    have c5b0 : decide ((l0.length : Int) < 2) = false := decide_eq_false c5
    have c5b1 : decide (l0.length < 2) = false := decide_eq_false (by omega)
    clear c5
    (first | rw [c5b0] | (simp only [i64_w, i32_w]; rw [c5b0]) | skip)
    replace H := Option.bind_eq_some_iff.mp H
    obtain ⟨t179, A70, H⟩ := H
    replace H : (spec_SyncWord.j0 k l0 (!t179)) = some (r1, r2) := H
    have A7 := Aside0.mk A70
    clear A70
    have H' := Aside0.mk H
    clear H
    go_wp2_with (first | ((with_reducible refine gate_callee (f := 21) rfl ?_); refine goesL_ (some 19) rfl rfl Tryz.func21 (by kernel_rfl) rfl #[.slice A0 l0.length c0] rfl (by (try simp only [List.map_toArray, List.map_cons, List.map_nil]); first | done | rfl | (simp only [List.length_drop, List.length_take]; rfl)) ?_; (with_reducible refine (spec_l05Is.calls k _ _ l0 true _ ?side1 ?side2 A3.out).mono ?_); (case side1 => repeat (first | exact (Kd.C_below HR0.out HB.out) | (with_reducible refine Kd.C_alloc ?_ _) | (with_reducible refine Kd.C_drewN ?_ _) | (with_reducible refine Kd.C_drew ?_))); (case side2 => exact HC0.out); rintro e w8 ⟨rfl, hb⟩; refine ⟨_, rfl, ?_⟩; have n0_ := Aside0.mk (below_step (by repeat (first | (with_reducible first | exact HB.out | apply below_alloc | apply pw_below_drewN | apply below_drew1) | exact HB.out)) hb); clear HB; have HB := n0_; clear n0_; (try clear hb); (try clear hb2); (try clear hk); (try clear hi)) | (go_at_call 22; (with_reducible refine (spec_l05Complete.calls k _ _ l0 t179 _ ?side1 ?side2 A7.out).mono ?_); (case side1 => repeat (first | exact (Kd.C_below HR0.out HB.out) | (with_reducible refine Kd.C_alloc ?_ _) | (with_reducible refine Kd.C_drewN ?_ _) | (with_reducible refine Kd.C_drew ?_))); (case side2 => exact HC0.out); rintro e w' ⟨rfl, ⟨nd, rfl⟩⟩))
    go_meet
    case rel => exact ⟨_, (!t179), (by first | rfl | (simp; done) | (simp [*]; done)), H', ⟨by first | omega | exact Nat.le_refl _⟩, ⟨by repeat (first | (with_reducible first | exact HB.out | apply below_alloc | apply pw_below_drewN | apply below_drew1) | exact HB.out)⟩⟩
  ·replace c4 := Bool.eq_false_iff.mpr c4
   subst c4
   have H1 : (spec_SyncWord.j0 k l0 true) = some (r1, r2) := by rw [if_neg (show ¬ (false = true) by decide)] at H; exact H
   clear H
   have H := H1
   clear H1
   have H' := Aside0.mk H
   clear H
   go_wp2_with (first | ((with_reducible refine gate_callee (f := 21) rfl ?_); refine goesL_ (some 19) rfl rfl Tryz.func21 (by kernel_rfl) rfl #[.slice A0 l0.length c0] rfl (by (try simp only [List.map_toArray, List.map_cons, List.map_nil]); first | done | rfl | (simp only [List.length_drop, List.length_take]; rfl)) ?_; (with_reducible refine (spec_l05Is.calls k _ _ l0 false _ ?side1 ?side2 A3.out).mono ?_); (case side1 => repeat (first | exact (Kd.C_below HR0.out HB.out) | (with_reducible refine Kd.C_alloc ?_ _) | (with_reducible refine Kd.C_drewN ?_ _) | (with_reducible refine Kd.C_drew ?_))); (case side2 => exact HC0.out); rintro e w9 ⟨rfl, hb⟩; refine ⟨_, rfl, ?_⟩; have n0_ := Aside0.mk (below_step (by repeat (first | (with_reducible first | exact HB.out | apply below_alloc | apply pw_below_drewN | apply below_drew1) | exact HB.out)) hb); clear HB; have HB := n0_; clear n0_; (try clear hb); (try clear hb2); (try clear hk); (try clear hi)))
   go_meet
   case rel => exact ⟨_, (true), (by first | rfl | (simp; done) | (simp [*]; done)), H', ⟨by first | omega | exact Nat.le_refl _⟩, ⟨by repeat (first | (with_reducible first | exact HB.out | apply below_alloc | apply pw_below_drewN | apply below_drew1) | exact HB.out)⟩⟩
 case rest => as_aux_lemma =>
  clear HC2
  try clear c2
  try clear p2
  try clear c4
  try clear c5
  try clear c5b0
  try clear c5b1
  try clear c8
  obtain ⟨kq, x30_1, rfl, HA, HJ1, HB⟩ := hcut
  cases kq with
  | zero => exact absurd HA.out (by simp [spec_SyncWord.j0])
  | succ kj1 =>
   have H := HA.out
   clear HA
   simp only [spec_SyncWord.j0] at H
   by_cases c10 : x30_1 = true
   ·subst c10
    have H1 : (some ((⟨#[]⟩ : ByteArray), false)) = some (r1, r2) := by rw [if_pos rfl] at H; exact H
    clear H
    have H := H1
    clear H1
    simp only [Option.some.injEq, Prod.mk.injEq] at H
    obtain ⟨rfl, rfl⟩ := H
    go_wp2
    go_ret2
    exact ⟨by first | rfl | (simp [errW_none, errW_some] <;> rfl) | (simp [*, errW_none, errW_some] <;> rfl), by repeat (first | (with_reducible first | exact HB.out | apply below_alloc | apply pw_below_drewN | apply below_drew1) | exact HB.out)⟩
   ·replace c10 := Bool.eq_false_iff.mpr c10
    subst c10
    have H1 : ((spec_l05Readers.f kj1 l0).bind fun t180 => (if 2 ≤ 11728124029610 then (spec_SyncWord.l0 kj1 l0 t180 (t180.length : Int) (List.replicate 2 []) 0) else (none))) = some (r1, r2) := by rw [if_neg (show ¬ (false = true) by decide)] at H; exact H
    clear H
    have H := H1
    clear H1
    replace H := Option.bind_eq_some_iff.mp H
    obtain ⟨t180, A110, H⟩ := H
    replace H : (if 2 ≤ 11728124029610 then (spec_SyncWord.l0 kj1 l0 t180 (t180.length : Int) (List.replicate 2 []) 0) else (none)) = some (r1, r2) := H
    have A11 := Aside0.mk A110
    clear A110
    by_cases c12 : 2 ≤ 11728124029610
    ·rw [if_pos c12] at H
     have c12b0 := eq_true c12
     have c12b1 : decide (2 ≤ 11728124029610) = true := decide_eq_true c12
     clear c12
     obtain ⟨y183, hy183⟩ : ∃ y_ : List (List Int), y_ = (List.replicate 2 []) := ⟨_, rfl⟩
     replace H : (spec_SyncWord.l0 kj1 l0 t180 (t180.length : Int) y183 0) = some (r1, r2) := by first | (rw [hy183]; with_reducible exact H) | (have H2_ := (Option.bind_some _ _).symm.trans H; rw [hy183]; with_reducible exact H2_) | (have H2_ := (Option.bind_some _ _).symm.trans H; with_reducible exact H2_) | with_reducible exact H | (rw [hy183]; exact H) | exact H
     have Ny183 := Aside0.mk hy183
     clear hy183
     have H' := Aside0.mk H
     clear H
     go_wp2_with (first | ((with_reducible refine gate_callee (f := 23) rfl ?_); refine goesL_ (some 32) rfl rfl Tryz.func23 (by kernel_rfl) rfl #[.slice A0 l0.length c0] rfl (by (try simp only [List.map_toArray, List.map_cons, List.map_nil]); first | done | rfl | (simp only [List.length_drop, List.length_take]; rfl)) ?_; (with_reducible refine (spec_l05Readers.calls kj1 _ _ l0 t180 _ ?side1 ?side2 A11.out).mono ?_); (case side1 => repeat (first | exact (Kd.C_below HR0.out HB.out) | (with_reducible refine Kd.C_alloc ?_ _) | (with_reducible refine Kd.C_drewN ?_ _) | (with_reducible refine Kd.C_drew ?_))); (case side2 => exact HC0.out); rintro e w13 ⟨v181, rfl, ho0, hb⟩; refine ⟨_, rfl, ?_⟩; have n0_ := Aside0.mk (Kd.R_lower ho0 (below_size (by repeat (first | (with_reducible first | exact HB.out | apply below_alloc | apply pw_below_drewN | apply below_drew1) | exact HB.out)))); have n1_ := Aside0.mk (below_step (by repeat (first | (with_reducible first | exact HB.out | apply below_alloc | apply pw_below_drewN | apply below_drew1) | exact HB.out)) hb); clear HB; have HO182 := n0_; have HB := n1_; clear n0_ n1_; (try clear hb); (try clear hb2); (try clear hk); (try clear hi); (try clear ho0); obtain ⟨Ao14, co14, eo14⟩ := Kd.R_slice HO182.out; subst eo14) | ((with_reducible refine gate_dst (N := 35) rfl ?_); (try (refine gate_guard (by rfl) ?_; dsimp only)); refine Kd.S_make (Kd.slice 3 (Kd.int .i64)) _ 49 rfl (N := 35) rfl 48 _ _ rfl 2 rfl rfl Tryz.underlying48 (.slice none 0 0) 24 info49 rfl (by decide) (by omega) [] (ok := fun _ => True) (okp := fun _ => True) ⟨_, rfl, Kd.R_nil _ _ _ _ _⟩ (fun _ hk => hk) trivial (by omega) (by omega) (Below.refl _ _) (Nat.le_refl _) ?_; intro v184 w15 ho16 hb hg_ hnew_; clear hg_ hnew_; (first | rw [← Ny183.out] at ho16 | (simp only [Int.reduceToNat] at ho16; rw [← Ny183.out] at ho16)); have n0_ := Aside0.mk (Kd.R_below (by (with_reducible repeat (first | apply Kd.R_alloc | apply Kd.R_drewN | apply Kd.R_drew)); exact HO182.out) hb); have n1_ := Aside0.mk (Kd.S_lower ho16 (below_size (by repeat (first | (with_reducible first | exact HB.out | apply below_alloc | apply pw_below_drewN | apply below_drew1) | exact HB.out)))); have n2_ := Aside0.mk (below_step (by repeat (first | (with_reducible first | exact HB.out | apply below_alloc | apply pw_below_drewN | apply below_drew1) | exact HB.out)) hb); clear HO182; clear HB; have HO182 := n0_; have HO185 := n1_; have HB := n2_; clear n0_ n1_ n2_; clear hb ho16))
     go_loopg [7] kj1 (fun kq v7 w' => ∃ (x6_2 : List (List Int)) (x7_2 : Int), v7 = .int .i64 x7_2 ∧ Aside0 (spec_SyncWord.l0 kq l0 t180 (t180.length : Int) x6_2 x7_2 = some (r1, r2)) ∧ Aside0 (kq ≤ kj1) ∧ Aside0 (Kd.R Kd.string 9 w' w.heap.size (fun _ => True) (.slice Ao14 t180.length co14) t180) ∧ Aside0 (Kd.S (Kd.slice 3 (Kd.int .i64)) 49 w' w.heap.size (fun _ => True) v184 x6_2) ∧ Aside0 (Below w.heap.size w w'))
     case atStart => exact ⟨(y183), (0), (by first | rfl | (simp; done) | (simp [*]; done)), H', ⟨Nat.le_refl _⟩, ⟨by (with_reducible repeat (first | apply Kd.R_alloc | apply Kd.R_drewN | apply Kd.R_drew)); exact HO182.out⟩, ⟨by (with_reducible repeat (first | apply Kd.S_alloc | apply Kd.S_drewN | apply Kd.S_drew)); exact HO185.out⟩, ⟨by repeat (first | (with_reducible first | exact HB.out | apply below_alloc | apply pw_below_drewN | apply below_drew1) | exact HB.out)⟩⟩
     case round => as_aux_lemma =>
      clear H'
      try clear c1
      try clear c2
      try clear p2
      try clear c4
      try clear c5
      try clear c5b0
      try clear c5b1
      try clear c8
      try clear c10
      try clear c12
      try clear c12b0
      try clear c12b1
      try clear p2
      obtain ⟨x6_2, x7_2, rfl, HA, HK2, HO_4, HO_6, HB⟩ := hrel
      cases gk with
      | zero => exact absurd HA.out (by simp [spec_SyncWord.l0])
      | succ k2 =>
       have H := HA.out
       clear HA
       simp only [spec_SyncWord.l0] at H
       by_cases c17 : x7_2 < 2
       ·rw [if_pos c17] at H
        have c17b0 : decide (x7_2 < 2) = true := decide_eq_true c17
        clear c17
        have H' := Aside0.mk H
        clear H
        go_wp2
        go_loopg [8] k2 (fun kq v8 w' => ∃ (x6_3 : List (List Int)) (x8_3 : Int), v8 = .int .i64 x8_3 ∧ Aside0 (spec_SyncWord.l1 kq l0 t180 (t180.length : Int) x6_3 x7_2 x8_3 = some (r1, r2)) ∧ Aside0 (kq ≤ k2) ∧ Aside0 (Kd.R Kd.string 9 w' w.heap.size (fun _ => True) (.slice Ao14 t180.length co14) t180) ∧ Aside0 (Kd.S (Kd.slice 3 (Kd.int .i64)) 49 w' w.heap.size (fun _ => True) v184 x6_3) ∧ Aside0 (Below w.heap.size w w'))
        case atStart => exact ⟨(x6_2), (0), (by first | rfl | (simp; done) | (simp [*]; done)), H', ⟨Nat.le_refl _⟩, ⟨by (with_reducible repeat (first | apply Kd.R_alloc | apply Kd.R_drewN | apply Kd.R_drew)); exact HO_4.out⟩, ⟨by (with_reducible repeat (first | apply Kd.S_alloc | apply Kd.S_drewN | apply Kd.S_drew)); exact HO_6.out⟩, ⟨by repeat (first | (with_reducible first | exact HB.out | apply below_alloc | apply pw_below_drewN | apply below_drew1) | exact HB.out)⟩⟩
        case round => as_aux_lemma =>
         clear H'
         try clear c1
         try clear c2
         try clear p2
         try clear c4
         try clear c5
         try clear c5b0
         try clear c5b1
         try clear c8
         try clear c10
         try clear c12
         try clear c12b0
         try clear c12b1
         try clear c17
         try clear c17b0
         try clear p2
         obtain ⟨x6_3, x8_3, rfl, HA, HK3, HO_4, HO_6, HB⟩ := hrel
         cases gk with
         | zero => exact absurd HA.out (by simp [spec_SyncWord.l1])
         | succ k3 =>
          have H := HA.out
          clear HA
          simp only [spec_SyncWord.l1] at H
          by_cases c18 : x8_3 < (t180.length : Int)
          ·rw [if_pos c18] at H
           have c18b0 : decide (x8_3 < (t180.length : Int)) = true := decide_eq_true c18
           clear c18
           by_cases c19 : 0 ≤ x7_2
           ·rw [if_pos c19] at H
            have c19b0 : decide (0 ≤ x7_2) = true := decide_eq_true c19
            clear c19
            by_cases c20 : x7_2 < (x6_3.length : Int)
            ·rw [if_pos c20] at H
             have c20b0 : decide (x7_2 < (x6_3.length : Int)) = true := decide_eq_true c20
             clear c20
             by_cases c21 : 0 ≤ x8_3
             ·rw [if_pos c21] at H
              have c21b0 : decide (0 ≤ x8_3) = true := decide_eq_true c21
              clear c21
              by_cases c22 : x8_3 < (t180.length : Int)
              ·rw [if_pos c22] at H
               have c22b0 : decide (x8_3 < (t180.length : Int)) = true := decide_eq_true c22
               clear c22
               obtain ⟨y188, hy188⟩ : ∃ y_ : List Int, y_ = (([(wrap64 (48 + x7_2)) % 256] : List Int)) := ⟨_, rfl⟩
               replace H : ((spec_l05Read.f k3 l0 (rdOf ByteArray.empty t180 x8_3) (strOfNums y188)).bind fun t191 => ((spec_l03Index.f k3 t180 t191).bind fun t192 => (if (rd_L3 x6_3 x7_2).length < 17592186044416 then (spec_SyncWord.l1 k3 l0 t180 (t180.length : Int) (x6_3.set (x7_2 : Int).toNat ((rd_L3 x6_3 x7_2) ++ [t192])) x7_2 (wrap64 (x8_3 + 1))) else (none)))) = some (r1, r2) := by first | (rw [hy188]; with_reducible exact H) | (have H2_ := (Option.bind_some _ _).symm.trans H; rw [hy188]; with_reducible exact H2_) | (have H2_ := (Option.bind_some _ _).symm.trans H; with_reducible exact H2_) | with_reducible exact H | (rw [hy188]; exact H) | exact H
               have Ny188 := Aside0.mk hy188
               clear hy188
               replace H := Option.bind_eq_some_iff.mp H
               obtain ⟨t191, A230, H⟩ := H
               replace H : ((spec_l03Index.f k3 t180 t191).bind fun t192 => (if (rd_L3 x6_3 x7_2).length < 17592186044416 then (spec_SyncWord.l1 k3 l0 t180 (t180.length : Int) (x6_3.set (x7_2 : Int).toNat ((rd_L3 x6_3 x7_2) ++ [t192])) x7_2 (wrap64 (x8_3 + 1))) else (none))) = some (r1, r2) := H
               have A23 := Aside0.mk A230
               clear A230
               replace H := Option.bind_eq_some_iff.mp H
               obtain ⟨t192, A240, H⟩ := H
               replace H : (if (rd_L3 x6_3 x7_2).length < 17592186044416 then (spec_SyncWord.l1 k3 l0 t180 (t180.length : Int) (x6_3.set (x7_2 : Int).toNat ((rd_L3 x6_3 x7_2) ++ [t192])) x7_2 (wrap64 (x8_3 + 1))) else (none)) = some (r1, r2) := H
               have A24 := Aside0.mk A240
               clear A240
               by_cases c25 : (rd_L3 x6_3 x7_2).length < 17592186044416
               ·rw [if_pos c25] at H
                have LMc25 := Aside0.mk c25
                clear c25
                obtain ⟨y193, hy193⟩ : ∃ y_ : List Int, y_ = ((rd_L3 x6_3 x7_2) ++ [t192]) := ⟨_, rfl⟩
                replace H : (spec_SyncWord.l1 k3 l0 t180 (t180.length : Int) (x6_3.set (x7_2 : Int).toNat y193) x7_2 (wrap64 (x8_3 + 1))) = some (r1, r2) := by first | (rw [hy193]; with_reducible exact H) | (have H2_ := (Option.bind_some _ _).symm.trans H; rw [hy193]; with_reducible exact H2_) | (have H2_ := (Option.bind_some _ _).symm.trans H; with_reducible exact H2_) | with_reducible exact H | (rw [hy193]; exact H) | exact H
                have Ny193 := Aside0.mk hy193
                clear hy193
                obtain ⟨y196, hy196⟩ : ∃ y_ : List (List Int), y_ = (x6_3.set (x7_2 : Int).toNat y193) := ⟨_, rfl⟩
                replace H : (spec_SyncWord.l1 k3 l0 t180 (t180.length : Int) y196 x7_2 (wrap64 (x8_3 + 1))) = some (r1, r2) := by first | (rw [hy196]; with_reducible exact H) | (have H2_ := (Option.bind_some _ _).symm.trans H; rw [hy196]; with_reducible exact H2_) | (have H2_ := (Option.bind_some _ _).symm.trans H; with_reducible exact H2_) | with_reducible exact H | (rw [hy196]; exact H) | exact H
                have Ny196 := Aside0.mk hy196
                clear hy196
                have H' := Aside0.mk H
                clear H
                try go_wp2
                have n0_ := Aside0.mk (Kd.R_drew HO_4.out)
                have n1_ := Aside0.mk (Kd.S_drew HO_6.out)
                have n2_ := Aside0.mk (below_drew1 HB.out)
                clear HO_4
                clear HO_6
                clear HB
                have HO_4 := n0_
                have HO_6 := n1_
                have HB := n2_
                clear n0_ n1_ n2_
                obtain ⟨Ao28, co28, eo28⟩ := Kd.S_slice HO_6.out
                (first | subst eo28 | (injection eo28 with f1_ f2_ f3_; have f4_ := f1_.symm; have f5_ := f3_.symm; clear f1_ f2_ f3_; subst f4_; subst f5_))
                have p186 : 0 ≤ (x7_2 : Int) := of_decide_eq_true (by first | (with_reducible assumption) | assumption)
                have q186 : x7_2 < (x6_3.length : Int) := of_decide_eq_true (by first | (with_reducible assumption) | assumption)
                obtain ⟨ad186, A186_0, c186_0, e186, hx186_0, hl186_0, hi186_0⟩ := at_L3 (Kd.S_reads' HO_6.out).2.2 x7_2 p186 q186
                cases e186
                obtain ⟨ce186, hce186, hMe186, hcc186⟩ := Kd.S_get HO_6.out [] x7_2 p186 (by first | exact q186 | exact of_decide_eq_true (by first | (with_reducible assumption) | assumption) | (have e_ := (Kd.S_reads' HO_6.out).1; omega))
                obtain ⟨ve186_0, rfl, ge186_0⟩ := hMe186
                have hv186_0 := hcc186 0 _ rfl
                rw [Nat.add_zero, show ((Kd.slice 3 (Kd.int .i64))).sz = 1 from rfl, Nat.mul_one] at hv186_0
                replace hv186_0 := Option.some.inj (hv186_0.symm.trans hx186_0)
                rw [hv186_0] at ge186_0
                have HL186_0 := Aside0.mk (show Kd.R (Kd.int .i64) 3 _ _ _ _ (rd_L3 x6_3 x7_2) from ge186_0)
                clear hv186_0 ge186_0
                have HX186_0 := Aside0.mk hx186_0
                clear hcc186 hce186
                have HR186_0 := Aside0.mk hi186_0
                have HC186_0 := Aside0.mk hl186_0
                clear hi186_0 hl186_0
                replace p186 := eq_true p186
                replace q186 := eq_true q186
                have p187 : 0 ≤ (x8_3 : Int) := of_decide_eq_true (by first | (with_reducible assumption) | assumption)
                have q187 : x8_3 < (t180.length : Int) := of_decide_eq_true (by first | (with_reducible assumption) | assumption)
                obtain ⟨ad187, e187, hx187_0⟩ := Kd.at_string (Kd.R_reads' HO_4.out).2.2 x8_3 p187 q187
                cases e187
                replace p187 := eq_true p187
                replace q187 := eq_true q187
                refine start_ (n := 23) (S := fun w' => w'.cell? (ad186.add (x7_2).toNat) = some (.slice A186_0 (rd_L3 x6_3 x7_2).length c186_0) ∧ w'.cell? (ad187.add (x8_3).toNat) = some (.string (rdOf ByteArray.empty t180 x8_3))) (ds := [20, 22]) #[false, false, false, false, false, false, false, false, false, false, false, false, false, false, false, false, false, false, false, false, false, false, false] (by kernel_rfl) rfl rfl ⟨hx186_0, hx187_0⟩ (fun hHeld => ?_); refine with_tabW spec_SyncWord.tab12 spec_SyncWord.bits12 (fun HT_ HW_ => ?_)
                generalize wr.drew = w27 at HO_4 HO_6 HB HL186_0 HR186_0 HX186_0 hx186_0 hx187_0 hHeld ⊢
                refine pure_ (i := 0) (N := some 45) (v := ?_) (a' := ?_) #[true, false, false, false, false, false, false, false, false, false, false, false, false, false, false, false, false, false, false, false, false, false, false] rfl rfl (any_of HT_.out (by kernel_rfl)) (fun _ _ _ h => h) (Or.inl ⟨by rfl, ?_⟩) ?_ ?_
                rotate_left
                ·intro w'
                 go_simp
                 with_reducible rfl
                rotate_left
                ·simp only [Act.put, List.setIfInBounds_toArray, List.set_cons_zero, List.set_cons_succ, i64_w, i32_w]
                 rfl
                refine pure_ (i := 1) (N := some 46) (v := ?_) (a' := ?_) #[true, true, false, false, false, false, false, false, false, false, false, false, false, false, false, false, false, false, false, false, false, false, false] rfl rfl (any_of HT_.out (by kernel_rfl)) (fun _ _ _ h => h) (Or.inl ⟨by rfl, ?_⟩) ?_ ?_
                rotate_left
                ·intro w'
                 go_simp
                 with_reducible rfl
                rotate_left
                ·simp only [Act.put, List.setIfInBounds_toArray, List.set_cons_zero, List.set_cons_succ, i64_w, i32_w]
                 rfl
                refine pure_ (i := 2) (N := some 47) (v := ?_) (a' := ?_) #[true, true, true, false, false, false, false, false, false, false, false, false, false, false, false, false, false, false, false, false, false, false, false] rfl rfl (any_of HT_.out (by kernel_rfl)) (fun _ _ _ h => h) (Or.inl ⟨by rfl, ?_⟩) ?_ ?_
                rotate_left
                ·intro w'
                 go_simp
                 with_reducible rfl
                rotate_left
                ·simp only [Act.put, List.setIfInBounds_toArray, List.set_cons_zero, List.set_cons_succ, i64_w, i32_w]
                 rfl
                refine pure_ (i := 3) (N := some 48) (v := ?_) (a' := ?_) #[true, true, true, true, false, false, false, false, false, false, false, false, false, false, false, false, false, false, false, false, false, false, false] rfl rfl (any_of HT_.out (by kernel_rfl)) (fun _ _ _ h => h) (Or.inl ⟨by rfl, ?_⟩) ?_ ?_
                rotate_left
                ·intro w'
                 go_simp
                 with_reducible rfl
                rotate_left
                ·simp only [Act.put, List.setIfInBounds_toArray, List.set_cons_zero, List.set_cons_succ, i64_w, i32_w]
                 rfl
                refine pure_ (i := 4) (N := some 49) (v := ?_) (a' := ?_) #[true, true, true, true, true, false, false, false, false, false, false, false, false, false, false, false, false, false, false, false, false, false, false] rfl rfl (any_of HT_.out (by kernel_rfl)) (fun _ _ _ h => h) (Or.inl ⟨by rfl, ?_⟩) ?_ ?_
                rotate_left
                ·intro w'
                 go_simp
                 with_reducible rfl
                rotate_left
                ·simp only [Act.put, List.setIfInBounds_toArray, List.set_cons_zero, List.set_cons_succ, i64_w, i32_w]
                 rfl
                refine pure_ (i := 6) (N := some 51) (v := ?_) (a' := ?_) #[true, true, true, true, true, false, true, false, false, false, false, false, false, false, false, false, false, false, false, false, false, false, false] rfl rfl (any_of HT_.out (by kernel_rfl)) (fun _ _ _ h => h) (Or.inl ⟨by rfl, ?_⟩) ?_ ?_
                rotate_left
                ·intro w'
                 go_simp
                 with_reducible rfl
                rotate_left
                ·simp only [Act.put, List.setIfInBounds_toArray, List.set_cons_zero, List.set_cons_succ, i64_w, i32_w]
                 rfl
                refine pure_ (i := 7) (N := some 52) (v := ?_) (a' := ?_) #[true, true, true, true, true, false, true, true, false, false, false, false, false, false, false, false, false, false, false, false, false, false, false] rfl rfl (any_of HT_.out (by kernel_rfl)) (fun _ _ _ h => h) (Or.inl ⟨by rfl, ?_⟩) ?_ ?_
                rotate_left
                ·intro w'
                 go_simp
                 with_reducible rfl
                rotate_left
                ·simp only [Act.put, List.setIfInBounds_toArray, List.set_cons_zero, List.set_cons_succ, i64_w, i32_w]
                 rfl
                refine pure_ (i := 8) (N := some 53) (v := ?_) (a' := ?_) #[true, true, true, true, true, false, true, true, true, false, false, false, false, false, false, false, false, false, false, false, false, false, false] rfl rfl (any_of HT_.out (by kernel_rfl)) (fun _ _ _ h => h) (Or.inl ⟨by rfl, ?_⟩) ?_ ?_
                rotate_left
                ·intro w'
                 go_simp
                 with_reducible rfl
                rotate_left
                ·simp only [Act.put, List.setIfInBounds_toArray, List.set_cons_zero, List.set_cons_succ, i64_w, i32_w]
                 rfl
                refine pure_ (i := 9) (N := some 54) (v := ?_) (a' := ?_) #[true, true, true, true, true, false, true, true, true, true, false, false, false, false, false, false, false, false, false, false, false, false, false] rfl rfl (any_of HT_.out (by kernel_rfl)) (fun _ _ _ h => h) (Or.inl ⟨by rfl, ?_⟩) ?_ ?_
                rotate_left
                ·intro w'
                 go_simp
                 with_reducible rfl
                rotate_left
                ·simp only [Act.put, List.setIfInBounds_toArray, List.set_cons_zero, List.set_cons_succ, i64_w, i32_w]
                 rfl
                refine pure_ (i := 10) (N := some 55) (v := ?_) (a' := ?_) #[true, true, true, true, true, false, true, true, true, true, true, false, false, false, false, false, false, false, false, false, false, false, false] rfl rfl (any_of HT_.out (by kernel_rfl)) (fun _ _ _ h => h) (Or.inl ⟨by rfl, ?_⟩) ?_ ?_
                rotate_left
                ·intro w'
                 go_simp
                 with_reducible rfl
                rotate_left
                ·simp only [Act.put, List.setIfInBounds_toArray, List.set_cons_zero, List.set_cons_succ, i64_w, i32_w]
                 rfl
                refine pure_ (i := 12) (N := some 57) (v := ?_) (a' := ?_) #[true, true, true, true, true, false, true, true, true, true, true, false, true, false, false, false, false, false, false, false, false, false, false] rfl rfl (any_of HT_.out (by kernel_rfl)) (fun _ _ _ h => h) (Or.inl ⟨by rfl, ?_⟩) ?_ ?_
                rotate_left
                ·intro w'
                 go_simp
                 with_reducible rfl
                rotate_left
                ·simp only [Act.put, List.setIfInBounds_toArray, List.set_cons_zero, List.set_cons_succ, i64_w, i32_w]
                 rfl
                refine pure_ (i := 13) (N := some 58) (v := ?_) (a' := ?_) #[true, true, true, true, true, false, true, true, true, true, true, false, true, true, false, false, false, false, false, false, false, false, false] rfl rfl (any_of HT_.out (by kernel_rfl)) (fun _ _ _ h => h) (Or.inl ⟨by rfl, ?_⟩) ?_ ?_
                rotate_left
                ·intro w'
                 go_simp
                 with_reducible rfl
                rotate_left
                ·simp only [Act.put, List.setIfInBounds_toArray, List.set_cons_zero, List.set_cons_succ, i64_w, i32_w]
                 rfl
                refine pure_ (i := 14) (N := some 59) (v := ?_) (a' := ?_) #[true, true, true, true, true, false, true, true, true, true, true, false, true, true, true, false, false, false, false, false, false, false, false] rfl rfl (any_of HT_.out (by kernel_rfl)) (fun _ _ _ h => h) (Or.inl ⟨by rfl, ?_⟩) ?_ ?_
                rotate_left
                ·intro w'
                 go_simp
                 with_reducible rfl
                rotate_left
                ·simp only [Act.put, List.setIfInBounds_toArray, List.set_cons_zero, List.set_cons_succ, i64_w, i32_w]
                 rfl
                refine take_ (i := 5) (N := some 50) (v := ?_) (a' := ?_) #[true, true, true, true, true, true, true, true, true, true, true, false, true, true, true, false, false, false, false, false, false, false, false] rfl rfl (take_ofW HT_.out HW_.out (by kernel_rfl)) (fun _ _ _ h => h) (Or.inl ⟨by rfl, ?_⟩) hHeld ?_ ?_
                rotate_left
                ·rintro w' ⟨s0, s1⟩
                 go_simp
                 with_reducible rfl
                rotate_left
                ·simp only [Act.put, List.setIfInBounds_toArray, List.set_cons_zero, List.set_cons_succ, i64_w, i32_w]
                 rfl
                refine take_ (i := 11) (N := some 56) (v := ?_) (a' := ?_) #[true, true, true, true, true, true, true, true, true, true, true, true, true, true, true, false, false, false, false, false, false, false, false] rfl rfl (take_ofW HT_.out HW_.out (by kernel_rfl)) (fun _ _ _ h => h) (Or.inl ⟨by rfl, ?_⟩) hHeld ?_ ?_
                rotate_left
                ·rintro w' ⟨s0, s1⟩
                 go_simp
                 with_reducible rfl
                rotate_left
                ·simp only [Act.put, List.setIfInBounds_toArray, List.set_cons_zero, List.set_cons_succ, i64_w, i32_w]
                 rfl
                refine one_ (i := 15) (N := some 60) #[true, true, true, true, true, true, true, true, true, true, true, true, true, true, true, true, false, false, false, false, false, false, false] rfl rfl (one_of HT_.out (by kernel_rfl)) (by decide) (fun K hK => ?_)
                refine Kd.R_lit_step (Kd.int .u8) _ 5 ?hg (N := 60) ?hd (xs := ([(wrap64 (48 + x7_2)) % 256] : List Int)) (inner := [.int .u8 ((wrap64 (48 + x7_2)) % 256)]) (ok := fun _ => True) (okp := fun _ => True) ?hr ?hp (fun _ hk => hk) trivial (Below.refl _ _) (Nat.le_refl _) (by simp) ?_; (case hd => rfl); (case hg => rfl); (case hr => first | (go_simp; done) | (go_simp; rfl)); (case hp => exact (Reps.one (show Kd.M (Kd.int .u8) _ _ _ ((wrap64 (48 + x7_2)) % 256) [.int .u8 ((wrap64 (48 + x7_2)) % 256)] from rfl) (Reps.none _ _)))
                intro v189 w29 ho30 hb hg_ hnew_
                have HS0_ := (hb.cell (World.block_lt_of_cell? _ _ (hHeld.1))).trans (hHeld.1)
                have HS1_ := (hb.cell (World.block_lt_of_cell? _ _ (hHeld.2))).trans (hHeld.2)
                clear hg_ hnew_
                (first | rw [← Ny188.out] at ho30 | (simp only [Int.reduceToNat] at ho30; rw [← Ny188.out] at ho30))
                have n0_ := Aside0.mk (Kd.R_below (by (with_reducible repeat (first | apply Kd.R_alloc | apply Kd.R_drewN | apply Kd.R_drew)); exact HO_4.out) hb)
                have n1_ := Aside0.mk (Kd.S_below (by (with_reducible repeat (first | apply Kd.S_alloc | apply Kd.S_drewN | apply Kd.S_drew)); exact HO_6.out) hb)
                have n2_ := Aside0.mk (Kd.R_below (by (with_reducible repeat (first | apply Kd.R_alloc | apply Kd.R_drewN | apply Kd.R_drew)); exact HL186_0.out) hb)
                have n3_ := Aside0.mk (Kd.R_lower ho30 (below_size (by repeat (first | (with_reducible first | exact HB.out | apply below_alloc | apply pw_below_drewN | apply below_drew1) | exact HB.out))))
                have n4_ := Aside0.mk (Kd.C_below (by repeat (first | (with_reducible exact HR186_0.out) | (with_reducible refine Kd.C_alloc ?_ _) | (with_reducible refine Kd.C_drewN ?_ _) | (with_reducible refine Kd.C_drew ?_) | exact HR186_0.out)) hb)
                have n5_ := Aside0.mk (pw_cell_below hb HX186_0.out)
                have n6_ := Aside0.mk (below_step (by repeat (first | (with_reducible first | exact HB.out | apply below_alloc | apply pw_below_drewN | apply below_drew1) | exact HB.out)) hb)
                clear HO_4
                clear HO_6
                clear HL186_0
                clear HR186_0
                clear HX186_0
                clear HB
                have HO_4 := n0_
                have HO_6 := n1_
                have HL186_0 := n2_
                have HO190 := n3_
                have HR186_0 := n4_
                have HX186_0 := n5_
                have HB := n6_
                clear n0_ n1_ n2_ n3_ n4_ n5_ n6_
                clear hb ho30
                refine hK.out _ _ ⟨HS0_, HS1_⟩ (fun hHeld => ?_)
                clear hK K
                refine norm_ (a' := ?_) ?_ ?_
                rotate_left
                ·show Act.put _ (some 60) _ = _
                 simp only [Act.put, List.setIfInBounds_toArray, List.set_cons_zero, List.set_cons_succ, i64_w, i32_w]
                 rfl
                refine one_ (i := 16) (N := some 61) #[true, true, true, true, true, true, true, true, true, true, true, true, true, true, true, true, true, false, false, false, false, false, false] rfl rfl (one_of HT_.out (by kernel_rfl)) (by decide) (fun K hK => ?_)
                have hcv31 := own_string (P := Tryz.prog) Tryz.underlying22 Tryz.underlying5 Tryz.underlying9 (Kd.own_of_R HO190.out)
                refine value_ (w1 := ?_) (v := ?_) (by rfl) rfl ?_ ?_
                rotate_left 2
                ·go_simp
                 constructor
                 ·rfl
                 ·rfl
                clear hcv31
                refine hK.out _ _ (by first | exact trivial | exact hHeld | exact ⟨hHeld.1, hHeld.2⟩ | exact ⟨HS0_, HS1_⟩) (fun hHeld => ?_)
                clear hK K
                refine norm_ (a' := ?_) ?_ ?_
                rotate_left
                ·show Act.put _ (some 61) _ = _
                 simp only [Act.put, List.setIfInBounds_toArray, List.set_cons_zero, List.set_cons_succ, i64_w, i32_w]
                 rfl
                refine one_ (i := 17) (N := some 62) #[true, true, true, true, true, true, true, true, true, true, true, true, true, true, true, true, true, true, false, false, false, false, false] rfl rfl (one_of HT_.out (by kernel_rfl)) (by decide) (fun K hK => ?_)
                refine goes_ Tryz.func25 (by kernel_rfl) rfl #[.slice A0 l0.length c0, .string (rdOf ByteArray.empty t180 x8_3), .string (strOfNums y188)] (by rfl) rfl rfl (by (try simp only [List.map_toArray, List.map_cons, List.map_nil]); first | done | rfl | (simp only [List.length_drop, List.length_take]; rfl)) ?_
                with_reducible refine (spec_l05Read.calls k3 _ _ l0 (rdOf ByteArray.empty t180 x8_3) (strOfNums y188) t191 _ ?side1 ?side2 A23.out).mono ?_
                (case side1 => repeat (first | exact (Kd.C_below HR0.out HB.out) | (with_reducible refine Kd.C_alloc ?_ _) | (with_reducible refine Kd.C_drewN ?_ _) | (with_reducible refine Kd.C_drew ?_)))
                (case side2 => exact HC0.out)
                rintro e w' ⟨rfl, ⟨nd, rfl⟩⟩
                refine ⟨_, rfl, ?_⟩
                refine hK.out _ _ ⟨hHeld.1, hHeld.2⟩ (fun hHeld => ?_)
                clear hK K
                refine norm_ (a' := ?_) ?_ ?_
                rotate_left
                ·show Act.put _ (some 62) _ = _
                 simp only [Act.put, List.setIfInBounds_toArray, List.set_cons_zero, List.set_cons_succ, i64_w, i32_w]
                 rfl
                refine one_ (i := 18) (N := some 63) #[true, true, true, true, true, true, true, true, true, true, true, true, true, true, true, true, true, true, true, false, false, false, false] rfl rfl (one_of HT_.out (by kernel_rfl)) (by decide) (fun K hK => ?_)
                refine goes_ Tryz.func24 (by kernel_rfl) rfl #[.slice (some ad187) t180.length co14, .string t191] (by rfl) rfl rfl (by (try simp only [List.map_toArray, List.map_cons, List.map_nil]); first | done | rfl | (simp only [List.length_drop, List.length_take]; rfl)) ?_
                with_reducible refine (spec_l03Index.calls k3 _ _ t180 t191 t192 _ ?side1 ?side2 A24.out).mono ?_
                (case side1 => repeat (first | exact (Kd.R_reads' HO_4.out).2.2 | (with_reducible refine Kd.C_alloc ?_ _) | (with_reducible refine Kd.C_drewN ?_ _) | (with_reducible refine Kd.C_drew ?_)))
                (case side2 => exact (Kd.R_reads' HO_4.out).2.1)
                rintro e w' ⟨rfl, ⟨nd, rfl⟩⟩
                refine ⟨_, rfl, ?_⟩
                obtain ⟨go32, co32, eo32, gb32, gl32, cl32, HG32⟩ := Kd.S_form HO_6.out (by have h_ : (x7_2 : Int) < ((x6_3.length : Int) : Int) := of_decide_eq_true (by first | (with_reducible assumption) | assumption); have h2_ : 0 ≤ (x7_2 : Int) := (of_decide_eq_true (by first | (with_reducible assumption) | assumption)); omega)
                (first | cases eo32 | (injection eo32 with ea_ en_ ec_; (first | subst ea_ | (injection ea_ with ea_; subst ea_)); subst ec_; clear en_))
                have GB32 := Aside0.mk gb32
                have GG32 := Aside0.mk HG32
                clear gb32 gl32 HG32
                (first | simp only [add_plain] at hx186_0 | skip)
                obtain ⟨oki32, ce32, hcl32, hM32, hcc32, _, _, hH32⟩ := Kd.S_elem HO_6.out [] (x7_2 : Int) (of_decide_eq_true (by first | (with_reducible assumption) | assumption)) (by have h_ : (x7_2 : Int) < ((x6_3.length : Int) : Int) := of_decide_eq_true (by first | (with_reducible assumption) | assumption); first | exact h_ | (have e_ := (Kd.S_reads' HO_6.out).1; omega) | simpa using h_)
                obtain ⟨ve32_0, rfl, ge32_0⟩ := hM32
                have hv32 := hcc32 0 _ rfl
                have hX32 := HX186_0.out
                (try simp only [add_plain] at hX32)
                (try simp only [Nat.add_zero] at hv32)
                (try rw [show ((Kd.slice 3 (Kd.int .i64))).sz = 1 from rfl, Nat.mul_one] at hv32)
                replace hv32 := Option.some.inj (hv32.symm.trans hX32)
                subst hv32
                clear hX32 hcc32 hcl32
                have UU32 := Aside0.mk (show Kd.R (Kd.int .i64) 3 _ w.heap.size oki32 (.slice A186_0 (rd_L3 x6_3 x7_2).length c186_0) (rd_L3 x6_3 x7_2) from ge32_0)
                have HH32 := Aside0.mk hH32
                have HN32 := Aside0.mk (Kd.S_reads' HO_6.out).1
                clear hH32 ge32_0
                refine hK.out _ _ ⟨hHeld.1, hHeld.2⟩ (fun hHeld => ?_)
                clear hK K
                refine norm_ (a' := ?_) ?_ ?_
                rotate_left
                ·show Act.put _ (some 63) _ = _
                 simp only [Act.put, List.setIfInBounds_toArray, List.set_cons_zero, List.set_cons_succ, i64_w, i32_w]
                 rfl
                refine one_ (i := 19) (N := some 64) #[true, true, true, true, true, true, true, true, true, true, true, true, true, true, true, true, true, true, true, true, false, false, false] rfl rfl (one_of HT_.out (by kernel_rfl)) (by decide) (fun K hK => ?_)
                refine value_ (w1 := ?_) (v := ?_) (by rfl) rfl ?_ ?_
                rotate_left 2
                ·go_simp
                 constructor
                 ·rfl
                 ·rfl
                refine hK.out _ _ ⟨(World.cell?_alloc_lt _ _ _ (World.block_lt_of_cell? _ _ (hHeld.1))).trans (hHeld.1), (World.cell?_alloc_lt _ _ _ (World.block_lt_of_cell? _ _ (hHeld.2))).trans (hHeld.2)⟩ (fun hHeld => ?_)
                clear hK K
                refine norm_ (a' := ?_) ?_ ?_
                rotate_left
                ·show Act.put _ (some 64) _ = _
                 simp only [Act.put, List.setIfInBounds_toArray, List.set_cons_zero, List.set_cons_succ, i64_w, i32_w]
                 rfl
                refine last_ (i := 20) (N := some 65) #[true, true, true, true, true, true, true, true, true, true, true, true, true, true, true, true, true, true, true, true, true, false, false] rfl rfl (one_of HT_.out (by kernel_rfl)) (by decide) (fun K hK => ?_)
                refine Kd.R_append_step (Kd.int .i64) (w0 := w) w.heap.size (by rfl) (.tmp 50) (.tmp 64) 49 3 (.int .i64 0) 8 rfl Tryz.underlying49 info3 rfl (by decide) (by omega) (.slice A186_0 (rd_L3 x6_3 x7_2).length c186_0) (rd_L3 x6_3 x7_2) t192 [.int .i64 t192] (fun k_ => oki32 k_ ∨ ((fun _ => True)) k_ ∧ w29.heap.size ≤ k_) (fun _ => False) rfl rfl ?aP (fun _ hk => hk.elim) ?aF ?aO ?aB ?aS ?aL ?_
                (case aP => exact rfl)
                (case aB => exact (by repeat (first | (with_reducible first | exact HB.out | apply below_alloc | apply pw_below_drewN | apply below_drew1) | exact HB.out)))
                (case aF => exact (fun k_ hk => .inr ⟨trivial, hk⟩))
                (case aO => exact (by (with_reducible repeat (first | apply Kd.R_alloc | apply Kd.R_drewN | apply Kd.R_drew)); exact Kd.R_mono UU32.out (fun _ hk => .inl hk)))
                (case aS => exact (below_size (by repeat (first | (with_reducible first | exact HB.out | apply below_alloc | apply pw_below_drewN | apply below_drew1) | exact HB.out))))
                (case aL => have := LMc25.out; omega)
                intro v194 w33 ho hb hg hat
                rw [← Ny193.out] at ho
                have n0_ := Aside0.mk (Kd.R_over' (v := (.slice A186_0 (rd_L3 x6_3 x7_2).length c186_0)) (by (with_reducible repeat (first | apply Kd.R_alloc | apply Kd.R_drewN | apply Kd.R_drew)); exact HO_4.out) (Kd.R_typed (by (with_reducible repeat (first | apply Kd.R_alloc | apply Kd.R_drewN | apply Kd.R_drew)); exact HL186_0.out)) (by decide) hg)
                have n1_ := Aside0.mk (Kd.R_over' (v := (.slice A186_0 (rd_L3 x6_3 x7_2).length c186_0)) (by (with_reducible repeat (first | apply Kd.R_alloc | apply Kd.R_drewN | apply Kd.R_drew)); exact HO190.out) (Kd.R_typed (by (with_reducible repeat (first | apply Kd.R_alloc | apply Kd.R_drewN | apply Kd.R_drew)); exact HL186_0.out)) (by decide) hg)
                have n2_ := Aside0.mk (hb)
                have n3_ := Aside0.mk (Kd.H_grown (Kd.H_widen (by repeat (first | exact HH32.out | refine Kd.H_alloc ?_ _ | refine Kd.H_drewN ?_ _ | refine Kd.H_drew ?_))) hg (fun k_ e_ => .inl (UU32.out.1 k_ e_)))
                have n4_ := Aside0.mk (ho)
                clear HO_4
                clear HO190
                clear HB
                clear HH32
                clear HO_6
                clear UU32
                clear HL186_0
                have HO_4 := n0_
                have HO190 := n1_
                have HB := n2_
                have HH32 := n3_
                have HO195 := n4_
                clear n0_ n1_ n2_ n3_ n4_
                clear ho hb hg hat
                have p26 : 0 ≤ (x7_2 : Int) := of_decide_eq_true (by first | (with_reducible assumption) | assumption)
                have q26 : (x7_2 : Int) < ((x6_3.length : Int) : Int) := of_decide_eq_true (by first | (with_reducible assumption) | assumption)
                replace p26 := eq_true p26
                replace q26 := eq_true q26
                obtain ⟨Ao36, co36, eo36⟩ := Kd.R_slice HO195.out
                (first | subst eo36 | (injection eo36 with f1_ f2_ f3_; have f4_ := f1_.symm; have f5_ := f3_.symm; clear f1_ f2_ f3_; subst f4_; subst f5_))
                obtain ⟨_, _, hraw34, _, _, hcc34, _⟩ := Kd.H_raw HH32.out (of_decide_eq_true (by first | (with_reducible assumption) | assumption)) (by have h_ : (x7_2 : Int) < ((x6_3.length : Int) : Int) := of_decide_eq_true (by first | (with_reducible assumption) | assumption); first | exact h_ | (have e_ := (HN32.out); omega) | simpa using h_)
                obtain ⟨_, hfr34⟩ := Kd.H_at HH32.out (of_decide_eq_true (by first | (with_reducible assumption) | assumption)) (by have h_ : (x7_2 : Int) < ((x6_3.length : Int) : Int) := of_decide_eq_true (by first | (with_reducible assumption) | assumption); first | exact h_ | (have e_ := (HN32.out); omega) | simpa using h_)
                have hx34_0 := hcc34 0 _ rfl
                have hf34_0 := hfr34 0
                (try simp only [Nat.add_zero] at hx34_0 hf34_0)
                (try rw [show ((Kd.slice 3 (Kd.int .i64))).sz = 1 from rfl, Nat.mul_one] at hx34_0)
                (try rw [show ((Kd.slice 3 (Kd.int .i64))).sz = 1 from rfl, Nat.mul_one] at hf34_0)
                have HP34 := Kd.S_seg0 HH32.out (of_decide_eq_true (by first | (with_reducible assumption) | assumption)) (by have h_ : (x7_2 : Int) < ((x6_3.length : Int) : Int) := of_decide_eq_true (by first | (with_reducible assumption) | assumption); first | exact h_ | (have e_ := (HN32.out); omega) | simpa using h_) (seg := [.slice Ao36 y193.length co36]) (j := 0) (show 1 ≤ 1 from by decide) (x' := y193) (Kd.M_row HO195.out) (fun _ hk => hk)
                (try simp only [show ((Kd.slice 3 (Kd.int .i64))).sz = 1 from rfl, Nat.mul_one, Nat.add_zero] at HP34)
                clear hcc34 hfr34
                have HS34 := HP34.1
                rw [← Ny196.out] at HS34
                have HQ34 := Aside0.mk HS34
                obtain ⟨_, hgg34⟩ := Kd.R_typed hraw34 go32 rfl
                have GG34_ := Aside0.mk hgg34
                clear HP34 HS34 hgg34
                refine hK.out _ _ ?_
                clear hK K
                refine norm_ (a' := ?_) ?_ ?_
                rotate_left
                ·show Act.put _ (some 65) _ = _
                 simp only [Act.put, List.setIfInBounds_toArray, List.set_cons_zero, List.set_cons_succ, i64_w, i32_w]
                 rfl
                refine pure_ (i := 21) (N := some 66) (v := ?_) (a' := ?_) #[true, true, true, true, true, true, true, true, true, true, true, true, true, true, true, true, true, true, true, true, true, true, false] rfl rfl (any_of HT_.out (by kernel_rfl)) (fun _ _ _ h => h) (Or.inl ⟨by rfl, ?_⟩) ?_ ?_
                rotate_left
                ·intro w'
                 go_simp
                 with_reducible rfl
                rotate_left
                ·simp only [Act.put, List.setIfInBounds_toArray, List.set_cons_zero, List.set_cons_succ, i64_w, i32_w]
                 rfl
                refine last_ (i := 22) (N := none) #[true, true, true, true, true, true, true, true, true, true, true, true, true, true, true, true, true, true, true, true, true, true, true] rfl rfl (one_of HT_.out (by kernel_rfl)) (by decide) (fun K hK => ?_)
                refine skip_ (w1 := ?_) (by rfl) rfl ?_ ?_
                rotate_left
                ·go_simp
                 rfl
                refine hK.out _ _ ?_
                clear hK K
                refine done_ (done_of HT_.out (by kernel_rfl)) ?_
                try go_wp2
                go_roundg k3
                case measure => have := HJ1.out; have := HK2.out; have := HK3.out; omega
                case rel => exact ⟨(y196), (wrap64 (x8_3 + 1)), (by first | rfl | (simp; done) | (simp [*]; done)), H', ⟨by have := HJ1.out; have := HK2.out; have := HK3.out; omega⟩, ⟨by (with_reducible repeat (first | apply Kd.R_alloc | apply Kd.R_drewN | apply Kd.R_drew)); exact Kd.R_mono (Kd.R_far (p := ⟨go32, (x7_2 : Int).toNat, none⟩) (Kd.R_types HO_4.out GG34_.out (by decide)) (fun _ hk => hk.2) (.slice Ao36 y193.length co36)) (fun _ hk => trivial)⟩, ⟨by (with_reducible repeat (first | apply Kd.S_alloc | apply Kd.S_drewN | apply Kd.S_drew)); exact HQ34.out⟩, ⟨by repeat (first | (with_reducible first | exact HB.out | apply below_alloc | apply pw_below_drewN | apply below_drew1 | refine below_set ?_ GB32.out) | exact HB.out)⟩⟩
               ·rw [if_neg c25] at H
                exact absurd H (by simp)
              ·rw [if_neg c22] at H
               exact absurd H (by simp)
             ·rw [if_neg c21] at H
              exact absurd H (by simp)
            ·rw [if_neg c20] at H
             exact absurd H (by simp)
           ·rw [if_neg c19] at H
            exact absurd H (by simp)
          ·rw [if_neg c18] at H
           have c18b0 : decide (x8_3 < (t180.length : Int)) = false := decide_eq_false c18
           clear c18
           have H' := Aside0.mk H
           clear H
           go_wp2
           go_roundg k3
           case measure => have := HJ1.out; have := HK2.out; have := HK3.out; omega
           case rel => exact ⟨(x6_3), (wrap64 (x7_2 + 1)), (by first | rfl | (simp; done) | (simp [*]; done)), H', ⟨by have := HJ1.out; have := HK2.out; have := HK3.out; omega⟩, ⟨by (with_reducible repeat (first | apply Kd.R_alloc | apply Kd.R_drewN | apply Kd.R_drew)); exact HO_4.out⟩, ⟨by (with_reducible repeat (first | apply Kd.S_alloc | apply Kd.S_drewN | apply Kd.S_drew)); exact HO_6.out⟩, ⟨by repeat (first | (with_reducible first | exact HB.out | apply below_alloc | apply pw_below_drewN | apply below_drew1) | exact HB.out)⟩⟩
       ·rw [if_neg c17] at H
        have c17b0 : decide (x7_2 < 2) = false := decide_eq_false c17
        clear c17
        replace H := Option.bind_eq_some_iff.mp H
        obtain ⟨t197, A370, H⟩ := H
        replace H : (if 0 ≤ (IntKind.u64.wrap (t197)) then (if 0 ≤ (IntKind.u64.wrap ((t180.length : Int))) then (if 0 ≤ (shl .i64 1 (IntKind.u64.wrap ((t180.length : Int)))) then (if (shl .i64 1 (IntKind.u64.wrap ((t180.length : Int))) : Int).toNat ≤ 35184372088832 then ((some (List.replicate (shl .i64 1 (IntKind.u64.wrap ((t180.length : Int))) : Int).toNat 0 : List Int)).bind fun y198 => (if 0 ≤ (wrap64 ((shl .i64 1 (IntKind.u64.wrap ((t180.length : Int)))) - 1)) then (if (wrap64 ((shl .i64 1 (IntKind.u64.wrap ((t180.length : Int)))) - 1)) < (y198.length : Int) then (spec_SyncWord.l2 k2 (t180.length : Int) x6_2 (shl .i64 1 (IntKind.u64.wrap (t197))) (y198.set ((wrap64 ((shl .i64 1 (IntKind.u64.wrap ((t180.length : Int)))) - 1)) : Int).toNat (-1)) (([wrap64 ((shl .i64 1 (IntKind.u64.wrap ((t180.length : Int)))) - 1)] : List Int)) 0) else (none)) else (none))) else (none)) else (none)) else (none)) else (none)) = some (r1, r2) := H
        have A37 := Aside0.mk A370
        clear A370
        obtain ⟨ji38, hji38⟩ : ∃ j_ : Int, (IntKind.u64.wrap (t197)) = j_ := ⟨_, rfl⟩
        replace H : (if 0 ≤ (ji38) then (if 0 ≤ (IntKind.u64.wrap ((t180.length : Int))) then (if 0 ≤ (shl .i64 1 (IntKind.u64.wrap ((t180.length : Int)))) then (if (shl .i64 1 (IntKind.u64.wrap ((t180.length : Int))) : Int).toNat ≤ 35184372088832 then ((some (List.replicate (shl .i64 1 (IntKind.u64.wrap ((t180.length : Int))) : Int).toNat 0 : List Int)).bind fun y198 => (if 0 ≤ (wrap64 ((shl .i64 1 (IntKind.u64.wrap ((t180.length : Int)))) - 1)) then (if (wrap64 ((shl .i64 1 (IntKind.u64.wrap ((t180.length : Int)))) - 1)) < (y198.length : Int) then (spec_SyncWord.l2 k2 (t180.length : Int) x6_2 (shl .i64 1 (ji38)) (y198.set ((wrap64 ((shl .i64 1 (IntKind.u64.wrap ((t180.length : Int)))) - 1)) : Int).toNat (-1)) (([wrap64 ((shl .i64 1 (IntKind.u64.wrap ((t180.length : Int)))) - 1)] : List Int)) 0) else (none)) else (none))) else (none)) else (none)) else (none)) else (none)) = some (r1, r2) := by first | (rw [hji38] at H; exact H) | (simp only [hji38] at H ⊢; exact H)
        (try rw [hji38] at A37)
        by_cases c39 : 0 ≤ (ji38)
        ·rw [if_pos c39] at H
         have c39b0 := eq_true c39
         have c39b1 : decide (0 ≤ (ji38)) = true := decide_eq_true c39
         clear c39
         obtain ⟨ji40, hji40⟩ : ∃ j_ : Int, (shl .i64 1 (ji38)) = j_ := ⟨_, rfl⟩
         replace H : (if 0 ≤ (IntKind.u64.wrap ((t180.length : Int))) then (if 0 ≤ (shl .i64 1 (IntKind.u64.wrap ((t180.length : Int)))) then (if (shl .i64 1 (IntKind.u64.wrap ((t180.length : Int))) : Int).toNat ≤ 35184372088832 then ((some (List.replicate (shl .i64 1 (IntKind.u64.wrap ((t180.length : Int))) : Int).toNat 0 : List Int)).bind fun y198 => (if 0 ≤ (wrap64 ((shl .i64 1 (IntKind.u64.wrap ((t180.length : Int)))) - 1)) then (if (wrap64 ((shl .i64 1 (IntKind.u64.wrap ((t180.length : Int)))) - 1)) < (y198.length : Int) then (spec_SyncWord.l2 k2 (t180.length : Int) x6_2 ji40 (y198.set ((wrap64 ((shl .i64 1 (IntKind.u64.wrap ((t180.length : Int)))) - 1)) : Int).toNat (-1)) (([wrap64 ((shl .i64 1 (IntKind.u64.wrap ((t180.length : Int)))) - 1)] : List Int)) 0) else (none)) else (none))) else (none)) else (none)) else (none)) = some (r1, r2) := by first | (rw [hji40] at H; exact H) | (simp only [hji40] at H ⊢; exact H)
         (try rw [hji40] at A37)
         have hji40_ : (IntKind.i64.wrap (1 * 2 ^ min (ji38).toNat 64)) = ji40 := hji40
         have hji40z : (ji38) ≤ 64 → (IntKind.i64.wrap (1 * 2 ^ (ji38).toNat)) = ji40 := shl_small hji40
         have hji40u : (IntKind.i64.wrap (2 ^ min (ji38).toNat 64)) = ji40 := by have h_ := hji40_; rw [Int.one_mul] at h_; exact h_
         have hji40v : (ji38) ≤ 64 → (IntKind.i64.wrap (2 ^ (ji38).toNat)) = ji40 := fun hle_ => by have h_ := hji40z hle_; rw [Int.one_mul] at h_; exact h_
         have hji40y : (wrap64 (1 * 2 ^ min (ji38).toNat 64)) = ji40 := (i64_w _).symm.trans hji40_
         have hji40x : (ji38) ≤ 64 → (wrap64 (1 * 2 ^ (ji38).toNat)) = ji40 := fun h_ => (i64_w _).symm.trans (hji40z h_)
         obtain ⟨ji41, hji41⟩ : ∃ j_ : Int, (IntKind.u64.wrap ((t180.length : Int))) = j_ := ⟨_, rfl⟩
         replace H : (if 0 ≤ (ji41) then (if 0 ≤ (shl .i64 1 (ji41)) then (if (shl .i64 1 (ji41) : Int).toNat ≤ 35184372088832 then ((some (List.replicate (shl .i64 1 (ji41) : Int).toNat 0 : List Int)).bind fun y198 => (if 0 ≤ (wrap64 ((shl .i64 1 (ji41)) - 1)) then (if (wrap64 ((shl .i64 1 (ji41)) - 1)) < (y198.length : Int) then (spec_SyncWord.l2 k2 (t180.length : Int) x6_2 ji40 (y198.set ((wrap64 ((shl .i64 1 (ji41)) - 1)) : Int).toNat (-1)) (([wrap64 ((shl .i64 1 (ji41)) - 1)] : List Int)) 0) else (none)) else (none))) else (none)) else (none)) else (none)) = some (r1, r2) := by first | (rw [hji41] at H; exact H) | (simp only [hji41] at H ⊢; exact H)
         (try rw [hji41] at A37)
         by_cases c42 : 0 ≤ (ji41)
         ·rw [if_pos c42] at H
          have c42b0 := eq_true c42
          have c42b1 : decide (0 ≤ (ji41)) = true := decide_eq_true c42
          clear c42
          obtain ⟨ji43, hji43⟩ : ∃ j_ : Int, (shl .i64 1 (ji41)) = j_ := ⟨_, rfl⟩
          replace H : (if 0 ≤ (ji43) then (if (ji43 : Int).toNat ≤ 35184372088832 then ((some (List.replicate (ji43 : Int).toNat 0 : List Int)).bind fun y198 => (if 0 ≤ (wrap64 ((ji43) - 1)) then (if (wrap64 ((ji43) - 1)) < (y198.length : Int) then (spec_SyncWord.l2 k2 (t180.length : Int) x6_2 ji40 (y198.set ((wrap64 ((ji43) - 1)) : Int).toNat (-1)) (([wrap64 ((ji43) - 1)] : List Int)) 0) else (none)) else (none))) else (none)) else (none)) = some (r1, r2) := by first | (rw [hji43] at H; exact H) | (simp only [hji43] at H ⊢; exact H)
          (try rw [hji43] at A37)
          have hji43_ : (IntKind.i64.wrap (1 * 2 ^ min (ji41).toNat 64)) = ji43 := hji43
          have hji43z : (ji41) ≤ 64 → (IntKind.i64.wrap (1 * 2 ^ (ji41).toNat)) = ji43 := shl_small hji43
          have hji43u : (IntKind.i64.wrap (2 ^ min (ji41).toNat 64)) = ji43 := by have h_ := hji43_; rw [Int.one_mul] at h_; exact h_
          have hji43v : (ji41) ≤ 64 → (IntKind.i64.wrap (2 ^ (ji41).toNat)) = ji43 := fun hle_ => by have h_ := hji43z hle_; rw [Int.one_mul] at h_; exact h_
          have hji43y : (wrap64 (1 * 2 ^ min (ji41).toNat 64)) = ji43 := (i64_w _).symm.trans hji43_
          have hji43x : (ji41) ≤ 64 → (wrap64 (1 * 2 ^ (ji41).toNat)) = ji43 := fun h_ => (i64_w _).symm.trans (hji43z h_)
          by_cases c44 : 0 ≤ (ji43)
          ·rw [if_pos c44] at H
           have c44b0 := eq_true c44
           have c44b1 : decide (0 ≤ (ji43)) = true := decide_eq_true c44
           clear c44
           by_cases c45 : (ji43 : Int).toNat ≤ 35184372088832
           ·rw [if_pos c45] at H
            have c45b0 := eq_true c45
            have c45b1 : decide ((ji43 : Int).toNat ≤ 35184372088832) = true := decide_eq_true c45
            clear c45
            obtain ⟨y198, hy198⟩ : ∃ y_ : List Int, y_ = (List.replicate (ji43 : Int).toNat 0) := ⟨_, rfl⟩
            replace H : (if 0 ≤ (wrap64 ((ji43) - 1)) then (if (wrap64 ((ji43) - 1)) < (y198.length : Int) then (spec_SyncWord.l2 k2 (t180.length : Int) x6_2 ji40 (y198.set ((wrap64 ((ji43) - 1)) : Int).toNat (-1)) (([wrap64 ((ji43) - 1)] : List Int)) 0) else (none)) else (none)) = some (r1, r2) := by first | (rw [hy198]; with_reducible exact H) | (have H2_ := (Option.bind_some _ _).symm.trans H; rw [hy198]; with_reducible exact H2_) | (have H2_ := (Option.bind_some _ _).symm.trans H; with_reducible exact H2_) | with_reducible exact H | (rw [hy198]; exact H) | exact H
            have Ny198 := Aside0.mk hy198
            clear hy198
            have c46b0 := eq_true (of_decide_eq_true (by first | (with_reducible assumption) | assumption) : 0 ≤ (ji41))
            obtain ⟨ji48, hji48⟩ : ∃ j_ : Int, (wrap64 ((ji43) - 1)) = j_ := ⟨_, rfl⟩
            replace H : (if 0 ≤ (ji48) then (if (ji48) < (y198.length : Int) then (spec_SyncWord.l2 k2 (t180.length : Int) x6_2 ji40 (y198.set ((ji48) : Int).toNat (-1)) (([ji48] : List Int)) 0) else (none)) else (none)) = some (r1, r2) := by first | (rw [hji48] at H; exact H) | (simp only [hji48] at H ⊢; exact H)
            (try rw [hji48] at A37)
            have hji48w : (IntKind.i64.wrap ((ji43) - 1)) = ji48 := (i64_w _).trans hji48
            (try rw [hji48])
            by_cases c49 : 0 ≤ (ji48)
            ·rw [if_pos c49] at H
             have c49b0 : decide (0 ≤ (ji48)) = true := decide_eq_true c49
             clear c49
             by_cases c50 : (ji48) < (y198.length : Int)
             ·rw [if_pos c50] at H
              have c50b0 : decide ((ji48) < (y198.length : Int)) = true := decide_eq_true c50
              clear c50
              obtain ⟨y201, hy201⟩ : ∃ y_ : List Int, y_ = (y198.set ((ji48) : Int).toNat (-1)) := ⟨_, rfl⟩
              replace H : (spec_SyncWord.l2 k2 (t180.length : Int) x6_2 ji40 y201 (([ji48] : List Int)) 0) = some (r1, r2) := by first | (rw [hy201]; with_reducible exact H) | (have H2_ := (Option.bind_some _ _).symm.trans H; rw [hy201]; with_reducible exact H2_) | (have H2_ := (Option.bind_some _ _).symm.trans H; with_reducible exact H2_) | with_reducible exact H | (rw [hy201]; exact H) | exact H
              have Ny201 := Aside0.mk hy201
              clear hy201
              obtain ⟨y202, hy202⟩ : ∃ y_ : List Int, y_ = (([ji48] : List Int)) := ⟨_, rfl⟩
              replace H : (spec_SyncWord.l2 k2 (t180.length : Int) x6_2 ji40 y201 y202 0) = some (r1, r2) := by first | (rw [hy202]; with_reducible exact H) | (have H2_ := (Option.bind_some _ _).symm.trans H; rw [hy202]; with_reducible exact H2_) | (have H2_ := (Option.bind_some _ _).symm.trans H; with_reducible exact H2_) | with_reducible exact H | (rw [hy202]; exact H) | exact H
              have Ny202 := Aside0.mk hy202
              clear hy202
              have H' := Aside0.mk H
              clear H
              go_wp2_with (first | ((with_reducible refine gate_callee (f := 24) rfl ?_); refine goesL_ (some 68) rfl rfl Tryz.func24 (by kernel_rfl) rfl #[.slice Ao14 t180.length co14, .string (⟨#[]⟩ : ByteArray)] rfl (by (try simp only [List.map_toArray, List.map_cons, List.map_nil]); first | done | rfl | (simp only [List.length_drop, List.length_take]; rfl)) ?_; (with_reducible refine (spec_l03Index.calls k2 _ _ t180 (⟨#[]⟩ : ByteArray) t197 _ ?side1 ?side2 A37.out).mono ?_); (case side1 => repeat (first | exact (Kd.R_reads' HO_4.out).2.2 | (with_reducible refine Kd.C_alloc ?_ _) | (with_reducible refine Kd.C_drewN ?_ _) | (with_reducible refine Kd.C_drew ?_))); (case side2 => exact (Kd.R_reads' HO_4.out).2.1); rintro e w' ⟨rfl, ⟨nd, rfl⟩⟩; refine ⟨_, rfl, ?_⟩; (try (rw [drewN_self wr]; generalize hq_ : World.drewN wr _ = wr; have n0_ : Aside0 (Kd.R Kd.string 9 wr w.heap.size (fun _ => True) (.slice Ao14 t180.length co14) t180) := ⟨by rw [← hq_]; exact (by (with_reducible repeat (first | apply Kd.R_alloc | apply Kd.R_drewN | apply Kd.R_drew)); exact HO_4.out)⟩; have n1_ : Aside0 (Kd.S (Kd.slice 3 (Kd.int .i64)) 49 wr w.heap.size (fun _ => True) v184 x6_2) := ⟨by rw [← hq_]; exact (by (with_reducible repeat (first | apply Kd.S_alloc | apply Kd.S_drewN | apply Kd.S_drew)); exact HO_6.out)⟩; have n2_ : Aside0 (Below w.heap.size w wr) := ⟨by rw [← hq_]; exact (by repeat (first | (with_reducible first | exact HB.out | apply below_alloc | apply pw_below_drewN | apply below_drew1) | exact HB.out))⟩; clear HO_4 HO_6 HB hq_; have HO_4 := n0_; have HO_6 := n1_; have HB := n2_; clear n0_ n1_ n2_))) | ((with_reducible refine gate_dst (N := 74) rfl ?_); (try (refine gate_guard (by rfl) ?_; dsimp only)); refine Kd.R_make (Kd.int .i64) _ 3 rfl (N := 74) rfl 49 _ _ rfl ji43 rfl rfl Tryz.underlying49 (.int .i64 0) 8 info3 rfl (by decide) (by omega) 0 (ok := fun _ => True) (okp := fun _ => True) rfl (fun _ hk => hk) trivial (of_decide_eq_true (by first | (with_reducible assumption) | assumption)) (Nat.le_trans (Nat.mul_le_mul_right _ (of_decide_eq_true (by first | (with_reducible assumption) | assumption) : ji43.toNat ≤ 35184372088832)) (by omega)) (Below.refl _ _) (Nat.le_refl _) ?_; intro v199 w52 ho53 hb hg_ hnew_; clear hg_ hnew_; (first | rw [← Ny198.out] at ho53 | (simp only [Int.reduceToNat] at ho53; rw [← Ny198.out] at ho53)); have n0_ := Aside0.mk (Kd.R_below (by (with_reducible repeat (first | apply Kd.R_alloc | apply Kd.R_drewN | apply Kd.R_drew)); exact HO_4.out) hb); have n1_ := Aside0.mk (Kd.S_elder' (by (with_reducible repeat (first | apply Kd.S_alloc | apply Kd.S_drewN | apply Kd.S_drew)); exact HO_6.out) (Kd.R_base ho53) hb); have n2_ := Aside0.mk (Kd.R_lower ho53 (below_size (by repeat (first | (with_reducible first | exact HB.out | apply below_alloc | apply pw_below_drewN | apply below_drew1) | exact HB.out)))); have n3_ := Aside0.mk (below_step (by repeat (first | (with_reducible first | exact HB.out | apply below_alloc | apply pw_below_drewN | apply below_drew1) | exact HB.out)) hb); clear HO_4; clear HO_6; clear HB; have HO_4 := n0_; have HO_6 := n1_; have HO200 := n2_; have HB := n3_; clear n0_ n1_ n2_ n3_; clear hb ho53; have p51 : 0 ≤ ((ji48) : Int) := of_decide_eq_true (by first | (with_reducible assumption) | assumption); have q51 : ((ji48) : Int) < ((y198.length : Int) : Int) := of_decide_eq_true (by first | (with_reducible assumption) | assumption); obtain ⟨go51, co51, eo51, gb51, gl51, cl51, HG51⟩ := Kd.R_form HO200.out (by omega); (first | cases eo51 | (injection eo51 with ea_ en_ ec_; (first | subst ea_ | (injection ea_ with ea_; subst ea_)); subst ec_; clear en_)); have GB51 := Aside0.mk gb51; have GG51 := Aside0.mk HG51; clear gb51 gl51 HG51; obtain ⟨hx51_0, hf51_0⟩ := Kd.R_celln 0 HO200.out ((ji48) : Int) p51 q51; replace p51 := eq_true p51; replace q51 := eq_true q51; obtain ⟨hy54_, hz54_⟩ := Kd.R_celln 0 HO200.out ((ji48) : Int) (of_decide_eq_true (by first | (with_reducible assumption) | assumption)) (of_decide_eq_true (by first | (with_reducible assumption) | assumption)); have HP54 := Kd.R_putg HO200.out ((ji48) : Int) (-1)) | ((with_reducible refine gate_store (t := 3) (p := 81) rfl ?_); refine store_event (t := 3) (p := 81) (v := ?vo_w55) (w1 := (w52.setCell ⟨go51, ((ji48) : Int).toNat, none⟩ (.int .i64 (-1)))) ?hg ?ho ?hn ?hr ?_; (case ho => rfl); (case hg => rfl); (case hn => rfl); (case hr => first | (go_simp; done) | (go_simp; rfl)); intro w55 hw; have hg : w52.grownBy w55 (some go51) := (by rw [hw]; exact HP54.2); have hp_ : Kd.R (Kd.int .i64) 3 w55 w.heap.size (fun _ => True) (.slice (some ⟨go51, 0, none⟩) y198.length co51) y201 := (by rw [hw, Ny201.out]; exact HP54.1); clear HP54; have n0_ := Aside0.mk (Kd.R_over' (v := (.slice (some ⟨go51, 0, none⟩) y198.length co51)) (by (with_reducible repeat (first | apply Kd.R_alloc | apply Kd.R_drewN | apply Kd.R_drew)); exact HO_4.out) (Kd.R_typed HO200.out) (by decide) hg); have n1_ := Aside0.mk (Kd.S_after (v := (.slice (some ⟨go51, 0, none⟩) y198.length co51)) (v1 := (.slice (some ⟨go51, 0, none⟩) y198.length co51)) (ok := (fun _ => True)) (by (with_reducible repeat (first | apply Kd.S_alloc | apply Kd.S_drewN | apply Kd.S_drew)); exact HO_6.out) hg (.inl rfl)); have n2_ := Aside0.mk (hp_); have n3_ := Aside0.mk ((by rw [hw]; exact below_set (HB.out) GB51.out : Below w.heap.size w w55)); clear HO_4; clear HO_6; clear HO200; clear HB; have HO_4 := n0_; have HO_6 := n1_; have HO200 := n2_; have HB := n3_; clear n0_ n1_ n2_ n3_; clear hg hw hp_) | ((with_reducible refine gate_dst (N := 83) rfl ?_); (try (refine gate_guard (by rfl) ?_; dsimp only)); refine Kd.R_lit (Kd.int .i64) _ 3 ?hg (N := 83) ?hd (xs := ([ji48] : List Int)) (inner := [.int .i64 ji48]) (ok := fun _ => True) (okp := fun _ => True) ?hr ?hp (fun _ hk => hk) trivial (Below.refl _ _) (Nat.le_refl _) (by simp) ?_; (case hd => rfl); (case hg => rfl); (case hr => first | (go_simp; done) | (go_simp; rfl)); (case hp => exact (Reps.one (show Kd.M (Kd.int .i64) _ _ _ ji48 [.int .i64 ji48] from rfl) (Reps.none _ _))); intro v203 w56 ho57 hb hg_ hnew_; clear hg_ hnew_; (first | rw [← Ny202.out] at ho57 | (simp only [Int.reduceToNat] at ho57; rw [← Ny202.out] at ho57)); have n0_ := Aside0.mk (Kd.R_below (by (with_reducible repeat (first | apply Kd.R_alloc | apply Kd.R_drewN | apply Kd.R_drew)); exact HO_4.out) hb); have n1_ := Aside0.mk (Kd.S_elder' (by (with_reducible repeat (first | apply Kd.S_alloc | apply Kd.S_drewN | apply Kd.S_drew)); exact HO_6.out) (Kd.R_base ho57) hb); have n2_ := Aside0.mk (Kd.R_elder' (by (with_reducible repeat (first | apply Kd.R_alloc | apply Kd.R_drewN | apply Kd.R_drew)); exact HO200.out) (Kd.R_base ho57) hb); have n3_ := Aside0.mk (Kd.R_lower (Kd.R_new' ho57 (Kd.R_lt (by (with_reducible repeat (first | apply Kd.R_alloc | apply Kd.R_drewN | apply Kd.R_drew)); exact HO200.out))) (below_size (by repeat (first | (with_reducible first | exact HB.out | apply below_alloc | apply pw_below_drewN | apply below_drew1) | exact HB.out)))); have n4_ := Aside0.mk (below_step (by repeat (first | (with_reducible first | exact HB.out | apply below_alloc | apply pw_below_drewN | apply below_drew1) | exact HB.out)) hb); clear HO_4; clear HO_6; clear HO200; clear HB; have HO_4 := n0_; have HO_6 := n1_; have HO200 := n2_; have HO204 := n3_; have HB := n4_; clear n0_ n1_ n2_ n3_ n4_; clear hb ho57))
              go_loopg [12, 13] k2 (fun kq v12 v13 w' => ∃ (x10_3 : List Int) (x12_3 : List Int) (x13_3 : Int), v13 = .int .i64 x13_3 ∧ Aside0 (spec_SyncWord.l2 kq (t180.length : Int) x6_2 ji40 x10_3 x12_3 x13_3 = some (r1, r2)) ∧ Aside0 (kq ≤ k2) ∧ Aside0 (Kd.S (Kd.slice 3 (Kd.int .i64)) 49 w' w.heap.size (fun k_ => some k_ ≠ ((.slice (some ⟨go51, 0, none⟩) y198.length co51) : Value).ownBlock ∧ some k_ ≠ (v12 : Value).ownBlock) v184 x6_2) ∧ Aside0 (Kd.R (Kd.int .i64) 3 w' w.heap.size (fun k_ => some k_ ≠ (v12 : Value).ownBlock) (.slice (some ⟨go51, 0, none⟩) y198.length co51) x10_3) ∧ Aside0 (Kd.R (Kd.int .i64) 3 w' w.heap.size (fun k_ => some k_ ≠ ((.slice (some ⟨go51, 0, none⟩) y198.length co51) : Value).ownBlock) v12 x12_3) ∧ Aside0 (Below w.heap.size w w'))
              case atStart => exact ⟨(y201), (y202), (0), (by first | rfl | (simp; done) | (simp [*]; done)), H', ⟨Nat.le_refl _⟩, ⟨by (with_reducible repeat (first | apply Kd.S_alloc | apply Kd.S_drewN | apply Kd.S_drew)); exact Kd.S_mono HO_6.out (fun _ hk => ⟨hk.1.2, hk.2⟩)⟩, ⟨by (with_reducible repeat (first | apply Kd.R_alloc | apply Kd.R_drewN | apply Kd.R_drew)); exact Kd.R_mono HO200.out (fun _ hk => hk.2)⟩, ⟨by (with_reducible repeat (first | apply Kd.R_alloc | apply Kd.R_drewN | apply Kd.R_drew)); exact Kd.R_mono HO204.out (fun _ hk => hk.2)⟩, ⟨by repeat (first | (with_reducible first | exact HB.out | apply below_alloc | apply pw_below_drewN | apply below_drew1) | exact HB.out)⟩⟩
              case round => as_aux_lemma =>
               clear H'
               try clear c1
               try clear p1
               try clear q1
               try clear hx1
               try clear c2
               try clear p2
               try clear q2
               try clear c3
               try clear hx3
               try clear hcv3
               try clear hf3
               try clear c4
               try clear c5
               try clear c5b0
               try clear c5b1
               try clear p5
               try clear q5
               try clear hx5
               try clear hf5
               try clear p6
               try clear c8
               try clear c10
               try clear c12
               try clear c12b0
               try clear c12b1
               try clear c17
               try clear c17b0
               try clear c18
               try clear c18b0
               try clear p18
               try clear q18
               try clear hx18
               try clear c19
               try clear c19b0
               try clear c20
               try clear c20b0
               try clear c21
               try clear c21b0
               try clear c22
               try clear c22b0
               try clear c23
               try clear c24
               try clear c25
               try clear p26
               try clear q26
               try clear hcv31
               try clear c32
               try clear c34
               try clear hx34
               try clear hf34
               try clear c39
               try clear c39b0
               try clear c39b1
               try clear c42
               try clear c42b0
               try clear c42b1
               try clear c44
               try clear c44b0
               try clear c44b1
               try clear c45
               try clear c45b0
               try clear c45b1
               try clear c46
               try clear c46b0
               try clear c47
               try clear c47b0
               try clear c49
               try clear c49b0
               try clear c50
               try clear c50b0
               try clear p51
               try clear q51
               try clear hx51
               try clear hf51
               try clear hx186_0
               try clear hx187_0
               try clear hx34_0
               try clear hx51_0
               try clear p186
               try clear p187
               try clear p2
               try clear p26
               try clear p51
               try clear q186
               try clear q187
               try clear q26
               try clear q51
               obtain ⟨x10_3, x12_3, x13_3, rfl, HA, HK3, HO_6, HO_10, HO_12, HB⟩ := hrel
               have hl10_3 := (Kd.R_reads' HO_10.out).1
               rw [hl10_3] at HO_10
               (try simp only [hl10_3])
               (try simp only [hl10_3] at HO_6)
               (try simp only [hl10_3] at HO_12)
               cases gk with
               | zero => exact absurd HA.out (by simp [spec_SyncWord.l2])
               | succ k3 =>
                have H := HA.out
                clear HA
                simp only [spec_SyncWord.l2] at H
                by_cases c58 : x13_3 < (x12_3.length : Int)
                ·rw [if_pos c58] at H
                 have c58b0 : decide (x13_3 < (x12_3.length : Int)) = true := decide_eq_true c58
                 clear c58
                 by_cases c59 : 0 ≤ x13_3
                 ·rw [if_pos c59] at H
                  have c59b0 : decide (0 ≤ x13_3) = true := decide_eq_true c59
                  clear c59
                  have H' := Aside0.mk H
                  clear H
                  obtain ⟨Ao60, co60, eo60⟩ := Kd.R_slice HO_12.out
                  subst eo60
                  have p205 : 0 ≤ (x13_3 : Int) := of_decide_eq_true (by first | (with_reducible assumption) | assumption)
                  have q205 : x13_3 < (x12_3.length : Int) := of_decide_eq_true (by first | (with_reducible assumption) | assumption)
                  obtain ⟨ad205, e205, hx205_0⟩ := Kd.at_int (Kd.R_reads' HO_12.out).2.2 x13_3 p205 q205
                  cases e205
                  replace p205 := eq_true p205
                  replace q205 := eq_true q205
                  go_wp2
                  go_loopg [12, 15] k3 (fun kq v12 v15 w' => ∃ (x10_4 : List Int) (x12_4 : List Int) (x15_4 : Int), v15 = .int .i64 x15_4 ∧ Aside0 (spec_SyncWord.l3 kq (t180.length : Int) x6_2 ji40 x10_4 x12_4 x13_3 (rd x12_3 x13_3) x15_4 = some (r1, r2)) ∧ Aside0 (kq ≤ k3) ∧ Aside0 (Kd.S (Kd.slice 3 (Kd.int .i64)) 49 w' w.heap.size (fun k_ => some k_ ≠ ((.slice (some ⟨go51, 0, none⟩) x10_3.length co51) : Value).ownBlock ∧ some k_ ≠ (v12 : Value).ownBlock) v184 x6_2) ∧ Aside0 (Kd.R (Kd.int .i64) 3 w' w.heap.size (fun k_ => some k_ ≠ (v12 : Value).ownBlock) (.slice (some ⟨go51, 0, none⟩) x10_3.length co51) x10_4) ∧ Aside0 (Kd.R (Kd.int .i64) 3 w' w.heap.size (fun k_ => some k_ ≠ ((.slice (some ⟨go51, 0, none⟩) x10_3.length co51) : Value).ownBlock) v12 x12_4) ∧ Aside0 (Below w.heap.size w w'))
                  case atStart => exact ⟨(x10_3), (x12_3), (0), (by first | rfl | (simp; done) | (simp [*]; done)), H', ⟨Nat.le_refl _⟩, ⟨by (try simp only [hl10_3]); (with_reducible repeat (first | apply Kd.S_alloc | apply Kd.S_drewN | apply Kd.S_drew)); exact HO_6.out⟩, ⟨by (try simp only [hl10_3]); (with_reducible repeat (first | apply Kd.R_alloc | apply Kd.R_drewN | apply Kd.R_drew)); exact HO_10.out⟩, ⟨by (try simp only [hl10_3]); (with_reducible repeat (first | apply Kd.R_alloc | apply Kd.R_drewN | apply Kd.R_drew)); exact HO_12.out⟩, ⟨by repeat (first | (with_reducible first | exact HB.out | apply below_alloc | apply pw_below_drewN | apply below_drew1) | exact HB.out)⟩⟩
                  case round => as_aux_lemma =>
                   clear H'
                   try clear c1
                   try clear p1
                   try clear q1
                   try clear hx1
                   try clear c2
                   try clear p2
                   try clear q2
                   try clear hx2
                   try clear c3
                   try clear hx3
                   try clear hcv3
                   try clear hf3
                   try clear c4
                   try clear c5
                   try clear c5b0
                   try clear c5b1
                   try clear p5
                   try clear q5
                   try clear hx5
                   try clear hf5
                   try clear p6
                   try clear c8
                   try clear c10
                   try clear c12
                   try clear c12b0
                   try clear c12b1
                   try clear c17
                   try clear c17b0
                   try clear c18
                   try clear c18b0
                   try clear p18
                   try clear q18
                   try clear hx18
                   try clear c19
                   try clear c19b0
                   try clear c20
                   try clear c20b0
                   try clear p20
                   try clear q20
                   try clear hx20
                   try clear c21
                   try clear c21b0
                   try clear c22
                   try clear c22b0
                   try clear c23
                   try clear c24
                   try clear c25
                   try clear p26
                   try clear q26
                   try clear hcv31
                   try clear c32
                   try clear c34
                   try clear hx34
                   try clear hf34
                   try clear c39
                   try clear c39b0
                   try clear c39b1
                   try clear c42
                   try clear c42b0
                   try clear c42b1
                   try clear c44
                   try clear c44b0
                   try clear c44b1
                   try clear c45
                   try clear c45b0
                   try clear c45b1
                   try clear c46
                   try clear c46b0
                   try clear c47
                   try clear c47b0
                   try clear c49
                   try clear c49b0
                   try clear c50
                   try clear c50b0
                   try clear p51
                   try clear q51
                   try clear hx51
                   try clear hf51
                   try clear c58
                   try clear c58b0
                   try clear c59
                   try clear c59b0
                   try clear hx186_0
                   try clear hx187_0
                   try clear hx205_0
                   try clear hx34_0
                   try clear hx51_0
                   try clear p1
                   try clear p18
                   try clear p186
                   try clear p187
                   try clear p2
                   try clear p205
                   try clear p26
                   try clear p5
                   try clear p51
                   try clear p6
                   try clear q1
                   try clear q18
                   try clear q186
                   try clear q187
                   try clear q2
                   try clear q205
                   try clear q26
                   try clear q5
                   try clear q51
                   obtain ⟨x10_4, x12_4, x15_4, rfl, HA, HK4, HO_6, HO_10, HO_12, HB⟩ := hrel
                   have hl10_4 := (Kd.R_reads' HO_10.out).1
                   rw [hl10_4] at HO_10
                   (try simp only [hl10_4])
                   (try simp only [hl10_4] at HO_6)
                   (try simp only [hl10_4] at HO_12)
                   cases gk with
                   | zero => exact absurd HA.out (by simp [spec_SyncWord.l3])
                   | succ k4 =>
                    have H := HA.out
                    clear HA
                    simp only [spec_SyncWord.l3] at H
                    by_cases c61 : x15_4 < 2
                    ·rw [if_pos c61] at H
                     have c61b0 : decide (x15_4 < 2) = true := decide_eq_true c61
                     clear c61
                     have H' := Aside0.mk H
                     clear H
                     go_wp2
                     go_loopg [16, 17] k4 (fun kq v16 v17 w' => ∃ (x16_5 : Int) (x17_5 : Int), v16 = .int .i64 x16_5 ∧ v17 = .int .i64 x17_5 ∧ Aside0 (spec_SyncWord.l4 kq (t180.length : Int) x6_2 ji40 x10_4 x12_4 x13_3 (rd x12_3 x13_3) x15_4 x16_5 x17_5 = some (r1, r2)) ∧ Aside0 (kq ≤ k4) ∧ Aside0 (Kd.S (Kd.slice 3 (Kd.int .i64)) 49 w' w.heap.size (fun k_ => some k_ ≠ ((.slice (some ⟨go51, 0, none⟩) x10_4.length co51) : Value).ownBlock ∧ some k_ ≠ (u12 : Value).ownBlock) v184 x6_2) ∧ Aside0 (Kd.R (Kd.int .i64) 3 w' w.heap.size (fun k_ => some k_ ≠ (u12 : Value).ownBlock) (.slice (some ⟨go51, 0, none⟩) x10_4.length co51) x10_4) ∧ Aside0 (Kd.R (Kd.int .i64) 3 w' w.heap.size (fun k_ => some k_ ≠ ((.slice (some ⟨go51, 0, none⟩) x10_4.length co51) : Value).ownBlock) u12 x12_4) ∧ Aside0 (Below w.heap.size w w'))
                     case atStart => exact ⟨(0), (0), (by first | rfl | (simp; done) | (simp [*]; done)), (by first | rfl | (simp; done) | (simp [*]; done)), H', ⟨Nat.le_refl _⟩, ⟨by (try simp only [hl10_3]); (try simp only [hl10_4]); (with_reducible repeat (first | apply Kd.S_alloc | apply Kd.S_drewN | apply Kd.S_drew)); exact HO_6.out⟩, ⟨by (try simp only [hl10_3]); (try simp only [hl10_4]); (with_reducible repeat (first | apply Kd.R_alloc | apply Kd.R_drewN | apply Kd.R_drew)); exact HO_10.out⟩, ⟨by (try simp only [hl10_3]); (try simp only [hl10_4]); (with_reducible repeat (first | apply Kd.R_alloc | apply Kd.R_drewN | apply Kd.R_drew)); exact HO_12.out⟩, ⟨by repeat (first | (with_reducible first | exact HB.out | apply below_alloc | apply pw_below_drewN | apply below_drew1) | exact HB.out)⟩⟩
                     case round => as_aux_lemma =>
                      clear H'
                      try clear c1
                      try clear p1
                      try clear q1
                      try clear hx1
                      try clear c2
                      try clear p2
                      try clear q2
                      try clear hx2
                      try clear c3
                      try clear hx3
                      try clear hcv3
                      try clear hf3
                      try clear c4
                      try clear c5
                      try clear c5b0
                      try clear c5b1
                      try clear p5
                      try clear q5
                      try clear hx5
                      try clear hf5
                      try clear c6
                      try clear p6
                      try clear c8
                      try clear c10
                      try clear c12
                      try clear c12b0
                      try clear c12b1
                      try clear c17
                      try clear c17b0
                      try clear c18
                      try clear c18b0
                      try clear p18
                      try clear q18
                      try clear hx18
                      try clear c19
                      try clear c19b0
                      try clear c20
                      try clear c20b0
                      try clear p20
                      try clear q20
                      try clear hx20
                      try clear c21
                      try clear c21b0
                      try clear c22
                      try clear c22b0
                      try clear c23
                      try clear c24
                      try clear c25
                      try clear p26
                      try clear q26
                      try clear hcv31
                      try clear c32
                      try clear c34
                      try clear hx34
                      try clear hf34
                      try clear c39
                      try clear c39b0
                      try clear c39b1
                      try clear c42
                      try clear c42b0
                      try clear c42b1
                      try clear c44
                      try clear c44b0
                      try clear c44b1
                      try clear c45
                      try clear c45b0
                      try clear c45b1
                      try clear c46
                      try clear c46b0
                      try clear c47
                      try clear c47b0
                      try clear c49
                      try clear c49b0
                      try clear c50
                      try clear c50b0
                      try clear p51
                      try clear q51
                      try clear hx51
                      try clear hf51
                      try clear c58
                      try clear c58b0
                      try clear c59
                      try clear c59b0
                      try clear c61
                      try clear c61b0
                      try clear hx186_0
                      try clear hx187_0
                      try clear hx205_0
                      try clear hx34_0
                      try clear hx51_0
                      try clear p1
                      try clear p18
                      try clear p186
                      try clear p187
                      try clear p2
                      try clear p20
                      try clear p205
                      try clear p26
                      try clear p5
                      try clear p51
                      try clear p6
                      try clear q1
                      try clear q18
                      try clear q186
                      try clear q187
                      try clear q2
                      try clear q20
                      try clear q205
                      try clear q26
                      try clear q5
                      try clear q51
                      obtain ⟨x16_5, x17_5, rfl, rfl, HA, HK5, HO_6, HO_10, HO_12, HB⟩ := hrel
                      cases gk with
                      | zero => exact absurd HA.out (by simp [spec_SyncWord.l4])
                      | succ k5 =>
                       have H := HA.out
                       clear HA
                       simp only [spec_SyncWord.l4] at H
                       by_cases c62 : x17_5 < (t180.length : Int)
                       ·rw [if_pos c62] at H
                        have c62b0 : decide (x17_5 < (t180.length : Int)) = true := decide_eq_true c62
                        clear c62
                        obtain ⟨ji63, hji63⟩ : ∃ j_ : Int, (IntKind.u64.wrap (x17_5)) = j_ := ⟨_, rfl⟩
                        replace H : (if 0 ≤ (ji63) then (if (Go.bits .and .i64 (shr .i64 (rd x12_3 x13_3) (ji63)) 1) = 1 then (if 0 ≤ x15_4 then (if x15_4 < (x6_2.length : Int) then (if 0 ≤ x17_5 then (if x17_5 < ((rd_L3 x6_2 x15_4).length : Int) then (if 0 ≤ (IntKind.u64.wrap (rd (rd_L3 x6_2 x15_4) x17_5)) then (spec_SyncWord.l4 k5 (t180.length : Int) x6_2 ji40 x10_4 x12_4 x13_3 (rd x12_3 x13_3) x15_4 (Go.bits .or .i64 x16_5 (shl .i64 1 (IntKind.u64.wrap (rd (rd_L3 x6_2 x15_4) x17_5)))) (wrap64 (x17_5 + 1))) else (none)) else (none)) else (none)) else (none)) else (none)) else (spec_SyncWord.l4 k5 (t180.length : Int) x6_2 ji40 x10_4 x12_4 x13_3 (rd x12_3 x13_3) x15_4 x16_5 (wrap64 (x17_5 + 1)))) else (none)) = some (r1, r2) := by first | (rw [hji63] at H; exact H) | (simp only [hji63] at H ⊢; exact H)
                        by_cases c64 : 0 ≤ (ji63)
                        ·rw [if_pos c64] at H
                         have c64b0 := eq_true c64
                         have c64b1 : decide (0 ≤ (ji63)) = true := decide_eq_true c64
                         clear c64
                         obtain ⟨ji65, hji65⟩ : ∃ j_ : Int, (shr .i64 (rd x12_3 x13_3) (ji63)) = j_ := ⟨_, rfl⟩
                         replace H : (if (Go.bits .and .i64 (ji65) 1) = 1 then (if 0 ≤ x15_4 then (if x15_4 < (x6_2.length : Int) then (if 0 ≤ x17_5 then (if x17_5 < ((rd_L3 x6_2 x15_4).length : Int) then (if 0 ≤ (IntKind.u64.wrap (rd (rd_L3 x6_2 x15_4) x17_5)) then (spec_SyncWord.l4 k5 (t180.length : Int) x6_2 ji40 x10_4 x12_4 x13_3 (rd x12_3 x13_3) x15_4 (Go.bits .or .i64 x16_5 (shl .i64 1 (IntKind.u64.wrap (rd (rd_L3 x6_2 x15_4) x17_5)))) (wrap64 (x17_5 + 1))) else (none)) else (none)) else (none)) else (none)) else (none)) else (spec_SyncWord.l4 k5 (t180.length : Int) x6_2 ji40 x10_4 x12_4 x13_3 (rd x12_3 x13_3) x15_4 x16_5 (wrap64 (x17_5 + 1)))) = some (r1, r2) := by first | (rw [hji65] at H; exact H) | (simp only [hji65] at H ⊢; exact H)
                         have hji65_ : ((rd x12_3 x13_3) / 2 ^ min (ji63).toNat 64) = ji65 := hji65
                         have hji65z : (ji63) ≤ 64 → ((rd x12_3 x13_3) / 2 ^ (ji63).toNat) = ji65 := shr_small hji65
                         by_cases c66 : (Go.bits .and .i64 (ji65) 1) = 1
                         ·rw [if_pos c66] at H
                          have c66b0 : ((Go.bits .and .i64 (ji65) 1) == 1) = true := beq_iff_eq.mpr c66
                          have c66b1 : ((Go.bits .and .i64 (ji65) 1) != 1) = false := bne_eq_false_iff_eq.mpr c66
                          clear c66
                          by_cases c67 : 0 ≤ x15_4
                          ·rw [if_pos c67] at H
                           have c67b0 : decide (0 ≤ x15_4) = true := decide_eq_true c67
                           clear c67
                           by_cases c68 : x15_4 < (x6_2.length : Int)
                           ·rw [if_pos c68] at H
                            have c68b0 : decide (x15_4 < (x6_2.length : Int)) = true := decide_eq_true c68
                            clear c68
                            by_cases c69 : 0 ≤ x17_5
                            ·rw [if_pos c69] at H
                             have c69b0 : decide (0 ≤ x17_5) = true := decide_eq_true c69
                             clear c69
                             by_cases c70 : x17_5 < ((rd_L3 x6_2 x15_4).length : Int)
                             ·rw [if_pos c70] at H
                              have c70b0 : decide (x17_5 < ((rd_L3 x6_2 x15_4).length : Int)) = true := decide_eq_true c70
                              clear c70
                              obtain ⟨ji71, hji71⟩ : ∃ j_ : Int, (IntKind.u64.wrap (rd (rd_L3 x6_2 x15_4) x17_5)) = j_ := ⟨_, rfl⟩
                              replace H : (if 0 ≤ (ji71) then (spec_SyncWord.l4 k5 (t180.length : Int) x6_2 ji40 x10_4 x12_4 x13_3 (rd x12_3 x13_3) x15_4 (Go.bits .or .i64 x16_5 (shl .i64 1 (ji71))) (wrap64 (x17_5 + 1))) else (none)) = some (r1, r2) := by first | (rw [hji71] at H; exact H) | (simp only [hji71] at H ⊢; exact H)
                              by_cases c72 : 0 ≤ (ji71)
                              ·rw [if_pos c72] at H
                               have c72b0 := eq_true c72
                               have c72b1 : decide (0 ≤ (ji71)) = true := decide_eq_true c72
                               clear c72
                               obtain ⟨ji73, hji73⟩ : ∃ j_ : Int, (shl .i64 1 (ji71)) = j_ := ⟨_, rfl⟩
                               replace H : (spec_SyncWord.l4 k5 (t180.length : Int) x6_2 ji40 x10_4 x12_4 x13_3 (rd x12_3 x13_3) x15_4 (Go.bits .or .i64 x16_5 (ji73)) (wrap64 (x17_5 + 1))) = some (r1, r2) := by first | (rw [hji73] at H; exact H) | (simp only [hji73] at H ⊢; exact H)
                               have hji73_ : (IntKind.i64.wrap (1 * 2 ^ min (ji71).toNat 64)) = ji73 := hji73
                               have hji73z : (ji71) ≤ 64 → (IntKind.i64.wrap (1 * 2 ^ (ji71).toNat)) = ji73 := shl_small hji73
                               have hji73u : (IntKind.i64.wrap (2 ^ min (ji71).toNat 64)) = ji73 := by have h_ := hji73_; rw [Int.one_mul] at h_; exact h_
                               have hji73v : (ji71) ≤ 64 → (IntKind.i64.wrap (2 ^ (ji71).toNat)) = ji73 := fun hle_ => by have h_ := hji73z hle_; rw [Int.one_mul] at h_; exact h_
                               have hji73y : (wrap64 (1 * 2 ^ min (ji71).toNat 64)) = ji73 := (i64_w _).symm.trans hji73_
                               have hji73x : (ji71) ≤ 64 → (wrap64 (1 * 2 ^ (ji71).toNat)) = ji73 := fun h_ => (i64_w _).symm.trans (hji73z h_)
                               have H' := Aside0.mk H
                               clear H
                               obtain ⟨Ao74, co74, eo74⟩ := Kd.S_slice HO_6.out
                               subst eo74
                               have p206 : 0 ≤ (x15_4 : Int) := of_decide_eq_true (by first | (with_reducible assumption) | assumption)
                               have q206 : x15_4 < (x6_2.length : Int) := of_decide_eq_true (by first | (with_reducible assumption) | assumption)
                               obtain ⟨ad206, A206_0, c206_0, e206, hx206_0, hl206_0, hi206_0⟩ := at_L3 (Kd.S_reads' HO_6.out).2.2 x15_4 p206 q206
                               cases e206
                               obtain ⟨ce206, hce206, hMe206, hcc206⟩ := Kd.S_get HO_6.out [] x15_4 p206 (by first | exact q206 | exact of_decide_eq_true (by first | (with_reducible assumption) | assumption) | (have e_ := (Kd.S_reads' HO_6.out).1; omega))
                               obtain ⟨ve206_0, rfl, ge206_0⟩ := hMe206
                               have hv206_0 := hcc206 0 _ rfl
                               rw [Nat.add_zero, show ((Kd.slice 3 (Kd.int .i64))).sz = 1 from rfl, Nat.mul_one] at hv206_0
                               replace hv206_0 := Option.some.inj (hv206_0.symm.trans hx206_0)
                               rw [hv206_0] at ge206_0
                               have HL206_0 := Aside0.mk (show Kd.R (Kd.int .i64) 3 _ _ _ _ (rd_L3 x6_2 x15_4) from ge206_0)
                               clear hv206_0 ge206_0
                               have HX206_0 := Aside0.mk hx206_0
                               clear hcc206 hce206
                               have HR206_0 := Aside0.mk hi206_0
                               have HC206_0 := Aside0.mk hl206_0
                               clear hi206_0 hl206_0
                               replace p206 := eq_true p206
                               replace q206 := eq_true q206
                               have p207 : 0 ≤ (x17_5 : Int) := of_decide_eq_true (by first | (with_reducible assumption) | assumption)
                               have q207 : x17_5 < ((rd_L3 x6_2 x15_4).length : Int) := of_decide_eq_true (by first | (with_reducible assumption) | assumption)
                               obtain ⟨ad207, e207, hx207_0⟩ := Kd.at_int (by repeat (first | (with_reducible exact HR206_0.out) | (with_reducible refine Kd.C_alloc ?_ _) | (with_reducible refine Kd.C_drewN ?_ _) | (with_reducible refine Kd.C_drew ?_) | exact HR206_0.out)) x17_5 p207 q207
                               cases e207
                               replace p207 := eq_true p207
                               replace q207 := eq_true q207
                               go_wp2
                               go_roundg k5
                               case measure => have := HJ1.out; have := HK2.out; have := HK3.out; have := HK4.out; have := HK5.out; omega
                               case rel => exact ⟨(Go.bits .or .i64 x16_5 (ji73)), (wrap64 (x17_5 + 1)), (by first | rfl | (simp; done) | (simp only [← hji73] <;> (first | rfl | simp)) | (simp [*]; done)), (by first | rfl | (simp; done) | (simp [*]; done)), H', ⟨by have := HJ1.out; have := HK2.out; have := HK3.out; have := HK4.out; have := HK5.out; omega⟩, ⟨by (try simp only [hl10_3]); (try simp only [hl10_4]); (with_reducible repeat (first | apply Kd.S_alloc | apply Kd.S_drewN | apply Kd.S_drew)); exact HO_6.out⟩, ⟨by (try simp only [hl10_3]); (try simp only [hl10_4]); (with_reducible repeat (first | apply Kd.R_alloc | apply Kd.R_drewN | apply Kd.R_drew)); exact HO_10.out⟩, ⟨by (try simp only [hl10_3]); (try simp only [hl10_4]); (with_reducible repeat (first | apply Kd.R_alloc | apply Kd.R_drewN | apply Kd.R_drew)); exact HO_12.out⟩, ⟨by repeat (first | (with_reducible first | exact HB.out | apply below_alloc | apply pw_below_drewN | apply below_drew1) | exact HB.out)⟩⟩
                              ·rw [if_neg c72] at H
                               exact absurd H (by simp)
                             ·rw [if_neg c70] at H
                              exact absurd H (by simp)
                            ·rw [if_neg c69] at H
                             exact absurd H (by simp)
                           ·rw [if_neg c68] at H
                            exact absurd H (by simp)
                          ·rw [if_neg c67] at H
                           exact absurd H (by simp)
                         ·rw [if_neg c66] at H
                          have c66b0 : ((Go.bits .and .i64 (ji65) 1) == 1) = false := beq_eq_false_iff_ne.mpr c66
                          have c66b1 : ((Go.bits .and .i64 (ji65) 1) != 1) = true := bne_iff_ne.mpr c66
                          have H' := Aside0.mk H
                          clear H
                          go_wp2
                          go_roundg k5
                          case measure => have := HJ1.out; have := HK2.out; have := HK3.out; have := HK4.out; have := HK5.out; omega
                          case rel => exact ⟨(x16_5), (wrap64 (x17_5 + 1)), (by first | rfl | (simp; done) | (simp [*]; done)), (by first | rfl | (simp; done) | (simp [*]; done)), H', ⟨by have := HJ1.out; have := HK2.out; have := HK3.out; have := HK4.out; have := HK5.out; omega⟩, ⟨by (try simp only [hl10_3]); (try simp only [hl10_4]); (with_reducible repeat (first | apply Kd.S_alloc | apply Kd.S_drewN | apply Kd.S_drew)); exact HO_6.out⟩, ⟨by (try simp only [hl10_3]); (try simp only [hl10_4]); (with_reducible repeat (first | apply Kd.R_alloc | apply Kd.R_drewN | apply Kd.R_drew)); exact HO_10.out⟩, ⟨by (try simp only [hl10_3]); (try simp only [hl10_4]); (with_reducible repeat (first | apply Kd.R_alloc | apply Kd.R_drewN | apply Kd.R_drew)); exact HO_12.out⟩, ⟨by repeat (first | (with_reducible first | exact HB.out | apply below_alloc | apply pw_below_drewN | apply below_drew1) | exact HB.out)⟩⟩
                        ·rw [if_neg c64] at H
                         exact absurd H (by simp)
                       ·rw [if_neg c62] at H
                        have c62b0 : decide (x17_5 < (t180.length : Int)) = false := decide_eq_false c62
                        clear c62
                        by_cases c75 : x16_5 = ji40
                        ·rw [if_pos c75] at H
                         have c75b0 : (x16_5 == ji40) = true := beq_iff_eq.mpr c75
                         have c75b1 : (x16_5 != ji40) = false := bne_eq_false_iff_eq.mpr c75
                         clear c75
                         replace H := Option.bind_eq_some_iff.mp H
                         obtain ⟨t208, A760, H⟩ := H
                         replace H : ((some (([(wrap64 (48 + x15_4)) % 256] : List Int) : List Int)).bind fun y209 => (if t208.size + (strOfNums y209).size ≤ 9223372036854775807 then (some (t208 ++ (strOfNums y209), true)) else (none))) = some (r1, r2) := H
                         have A76 := Aside0.mk A760
                         clear A760
                         obtain ⟨y209, hy209⟩ : ∃ y_ : List Int, y_ = (([(wrap64 (48 + x15_4)) % 256] : List Int)) := ⟨_, rfl⟩
                         replace H : (if t208.size + (strOfNums y209).size ≤ 9223372036854775807 then (some (t208 ++ (strOfNums y209), true)) else (none)) = some (r1, r2) := by first | (rw [hy209]; with_reducible exact H) | (have H2_ := (Option.bind_some _ _).symm.trans H; rw [hy209]; with_reducible exact H2_) | (have H2_ := (Option.bind_some _ _).symm.trans H; with_reducible exact H2_) | with_reducible exact H | (rw [hy209]; exact H) | exact H
                         have Ny209 := Aside0.mk hy209
                         clear hy209
                         by_cases c77 : t208.size + (strOfNums y209).size ≤ 9223372036854775807
                         ·rw [if_pos c77] at H
                          have c77b0 := eq_true c77
                          have c77b1 : decide (t208.size + (strOfNums y209).size ≤ 9223372036854775807) = true := decide_eq_true c77
                          try have c77b2 : (9223372036854775807 < t208.size + (strOfNums y209).size) = False := eq_false (Nat.not_lt.2 c77)
                          simp only [Option.some.injEq, Prod.mk.injEq] at H
                          obtain ⟨rfl, rfl⟩ := H
                          try go_wp2
                          have n0_ := Aside0.mk (Kd.S_drew HO_6.out)
                          have n1_ := Aside0.mk (Kd.R_drew HO_10.out)
                          have n2_ := Aside0.mk (Kd.R_drew HO_12.out)
                          have n3_ := Aside0.mk (below_drew1 HB.out)
                          clear HO_6
                          clear HO_10
                          clear HO_12
                          clear HB
                          have HO_6 := n0_
                          have HO_10 := n1_
                          have HO_12 := n2_
                          have HB := n3_
                          clear n0_ n1_ n2_ n3_
                          refine start_ (n := 11) (S := fun w' => True) (ds := []) #[false, false, false, false, false, false, false, false, false, false, false] (by kernel_rfl) rfl rfl trivial (fun hHeld => ?_); refine with_tabW spec_SyncWord.tab32 spec_SyncWord.bits32 (fun HT_ HW_ => ?_)
                          generalize wr.drew = w78 at HO_6 HO_10 HO_12 HB hHeld ⊢
                          refine pure_ (i := 0) (N := some 123) (v := ?_) (a' := ?_) #[true, false, false, false, false, false, false, false, false, false, false] rfl rfl (any_of HT_.out (by kernel_rfl)) (fun _ _ _ h => h) (Or.inl ⟨by rfl, ?_⟩) ?_ ?_
                          rotate_left
                          ·intro w'
                           go_simp
                           with_reducible rfl
                          rotate_left
                          ·simp only [Act.put, List.setIfInBounds_toArray, List.set_cons_zero, List.set_cons_succ, i64_w, i32_w]
                           rfl
                          refine pure_ (i := 1) (N := some 124) (v := ?_) (a' := ?_) #[true, true, false, false, false, false, false, false, false, false, false] rfl rfl (any_of HT_.out (by kernel_rfl)) (fun _ _ _ h => h) (Or.inl ⟨by rfl, ?_⟩) ?_ ?_
                          rotate_left
                          ·intro w'
                           go_simp
                           with_reducible rfl
                          rotate_left
                          ·simp only [Act.put, List.setIfInBounds_toArray, List.set_cons_zero, List.set_cons_succ, i64_w, i32_w]
                           rfl
                          refine pure_ (i := 3) (N := some 126) (v := ?_) (a' := ?_) #[true, true, false, true, false, false, false, false, false, false, false] rfl rfl (any_of HT_.out (by kernel_rfl)) (fun _ _ _ h => h) (Or.inl ⟨by rfl, ?_⟩) ?_ ?_
                          rotate_left
                          ·intro w'
                           go_simp
                           with_reducible rfl
                          rotate_left
                          ·simp only [Act.put, List.setIfInBounds_toArray, List.set_cons_zero, List.set_cons_succ, i64_w, i32_w]
                           rfl
                          refine pure_ (i := 4) (N := some 127) (v := ?_) (a' := ?_) #[true, true, false, true, true, false, false, false, false, false, false] rfl rfl (any_of HT_.out (by kernel_rfl)) (fun _ _ _ h => h) (Or.inl ⟨by rfl, ?_⟩) ?_ ?_
                          rotate_left
                          ·intro w'
                           go_simp
                           with_reducible rfl
                          rotate_left
                          ·simp only [Act.put, List.setIfInBounds_toArray, List.set_cons_zero, List.set_cons_succ, i64_w, i32_w]
                           rfl
                          refine pure_ (i := 5) (N := some 128) (v := ?_) (a' := ?_) #[true, true, false, true, true, true, false, false, false, false, false] rfl rfl (any_of HT_.out (by kernel_rfl)) (fun _ _ _ h => h) (Or.inl ⟨by rfl, ?_⟩) ?_ ?_
                          rotate_left
                          ·intro w'
                           go_simp
                           with_reducible rfl
                          rotate_left
                          ·simp only [Act.put, List.setIfInBounds_toArray, List.set_cons_zero, List.set_cons_succ, i64_w, i32_w]
                           rfl
                          refine join_ (σ := Value) 3 #[true, true, true, true, true, true, true, true, false, false, false] (fun s_ => [(125, .string t208), (129, s_), (130, .string (strOfNums y209))]) (fun s_ w' => (Kd.R (Kd.int .u8) 5 w' w.heap.size (fun _ => True) s_ y209) ∧ (Kd.R (Kd.int .i64) 3 w' w.heap.size (fun k_ => some k_ ≠ (u12 : Value).ownBlock) (.slice (some ⟨go51, 0, none⟩) x10_4.length co51) x10_4) ∧ (Kd.R (Kd.int .i64) 3 w' w.heap.size (fun k_ => some k_ ≠ (.slice (some ⟨go51, 0, none⟩) x10_4.length co51 : Value).ownBlock) u12 x12_4) ∧ (Kd.S (Kd.slice 3 (Kd.int .i64)) 49 w' w.heap.size (fun k_ => some k_ ≠ (.slice (some ⟨go51, 0, none⟩) x10_4.length co51 : Value).ownBlock ∧ some k_ ≠ (u12 : Value).ownBlock) v184 x6_2) ∧ (Below w.heap.size w w')) ?_ ?_
                          rotate_left
                          ·intro hCont
                           refine two_ (i := 2) (j := 6) (Ni := some 125) (Nj := some 129) #[true, true, true, true, true, true, false, false, false, false, false] #[true, true, false, true, true, true, true, false, false, false, false] rfl rfl rfl rfl (two_of HT_.out (by kernel_rfl)) (by decide) (by decide) (fun K hK => ?_) (fun K hK => ?_)
                           ·skip
                            refine goes_ Tryz.func26 (by kernel_rfl) rfl #[.slice (some ⟨go51, 0, none⟩) x10_4.length co51, .int .i64 (rd x12_3 x13_3)] (by rfl) rfl rfl (by (try simp only [List.map_toArray, List.map_cons, List.map_nil]); first | done | rfl | (simp only [List.length_drop, List.length_take]; rfl)) ?_
                            with_reducible refine (spec_l05Back.calls k5 _ _ x10_4 (rd x12_3 x13_3) t208 _ ?side1 ?side2 A76.out).mono ?_
                            (case side1 => repeat (first | exact (Kd.R_reads' HO_10.out).2.2 | (with_reducible refine Kd.C_alloc ?_ _) | (with_reducible refine Kd.C_drewN ?_ _) | (with_reducible refine Kd.C_drew ?_)))
                            (case side2 => exact (Kd.R_reads' HO_10.out).2.1)
                            rintro e w79 ⟨rfl, hb⟩
                            refine ⟨_, rfl, ?_⟩
                            have n0_ := Aside0.mk (Kd.S_below (by (with_reducible repeat (first | apply Kd.S_alloc | apply Kd.S_drewN | apply Kd.S_drew)); exact HO_6.out) hb)
                            have n1_ := Aside0.mk (Kd.R_below (by (with_reducible repeat (first | apply Kd.R_alloc | apply Kd.R_drewN | apply Kd.R_drew)); exact HO_10.out) hb)
                            have n2_ := Aside0.mk (Kd.R_below (by (with_reducible repeat (first | apply Kd.R_alloc | apply Kd.R_drewN | apply Kd.R_drew)); exact HO_12.out) hb)
                            have n3_ := Aside0.mk (below_step (by repeat (first | (with_reducible first | exact HB.out | apply below_alloc | apply pw_below_drewN | apply below_drew1) | exact HB.out)) hb)
                            clear HO_6
                            clear HO_10
                            clear HO_12
                            clear HB
                            have HO_6 := n0_
                            have HO_10 := n1_
                            have HO_12 := n2_
                            have HB := n3_
                            clear n0_ n1_ n2_ n3_
                            (try clear hb)
                            (try clear hb2)
                            (try clear hk)
                            (try clear hi)
                            refine hK.out _ _ (by first | exact trivial | exact hHeld | exact ⟨hHeld.1, hHeld.2⟩ | exact ⟨HS0_, HS1_⟩) (fun hHeld => ?_)
                            clear hK K
                            refine norm_ (a' := ?_) ?_ ?_
                            rotate_left
                            ·show Act.put _ (some 125) _ = _
                             simp only [Act.put, List.setIfInBounds_toArray, List.set_cons_zero, List.set_cons_succ, i64_w, i32_w]
                             rfl
                            refine one_ (i := 6) (N := some 129) #[true, true, true, true, true, true, true, false, false, false, false] rfl rfl (one_of HT_.out (by kernel_rfl)) (by decide) (fun K hK => ?_)
                            refine Kd.R_lit_step (Kd.int .u8) _ 5 ?hg (N := 129) ?hd (xs := ([(wrap64 (48 + x15_4)) % 256] : List Int)) (inner := [.int .u8 ((wrap64 (48 + x15_4)) % 256)]) (ok := fun _ => True) (okp := fun _ => True) ?hr ?hp (fun _ hk => hk) trivial (Below.refl _ _) (Nat.le_refl _) (by simp) ?_; (case hd => rfl); (case hg => rfl); (case hr => first | (go_simp; done) | (go_simp; rfl)); (case hp => exact (Reps.one (show Kd.M (Kd.int .u8) _ _ _ ((wrap64 (48 + x15_4)) % 256) [.int .u8 ((wrap64 (48 + x15_4)) % 256)] from rfl) (Reps.none _ _)))
                            intro v210 w80 ho81 hb hg_ hnew_
                            clear hg_ hnew_
                            (first | rw [← Ny209.out] at ho81 | (simp only [Int.reduceToNat] at ho81; rw [← Ny209.out] at ho81))
                            have n0_ := Aside0.mk (Kd.S_below (by (with_reducible repeat (first | apply Kd.S_alloc | apply Kd.S_drewN | apply Kd.S_drew)); exact HO_6.out) hb)
                            have n1_ := Aside0.mk (Kd.R_below (by (with_reducible repeat (first | apply Kd.R_alloc | apply Kd.R_drewN | apply Kd.R_drew)); exact HO_10.out) hb)
                            have n2_ := Aside0.mk (Kd.R_below (by (with_reducible repeat (first | apply Kd.R_alloc | apply Kd.R_drewN | apply Kd.R_drew)); exact HO_12.out) hb)
                            have n3_ := Aside0.mk (Kd.R_lower ho81 (below_size (by repeat (first | (with_reducible first | exact HB.out | apply below_alloc | apply pw_below_drewN | apply below_drew1) | exact HB.out))))
                            have n4_ := Aside0.mk (below_step (by repeat (first | (with_reducible first | exact HB.out | apply below_alloc | apply pw_below_drewN | apply below_drew1) | exact HB.out)) hb)
                            clear HO_6
                            clear HO_10
                            clear HO_12
                            clear HB
                            have HO_6 := n0_
                            have HO_10 := n1_
                            have HO_12 := n2_
                            have HO211 := n3_
                            have HB := n4_
                            clear n0_ n1_ n2_ n3_ n4_
                            clear hb ho81
                            refine hK.out _ _ (by first | exact trivial | exact hHeld | exact ⟨hHeld.1, hHeld.2⟩ | exact ⟨HS0_, HS1_⟩) (fun hHeld => ?_)
                            clear hK K
                            refine norm_ (a' := ?_) ?_ ?_
                            rotate_left
                            ·show Act.put _ (some 129) _ = _
                             simp only [Act.put, List.setIfInBounds_toArray, List.set_cons_zero, List.set_cons_succ, i64_w, i32_w]
                             rfl
                            refine one_ (i := 7) (N := some 130) #[true, true, true, true, true, true, true, true, false, false, false] rfl rfl (one_of HT_.out (by kernel_rfl)) (by decide) (fun K hK => ?_)
                            have hcv82 := own_string (P := Tryz.prog) Tryz.underlying22 Tryz.underlying5 Tryz.underlying9 (Kd.own_of_R HO211.out)
                            refine value_ (w1 := ?_) (v := ?_) (by rfl) rfl ?_ ?_
                            rotate_left 2
                            ·go_simp
                             constructor
                             ·rfl
                             ·rfl
                            clear hcv82
                            refine hK.out _ _ (by first | exact trivial | exact hHeld | exact ⟨hHeld.1, hHeld.2⟩ | exact ⟨HS0_, HS1_⟩) (fun hHeld => ?_)
                            clear hK K
                            refine norm_ (a' := ?_) ?_ ?_
                            rotate_left
                            ·show Act.put _ (some 130) _ = _
                             simp only [Act.put, List.setIfInBounds_toArray, List.set_cons_zero, List.set_cons_succ, i64_w, i32_w]
                             rfl
                            exact norm_ (by simp only [putAll, Act.put, List.setIfInBounds_toArray, List.set_cons_zero, List.set_cons_succ]) (hCont (v210) _ ⟨(by (with_reducible repeat (first | apply Kd.R_alloc | apply Kd.R_drewN | apply Kd.R_drew)); exact HO211.out), (by (with_reducible repeat (first | apply Kd.R_alloc | apply Kd.R_drewN | apply Kd.R_drew)); exact HO_10.out), (by (with_reducible repeat (first | apply Kd.R_alloc | apply Kd.R_drewN | apply Kd.R_drew)); exact HO_12.out), (by (with_reducible repeat (first | apply Kd.S_alloc | apply Kd.S_drewN | apply Kd.S_drew)); exact HO_6.out), (by repeat (first | (with_reducible first | exact HB.out | apply below_alloc | apply pw_below_drewN | apply below_drew1) | exact HB.out))⟩)
                           ·skip
                            refine Kd.R_lit_step (Kd.int .u8) _ 5 ?hg (N := 129) ?hd (xs := ([(wrap64 (48 + x15_4)) % 256] : List Int)) (inner := [.int .u8 ((wrap64 (48 + x15_4)) % 256)]) (ok := fun _ => True) (okp := fun _ => True) ?hr ?hp (fun _ hk => hk) trivial (Below.refl _ _) (Nat.le_refl _) (by simp) ?_; (case hd => rfl); (case hg => rfl); (case hr => first | (go_simp; done) | (go_simp; rfl)); (case hp => exact (Reps.one (show Kd.M (Kd.int .u8) _ _ _ ((wrap64 (48 + x15_4)) % 256) [.int .u8 ((wrap64 (48 + x15_4)) % 256)] from rfl) (Reps.none _ _)))
                            intro v210 w79 ho80 hb hg_ hnew_
                            clear hg_ hnew_
                            (first | rw [← Ny209.out] at ho80 | (simp only [Int.reduceToNat] at ho80; rw [← Ny209.out] at ho80))
                            have n0_ := Aside0.mk (Kd.S_below (by (with_reducible repeat (first | apply Kd.S_alloc | apply Kd.S_drewN | apply Kd.S_drew)); exact HO_6.out) hb)
                            have n1_ := Aside0.mk (Kd.R_below (by (with_reducible repeat (first | apply Kd.R_alloc | apply Kd.R_drewN | apply Kd.R_drew)); exact HO_10.out) hb)
                            have n2_ := Aside0.mk (Kd.R_below (by (with_reducible repeat (first | apply Kd.R_alloc | apply Kd.R_drewN | apply Kd.R_drew)); exact HO_12.out) hb)
                            have n3_ := Aside0.mk (Kd.R_lower ho80 (below_size (by repeat (first | (with_reducible first | exact HB.out | apply below_alloc | apply pw_below_drewN | apply below_drew1) | exact HB.out))))
                            have n4_ := Aside0.mk (below_step (by repeat (first | (with_reducible first | exact HB.out | apply below_alloc | apply pw_below_drewN | apply below_drew1) | exact HB.out)) hb)
                            clear HO_6
                            clear HO_10
                            clear HO_12
                            clear HB
                            have HO_6 := n0_
                            have HO_10 := n1_
                            have HO_12 := n2_
                            have HO211 := n3_
                            have HB := n4_
                            clear n0_ n1_ n2_ n3_ n4_
                            clear hb ho80
                            refine hK.out _ _ (by first | exact trivial | exact hHeld | exact ⟨hHeld.1, hHeld.2⟩ | exact ⟨HS0_, HS1_⟩) (fun hHeld => ?_)
                            clear hK K
                            refine norm_ (a' := ?_) ?_ ?_
                            rotate_left
                            ·show Act.put _ (some 129) _ = _
                             simp only [Act.put, List.setIfInBounds_toArray, List.set_cons_zero, List.set_cons_succ, i64_w, i32_w]
                             rfl
                            refine two_ (i := 2) (j := 7) (Ni := some 125) (Nj := some 130) #[true, true, true, true, true, true, true, false, false, false, false] #[true, true, false, true, true, true, true, true, false, false, false] rfl rfl rfl rfl (two_of HT_.out (by kernel_rfl)) (by decide) (by decide) (fun K hK => ?_) (fun K hK => ?_)
                            ·skip
                             refine goes_ Tryz.func26 (by kernel_rfl) rfl #[.slice (some ⟨go51, 0, none⟩) x10_4.length co51, .int .i64 (rd x12_3 x13_3)] (by rfl) rfl rfl (by (try simp only [List.map_toArray, List.map_cons, List.map_nil]); first | done | rfl | (simp only [List.length_drop, List.length_take]; rfl)) ?_
                             with_reducible refine (spec_l05Back.calls k5 _ _ x10_4 (rd x12_3 x13_3) t208 _ ?side1 ?side2 A76.out).mono ?_
                             (case side1 => repeat (first | exact (Kd.R_reads' HO_10.out).2.2 | (with_reducible refine Kd.C_alloc ?_ _) | (with_reducible refine Kd.C_drewN ?_ _) | (with_reducible refine Kd.C_drew ?_)))
                             (case side2 => exact (Kd.R_reads' HO_10.out).2.1)
                             rintro e w81 ⟨rfl, hb⟩
                             refine ⟨_, rfl, ?_⟩
                             have n0_ := Aside0.mk (Kd.S_below (by (with_reducible repeat (first | apply Kd.S_alloc | apply Kd.S_drewN | apply Kd.S_drew)); exact HO_6.out) hb)
                             have n1_ := Aside0.mk (Kd.R_below (by (with_reducible repeat (first | apply Kd.R_alloc | apply Kd.R_drewN | apply Kd.R_drew)); exact HO_10.out) hb)
                             have n2_ := Aside0.mk (Kd.R_below (by (with_reducible repeat (first | apply Kd.R_alloc | apply Kd.R_drewN | apply Kd.R_drew)); exact HO_12.out) hb)
                             have n3_ := Aside0.mk (Kd.R_below (by (with_reducible repeat (first | apply Kd.R_alloc | apply Kd.R_drewN | apply Kd.R_drew)); exact HO211.out) hb)
                             have n4_ := Aside0.mk (below_step (by repeat (first | (with_reducible first | exact HB.out | apply below_alloc | apply pw_below_drewN | apply below_drew1) | exact HB.out)) hb)
                             clear HO_6
                             clear HO_10
                             clear HO_12
                             clear HO211
                             clear HB
                             have HO_6 := n0_
                             have HO_10 := n1_
                             have HO_12 := n2_
                             have HO211 := n3_
                             have HB := n4_
                             clear n0_ n1_ n2_ n3_ n4_
                             (try clear hb)
                             (try clear hb2)
                             (try clear hk)
                             (try clear hi)
                             refine hK.out _ _ (by first | exact trivial | exact hHeld | exact ⟨hHeld.1, hHeld.2⟩ | exact ⟨HS0_, HS1_⟩) (fun hHeld => ?_)
                             clear hK K
                             refine norm_ (a' := ?_) ?_ ?_
                             rotate_left
                             ·show Act.put _ (some 125) _ = _
                              simp only [Act.put, List.setIfInBounds_toArray, List.set_cons_zero, List.set_cons_succ, i64_w, i32_w]
                              rfl
                             refine one_ (i := 7) (N := some 130) #[true, true, true, true, true, true, true, true, false, false, false] rfl rfl (one_of HT_.out (by kernel_rfl)) (by decide) (fun K hK => ?_)
                             have hcv82 := own_string (P := Tryz.prog) Tryz.underlying22 Tryz.underlying5 Tryz.underlying9 (Kd.own_of_R HO211.out)
                             refine value_ (w1 := ?_) (v := ?_) (by rfl) rfl ?_ ?_
                             rotate_left 2
                             ·go_simp
                              constructor
                              ·rfl
                              ·rfl
                             clear hcv82
                             refine hK.out _ _ (by first | exact trivial | exact hHeld | exact ⟨hHeld.1, hHeld.2⟩ | exact ⟨HS0_, HS1_⟩) (fun hHeld => ?_)
                             clear hK K
                             refine norm_ (a' := ?_) ?_ ?_
                             rotate_left
                             ·show Act.put _ (some 130) _ = _
                              simp only [Act.put, List.setIfInBounds_toArray, List.set_cons_zero, List.set_cons_succ, i64_w, i32_w]
                              rfl
                             exact norm_ (by simp only [putAll, Act.put, List.setIfInBounds_toArray, List.set_cons_zero, List.set_cons_succ]) (hCont (v210) _ ⟨(by (with_reducible repeat (first | apply Kd.R_alloc | apply Kd.R_drewN | apply Kd.R_drew)); exact HO211.out), (by (with_reducible repeat (first | apply Kd.R_alloc | apply Kd.R_drewN | apply Kd.R_drew)); exact HO_10.out), (by (with_reducible repeat (first | apply Kd.R_alloc | apply Kd.R_drewN | apply Kd.R_drew)); exact HO_12.out), (by (with_reducible repeat (first | apply Kd.S_alloc | apply Kd.S_drewN | apply Kd.S_drew)); exact HO_6.out), (by repeat (first | (with_reducible first | exact HB.out | apply below_alloc | apply pw_below_drewN | apply below_drew1) | exact HB.out))⟩)
                            ·skip
                             have hcv81 := own_string (P := Tryz.prog) Tryz.underlying22 Tryz.underlying5 Tryz.underlying9 (Kd.own_of_R HO211.out)
                             refine value_ (w1 := ?_) (v := ?_) (by rfl) rfl ?_ ?_
                             rotate_left 2
                             ·go_simp
                              constructor
                              ·rfl
                              ·rfl
                             clear hcv81
                             refine hK.out _ _ (by first | exact trivial | exact hHeld | exact ⟨hHeld.1, hHeld.2⟩ | exact ⟨HS0_, HS1_⟩) (fun hHeld => ?_)
                             clear hK K
                             refine norm_ (a' := ?_) ?_ ?_
                             rotate_left
                             ·show Act.put _ (some 130) _ = _
                              simp only [Act.put, List.setIfInBounds_toArray, List.set_cons_zero, List.set_cons_succ, i64_w, i32_w]
                              rfl
                             refine one_ (i := 2) (N := some 125) #[true, true, true, true, true, true, true, true, false, false, false] rfl rfl (one_of HT_.out (by kernel_rfl)) (by decide) (fun K hK => ?_)
                             refine goes_ Tryz.func26 (by kernel_rfl) rfl #[.slice (some ⟨go51, 0, none⟩) x10_4.length co51, .int .i64 (rd x12_3 x13_3)] (by rfl) rfl rfl (by (try simp only [List.map_toArray, List.map_cons, List.map_nil]); first | done | rfl | (simp only [List.length_drop, List.length_take]; rfl)) ?_
                             with_reducible refine (spec_l05Back.calls k5 _ _ x10_4 (rd x12_3 x13_3) t208 _ ?side1 ?side2 A76.out).mono ?_
                             (case side1 => repeat (first | exact (Kd.R_reads' HO_10.out).2.2 | (with_reducible refine Kd.C_alloc ?_ _) | (with_reducible refine Kd.C_drewN ?_ _) | (with_reducible refine Kd.C_drew ?_)))
                             (case side2 => exact (Kd.R_reads' HO_10.out).2.1)
                             rintro e w82 ⟨rfl, hb⟩
                             refine ⟨_, rfl, ?_⟩
                             have n0_ := Aside0.mk (Kd.S_below (by (with_reducible repeat (first | apply Kd.S_alloc | apply Kd.S_drewN | apply Kd.S_drew)); exact HO_6.out) hb)
                             have n1_ := Aside0.mk (Kd.R_below (by (with_reducible repeat (first | apply Kd.R_alloc | apply Kd.R_drewN | apply Kd.R_drew)); exact HO_10.out) hb)
                             have n2_ := Aside0.mk (Kd.R_below (by (with_reducible repeat (first | apply Kd.R_alloc | apply Kd.R_drewN | apply Kd.R_drew)); exact HO_12.out) hb)
                             have n3_ := Aside0.mk (Kd.R_below (by (with_reducible repeat (first | apply Kd.R_alloc | apply Kd.R_drewN | apply Kd.R_drew)); exact HO211.out) hb)
                             have n4_ := Aside0.mk (below_step (by repeat (first | (with_reducible first | exact HB.out | apply below_alloc | apply pw_below_drewN | apply below_drew1) | exact HB.out)) hb)
                             clear HO_6
                             clear HO_10
                             clear HO_12
                             clear HO211
                             clear HB
                             have HO_6 := n0_
                             have HO_10 := n1_
                             have HO_12 := n2_
                             have HO211 := n3_
                             have HB := n4_
                             clear n0_ n1_ n2_ n3_ n4_
                             (try clear hb)
                             (try clear hb2)
                             (try clear hk)
                             (try clear hi)
                             refine hK.out _ _ (by first | exact trivial | exact hHeld | exact ⟨hHeld.1, hHeld.2⟩ | exact ⟨HS0_, HS1_⟩) (fun hHeld => ?_)
                             clear hK K
                             refine norm_ (a' := ?_) ?_ ?_
                             rotate_left
                             ·show Act.put _ (some 125) _ = _
                              simp only [Act.put, List.setIfInBounds_toArray, List.set_cons_zero, List.set_cons_succ, i64_w, i32_w]
                              rfl
                             exact norm_ (by simp only [putAll, Act.put, List.setIfInBounds_toArray, List.set_cons_zero, List.set_cons_succ]) (hCont (v210) _ ⟨(by (with_reducible repeat (first | apply Kd.R_alloc | apply Kd.R_drewN | apply Kd.R_drew)); exact HO211.out), (by (with_reducible repeat (first | apply Kd.R_alloc | apply Kd.R_drewN | apply Kd.R_drew)); exact HO_10.out), (by (with_reducible repeat (first | apply Kd.R_alloc | apply Kd.R_drewN | apply Kd.R_drew)); exact HO_12.out), (by (with_reducible repeat (first | apply Kd.S_alloc | apply Kd.S_drewN | apply Kd.S_drew)); exact HO_6.out), (by repeat (first | (with_reducible first | exact HB.out | apply below_alloc | apply pw_below_drewN | apply below_drew1) | exact HB.out))⟩)
                          rintro v210 w83 ⟨h0_, h1_, h2_, h3_, h4_⟩
                          have n0_ : Aside0 (Kd.R (Kd.int .u8) 5 w83 w.heap.size (fun _ => True) v210 y209) := ⟨h0_⟩
                          have n1_ : Aside0 (Kd.R (Kd.int .i64) 3 w83 w.heap.size (fun k_ => some k_ ≠ (u12 : Value).ownBlock) (.slice (some ⟨go51, 0, none⟩) x10_4.length co51) x10_4) := ⟨h1_⟩
                          have n2_ : Aside0 (Kd.R (Kd.int .i64) 3 w83 w.heap.size (fun k_ => some k_ ≠ (.slice (some ⟨go51, 0, none⟩) x10_4.length co51 : Value).ownBlock) u12 x12_4) := ⟨h2_⟩
                          have n3_ : Aside0 (Kd.S (Kd.slice 3 (Kd.int .i64)) 49 w83 w.heap.size (fun k_ => some k_ ≠ (.slice (some ⟨go51, 0, none⟩) x10_4.length co51 : Value).ownBlock ∧ some k_ ≠ (u12 : Value).ownBlock) v184 x6_2) := ⟨h3_⟩
                          have n4_ : Aside0 (Below w.heap.size w w83) := ⟨h4_⟩
                          clear HO_6
                          clear HO_10
                          clear HO_12
                          clear HB
                          clear h0_ h1_ h2_ h3_ h4_
                          have HO211 := n0_
                          have HO_10 := n1_
                          have HO_12 := n2_
                          have HO_6 := n3_
                          have HB := n4_
                          clear n0_ n1_ n2_ n3_ n4_
                          have hHeld := trivial
                          refine norm_ (a' := ?_) ?_ ?_
                          rotate_left
                          ·simp only [putAll, Act.put, List.setIfInBounds_toArray, List.set_cons_zero, List.set_cons_succ]
                           rfl
                          refine pure_ (i := 8) (N := some 131) (v := ?_) (a' := ?_) #[true, true, true, true, true, true, true, true, true, false, false] rfl rfl (any_of HT_.out (by kernel_rfl)) (fun _ _ _ h => h) (Or.inl ⟨by rfl, ?_⟩) ?_ ?_
                          rotate_left
                          ·intro w'
                           go_simp
                           with_reducible rfl
                          rotate_left
                          ·simp only [Act.put, List.setIfInBounds_toArray, List.set_cons_zero, List.set_cons_succ, i64_w, i32_w]
                           rfl
                          refine pure_ (i := 9) (N := some 2) (v := ?_) (a' := ?_) #[true, true, true, true, true, true, true, true, true, true, false] rfl rfl (any_of HT_.out (by kernel_rfl)) (fun _ _ _ h => h) (Or.inl ⟨by rfl, ?_⟩) ?_ ?_
                          rotate_left
                          ·intro w'
                           go_simp
                           with_reducible rfl
                          rotate_left
                          ·simp only [Act.put, List.setIfInBounds_toArray, List.set_cons_zero, List.set_cons_succ, i64_w, i32_w]
                           rfl
                          refine pure_ (i := 10) (N := some 3) (v := ?_) (a' := ?_) #[true, true, true, true, true, true, true, true, true, true, true] rfl rfl (any_of HT_.out (by kernel_rfl)) (fun _ _ _ h => h) (Or.inl ⟨by rfl, ?_⟩) ?_ ?_
                          rotate_left
                          ·intro w'
                           go_simp
                           with_reducible rfl
                          rotate_left
                          ·simp only [Act.put, List.setIfInBounds_toArray, List.set_cons_zero, List.set_cons_succ, i64_w, i32_w]
                           rfl
                          refine done_ (done_of HT_.out (by kernel_rfl)) ?_
                          try go_wp2
                          go_ret2
                          exact ⟨by first | rfl | (simp [errW_none, errW_some] <;> rfl) | (simp only [← hji38, ← hji40, ← hji41, ← hji43, ← hji48]; first | rfl | (simp [errW_none, errW_some] <;> rfl)) | (simp [*, errW_none, errW_some] <;> rfl), by repeat (first | (with_reducible first | exact HB.out | apply below_alloc | apply pw_below_drewN | apply below_drew1) | exact HB.out)⟩
                         ·rw [if_neg c77] at H
                          exact absurd H (by simp)
                        ·rw [if_neg c75] at H
                         have c75b0 : (x16_5 == ji40) = false := beq_eq_false_iff_ne.mpr c75
                         have c75b1 : (x16_5 != ji40) = true := bne_iff_ne.mpr c75
                         by_cases c84 : 0 ≤ x16_5
                         ·rw [if_pos c84] at H
                          have c84b0 : decide (0 ≤ x16_5) = true := decide_eq_true c84
                          clear c84
                          by_cases c85 : x16_5 < (x10_4.length : Int)
                          ·rw [if_pos c85] at H
                           have c85b0 : decide (x16_5 < (x10_4.length : Int)) = true := decide_eq_true c85
                           have c85b0q := c85b0
                           (try simp only [hl10_3, hl10_4] at c85b0q)
                           clear c85
                           by_cases c86 : (rd x10_4 x16_5) = 0
                           ·rw [if_pos c86] at H
                            have c86b0 : ((rd x10_4 x16_5) == 0) = true := beq_iff_eq.mpr c86
                            have c86b1 : ((rd x10_4 x16_5) != 0) = false := bne_eq_false_iff_eq.mpr c86
                            clear c86
                            obtain ⟨y213, hy213⟩ : ∃ y_ : List Int, y_ = (x10_4.set (x16_5 : Int).toNat (wrap64 ((wrap64 (2 * (rd x12_3 x13_3))) + x15_4))) := ⟨_, rfl⟩
                            replace H : (if x12_4.length < 17592186044416 then (spec_SyncWord.l3 k5 (t180.length : Int) x6_2 ji40 y213 (x12_4 ++ [x16_5]) x13_3 (rd x12_3 x13_3) (wrap64 (x15_4 + 1))) else (none)) = some (r1, r2) := by first | (rw [hy213]; with_reducible exact H) | (have H2_ := (Option.bind_some _ _).symm.trans H; rw [hy213]; with_reducible exact H2_) | (have H2_ := (Option.bind_some _ _).symm.trans H; with_reducible exact H2_) | with_reducible exact H | (rw [hy213]; exact H) | exact H
                            have Ny213 := Aside0.mk hy213
                            clear hy213
                            by_cases c88 : x12_4.length < 17592186044416
                            ·rw [if_pos c88] at H
                             have LMc88 := Aside0.mk c88
                             clear c88
                             obtain ⟨y214, hy214⟩ : ∃ y_ : List Int, y_ = (x12_4 ++ [x16_5]) := ⟨_, rfl⟩
                             replace H : (spec_SyncWord.l3 k5 (t180.length : Int) x6_2 ji40 y213 y214 x13_3 (rd x12_3 x13_3) (wrap64 (x15_4 + 1))) = some (r1, r2) := by first | (rw [hy214]; with_reducible exact H) | (have H2_ := (Option.bind_some _ _).symm.trans H; rw [hy214]; with_reducible exact H2_) | (have H2_ := (Option.bind_some _ _).symm.trans H; with_reducible exact H2_) | with_reducible exact H | (rw [hy214]; exact H) | exact H
                             have Ny214 := Aside0.mk hy214
                             clear hy214
                             have H' := Aside0.mk H
                             clear H
                             have p212 : 0 ≤ (x16_5 : Int) := of_decide_eq_true (by first | (with_reducible assumption) | assumption)
                             have q212 : x16_5 < (x10_4.length : Int) := of_decide_eq_true (by first | (with_reducible assumption) | assumption)
                             obtain ⟨ad212, e212, hx212_0⟩ := Kd.at_int (Kd.R_reads' HO_10.out).2.2 x16_5 p212 q212
                             obtain rfl : (⟨go51, 0, none⟩ : Addr) = ad212 := (by injection e212)
                             (first | simp only [add_plain] at hx212_0 | simp only [add_at] at hx212_0 | simp only [Addr.add, Nat.zero_add] at hx212_0 | skip)
                             replace p212 := eq_true p212
                             replace q212 := eq_true q212
                             have p87 : 0 ≤ (x16_5 : Int) := of_decide_eq_true (by first | (with_reducible assumption) | assumption)
                             have q87 : (x16_5 : Int) < ((x10_4.length : Int) : Int) := of_decide_eq_true (by first | (with_reducible assumption) | assumption)
                             obtain ⟨hx87_0, hf87_0⟩ := Kd.R_celln 0 HO_10.out (x16_5 : Int) p87 q87
                             replace p87 := eq_true p87
                             replace q87 := eq_true q87
                             have HP89 := Kd.R_putg HO_10.out (x16_5 : Int) (wrap64 ((wrap64 (2 * (rd x12_3 x13_3))) + x15_4))
                             go_wp2_with (first | ((with_reducible refine gate_store (t := 3) (p := 143) rfl ?_); refine store_event (t := 3) (p := 143) (v := ?vo_w90) (w1 := (wr.setCell ⟨go51, (x16_5 : Int).toNat, none⟩ (.int .i64 (wrap64 ((wrap64 (2 * (rd x12_3 x13_3))) + x15_4))))) ?hg ?ho ?hn ?hr ?_; (case ho => rfl); (case hg => rfl); (case hn => rfl); (case hr => first | (go_simp; done) | (go_simp; rfl)); intro w90 hw; have hg : wr.grownBy w90 (some go51) := (by rw [hw]; exact HP89.2); have hp_ : Kd.R (Kd.int .i64) 3 w90 w.heap.size (fun k_ => some k_ ≠ (u12 : Value).ownBlock) (.slice (some ⟨go51, 0, none⟩) x10_4.length co51) y213 := (by rw [hw, Ny213.out]; exact HP89.1); clear HP89; have n0_ := Aside0.mk (Kd.S_after (v := (.slice (some ⟨go51, 0, none⟩) x10_4.length co51)) (v1 := (.slice (some ⟨go51, 0, none⟩) x10_4.length co51)) (ok := (fun k_ => some k_ ≠ (u12 : Value).ownBlock)) (by (with_reducible repeat (first | apply Kd.S_alloc | apply Kd.S_drewN | apply Kd.S_drew)); exact Kd.S_mono HO_6.out (fun _ hk => ⟨hk.2, hk.1⟩)) hg (.inl rfl)); have n1_ := Aside0.mk (hp_); have n2_ := Aside0.mk (Kd.R_after (v := (.slice (some ⟨go51, 0, none⟩) x10_4.length co51)) (v1 := (.slice (some ⟨go51, 0, none⟩) x10_4.length co51)) (ok := (fun _ => True)) (by (with_reducible repeat (first | apply Kd.R_alloc | apply Kd.R_drewN | apply Kd.R_drew)); exact Kd.R_mono HO_12.out (fun _ hk => ⟨trivial, hk⟩)) hg (.inl rfl)); have n3_ := Aside0.mk ((by rw [hw]; exact below_set (HB.out) GB51.out : Below w.heap.size w w90)); clear HO_6; clear HO_10; clear HO_12; clear HB; have HO_6 := n0_; have HO_10 := n1_; have HO_12 := n2_; have HB := n3_; clear n0_ n1_ n2_ n3_; clear hg hw hp_) | ((with_reducible refine gate_builtin (b := .append) (xs := #[.tmp 144, .tmp 146]) rfl ?_); (try (refine gate_guard (by rfl) ?_; dsimp only)); at_builtin; refine Kd.R_append (Kd.int .i64) (w0 := w) w.heap.size rfl (.tmp 144) (.tmp 146) 49 3 (.int .i64 0) 8 rfl Tryz.underlying49 info3 rfl (by decide) (by omega) u12 x12_4 x16_5 [.int .i64 x16_5] (fun k_ => some k_ ≠ (.slice (some ⟨go51, 0, none⟩) x10_4.length co51 : Value).ownBlock) (fun _ => False) rfl rfl ?aP (fun _ hk => hk.elim) ?aF ?aO ?aB ?aS ?aL ?_; (case aP => exact rfl); (case aB => exact (by repeat (first | (with_reducible first | exact HB.out | apply below_alloc | apply pw_below_drewN | apply below_drew1) | exact HB.out))); (case aF => exact (fun k_ hk => Kd.fresh' (Kd.R_lt (by (with_reducible repeat (first | apply Kd.R_alloc | apply Kd.R_drewN | apply Kd.R_drew)); exact HO_10.out)) k_ hk)); (case aO => exact (by (with_reducible repeat (first | apply Kd.R_alloc | apply Kd.R_drewN | apply Kd.R_drew)); exact Kd.R_mono HO_12.out (fun _ hk => hk.2))); (case aS => exact (below_size (by repeat (first | (with_reducible first | exact HB.out | apply below_alloc | apply pw_below_drewN | apply below_drew1) | exact HB.out)))); (case aL => have := LMc88.out; omega); intro v215 w91 ho hb hg hat; rw [← Ny214.out] at ho; have n0_ := Aside0.mk (Kd.S_after (ok := (fun k_ => some k_ ≠ (.slice (some ⟨go51, 0, none⟩) x10_4.length co51 : Value).ownBlock)) (by (with_reducible repeat (first | apply Kd.S_alloc | apply Kd.S_drewN | apply Kd.S_drew)); exact Kd.S_mono HO_6.out (fun _ hk => ⟨hk.2, hk.1⟩)) hg hat); have n1_ := Aside0.mk (Kd.R_after (ok := (fun _ => True)) (by (with_reducible repeat (first | apply Kd.R_alloc | apply Kd.R_drewN | apply Kd.R_drew)); exact Kd.R_mono HO_10.out (fun _ hk => ⟨trivial, hk⟩)) hg hat); have n2_ := Aside0.mk (hb); have n3_ := Aside0.mk (ho); clear HO_6; clear HO_10; clear HB; clear HO_12; have HO_6 := n0_; have HO_10 := n1_; have HB := n2_; have HO216 := n3_; clear n0_ n1_ n2_ n3_; clear ho hb hg hat))
                             (try simp only [← hl10_4])
                             go_roundg k5
                             case measure => have := HJ1.out; have := HK2.out; have := HK3.out; have := HK4.out; have := HK5.out; omega
                             case rel => exact ⟨(y213), (y214), (wrap64 (x15_4 + 1)), (by first | rfl | (simp; done) | (simp [*]; done)), H', ⟨by have := HJ1.out; have := HK2.out; have := HK3.out; have := HK4.out; have := HK5.out; omega⟩, ⟨by (try simp only [hl10_3]); (try simp only [hl10_4]); (with_reducible repeat (first | apply Kd.S_alloc | apply Kd.S_drewN | apply Kd.S_drew)); exact HO_6.out⟩, ⟨by (try simp only [hl10_3]); (try simp only [hl10_4]); (with_reducible repeat (first | apply Kd.R_alloc | apply Kd.R_drewN | apply Kd.R_drew)); exact Kd.R_mono HO_10.out (fun _ hk => hk.2)⟩, ⟨by (try simp only [hl10_3]); (try simp only [hl10_4]); (with_reducible repeat (first | apply Kd.R_alloc | apply Kd.R_drewN | apply Kd.R_drew)); exact HO216.out⟩, ⟨by repeat (first | (with_reducible first | exact HB.out | apply below_alloc | apply pw_below_drewN | apply below_drew1) | exact HB.out)⟩⟩
                            ·rw [if_neg c88] at H
                             exact absurd H (by simp)
                           ·rw [if_neg c86] at H
                            have c86b0 : ((rd x10_4 x16_5) == 0) = false := beq_eq_false_iff_ne.mpr c86
                            have c86b1 : ((rd x10_4 x16_5) != 0) = true := bne_iff_ne.mpr c86
                            have H' := Aside0.mk H
                            clear H
                            have p212 : 0 ≤ (x16_5 : Int) := of_decide_eq_true (by first | (with_reducible assumption) | assumption)
                            have q212 : x16_5 < (x10_4.length : Int) := of_decide_eq_true (by first | (with_reducible assumption) | assumption)
                            obtain ⟨ad212, e212, hx212_0⟩ := Kd.at_int (Kd.R_reads' HO_10.out).2.2 x16_5 p212 q212
                            obtain rfl : (⟨go51, 0, none⟩ : Addr) = ad212 := (by injection e212)
                            (first | simp only [add_plain] at hx212_0 | simp only [add_at] at hx212_0 | simp only [Addr.add, Nat.zero_add] at hx212_0 | skip)
                            replace p212 := eq_true p212
                            replace q212 := eq_true q212
                            go_wp2
                            (try simp only [← hl10_4])
                            go_roundg k5
                            case measure => have := HJ1.out; have := HK2.out; have := HK3.out; have := HK4.out; have := HK5.out; omega
                            case rel => exact ⟨(x10_4), (x12_4), (wrap64 (x15_4 + 1)), (by first | rfl | (simp; done) | (simp [*]; done)), H', ⟨by have := HJ1.out; have := HK2.out; have := HK3.out; have := HK4.out; have := HK5.out; omega⟩, ⟨by (try simp only [hl10_3]); (try simp only [hl10_4]); (with_reducible repeat (first | apply Kd.S_alloc | apply Kd.S_drewN | apply Kd.S_drew)); exact HO_6.out⟩, ⟨by (try simp only [hl10_3]); (try simp only [hl10_4]); (with_reducible repeat (first | apply Kd.R_alloc | apply Kd.R_drewN | apply Kd.R_drew)); exact HO_10.out⟩, ⟨by (try simp only [hl10_3]); (try simp only [hl10_4]); (with_reducible repeat (first | apply Kd.R_alloc | apply Kd.R_drewN | apply Kd.R_drew)); exact HO_12.out⟩, ⟨by repeat (first | (with_reducible first | exact HB.out | apply below_alloc | apply pw_below_drewN | apply below_drew1) | exact HB.out)⟩⟩
                          ·rw [if_neg c85] at H
                           exact absurd H (by simp)
                         ·rw [if_neg c84] at H
                          exact absurd H (by simp)
                    ·rw [if_neg c61] at H
                     have c61b0 : decide (x15_4 < 2) = false := decide_eq_false c61
                     clear c61
                     have H' := Aside0.mk H
                     clear H
                     go_wp2
                     (try simp only [← hl10_3, ← hl10_4])
                     go_roundg k4
                     case measure => have := HJ1.out; have := HK2.out; have := HK3.out; have := HK4.out; omega
                     case rel => exact ⟨(x10_4), (x12_4), (wrap64 (x13_3 + 1)), (by first | rfl | (simp; done) | (simp [*]; done)), H', ⟨by have := HJ1.out; have := HK2.out; have := HK3.out; have := HK4.out; omega⟩, ⟨by (try simp only [hl10_3]); (try simp only [hl10_4]); (with_reducible repeat (first | apply Kd.S_alloc | apply Kd.S_drewN | apply Kd.S_drew)); exact HO_6.out⟩, ⟨by (try simp only [hl10_3]); (try simp only [hl10_4]); (with_reducible repeat (first | apply Kd.R_alloc | apply Kd.R_drewN | apply Kd.R_drew)); exact HO_10.out⟩, ⟨by (try simp only [hl10_3]); (try simp only [hl10_4]); (with_reducible repeat (first | apply Kd.R_alloc | apply Kd.R_drewN | apply Kd.R_drew)); exact HO_12.out⟩, ⟨by repeat (first | (with_reducible first | exact HB.out | apply below_alloc | apply pw_below_drewN | apply below_drew1) | exact HB.out)⟩⟩
                 ·rw [if_neg c59] at H
                  exact absurd H (by simp)
                ·rw [if_neg c58] at H
                 have c58b0 : decide (x13_3 < (x12_3.length : Int)) = false := decide_eq_false c58
                 clear c58
                 simp only [Option.some.injEq, Prod.mk.injEq] at H
                 obtain ⟨rfl, rfl⟩ := H
                 obtain ⟨Ao92, co92, eo92⟩ := Kd.R_slice HO_12.out
                 subst eo92
                 go_wp2
                 go_ret2
                 exact ⟨by first | rfl | (simp [errW_none, errW_some] <;> rfl) | (simp only [← hji38, ← hji40, ← hji41, ← hji43, ← hji48]; first | rfl | (simp [errW_none, errW_some] <;> rfl)) | (simp [*, errW_none, errW_some] <;> rfl), by repeat (first | (with_reducible first | exact HB.out | apply below_alloc | apply pw_below_drewN | apply below_drew1) | exact HB.out)⟩
             ·rw [if_neg c50] at H
              exact absurd H (by simp)
            ·rw [if_neg c49] at H
             exact absurd H (by simp)
           ·rw [if_neg c45] at H
            exact absurd H (by simp)
          ·rw [if_neg c44] at H
           exact absurd H (by simp)
         ·rw [if_neg c42] at H
          exact absurd H (by simp)
        ·rw [if_neg c39] at H
         exact absurd H (by simp)
    ·rw [if_neg c12] at H
     exact absurd H (by simp)
end Go.Proofs.YtabppnjmdlaohaaGreatDoor.QFnSynchronised
