/- Made small by wip/pack.py: lemmas and contracts that the law's row leans on. -/
import Derived.Test.YtdaeioklcilipaaGreatDoorZFnConsole27
import Derived.Test.YtdaeioklcilipaaGreatDoorZFnConsole32
import Derived.Test.YtdaeioklcilipaaGreatDoorZFnConsole33
import Derived.Test.YtdaeioklcilipaaGreatDoorZFnConsole34
namespace Go.Proofs.YtdaeioklcilipaaGreatDoor.QFnConsole
open Go.RowKit Go.Proofs.YtdaeioklcilipaaGreatDoorW.PrintWords Go.Proofs.YtdaeioklcilipaaGreatDoorW.PrintLast Go.Proofs.YtdaeioklcilipaaGreatDoorW.PrintMore
attribute [local go_sem] max2_int min2_int max_two min_two max_three min_three max_four min_four
set_option linter.unusedVariables false
set_option linter.unusedSimpArgs false
mutual
def impl_MakeBlockCode.j0 : Nat → Int → Int → Bool → Option (Int × Int × List ByteArray × List ByteArray × Bool)
 | 0, _, _, _ => none
 | k + 1, x0, x1, x19 => if x19 = true then (some (0, 0, ([] : List ByteArray), ([] : List ByteArray), false)) else (if 0 ≤ x0 then ((impl_wordsOf.f k x1 0).bind fun t322 => (if 0 ≤ (mn (t322.length : Int) (shl .i64 1 x0)) then (if (mn (t322.length : Int) (shl .i64 1 x0)) ≤ (t322.length : Int) then ((some (t322.take ((mn (t322.length : Int) (shl .i64 1 x0)) : Int).toNat : List ByteArray)).bind fun y325 => ((impl_wordsOf.f k x1 2).bind fun t328 => (if (wrap64 ((y325.length : Int) + (t328.length : Int))) < (shl .i64 1 x0) then (some (0, 0, ([] : List ByteArray), ([] : List ByteArray), false)) else ((slices_Clone_string_string.f y325).bind fun t331 => ((slices_Clone_string_string.f y325).bind fun t334 => (if 0 ≤ (wrap64 ((shl .i64 1 x0) - (y325.length : Int))) then (if (wrap64 ((shl .i64 1 x0) - (y325.length : Int))) ≤ (t328.length : Int) then ((some (t328.take ((wrap64 ((shl .i64 1 x0) - (y325.length : Int))) : Int).toNat : List ByteArray)).bind fun y338 => (impl_MakeBlockCode.l0 k y338 (y338.length : Int) 0 x0 x1 t331 t334)) else (none)) else (none))))))) else (none)) else (none))) else (none))
def impl_MakeBlockCode.l0 : Nat → List ByteArray → Int → Int → Int → Int → List ByteArray → List ByteArray → Option (Int × Int × List ByteArray × List ByteArray × Bool)
 | 0, _, _, _, _, _, _, _ => none
 | k + 1, x53, x54, x55, x338000, x338001, x338002, x338003 => if x55 < x54 then (if 0 ≤ x55 then (if x55 < (x53.length : Int) then (if x338002.length < 8796093022208 then ((impl_opposite.f k (rdOf ByteArray.empty x53 x55)).bind fun t346 => (if x338003.length < 8796093022208 then (impl_MakeBlockCode.l0 k x53 x54 (wrap64 (x55 + 1)) x338000 x338001 (x338002 ++ [rdOf ByteArray.empty x53 x55]) (x338003 ++ [t346])) else (none))) else (none)) else (none)) else (none)) else (some (x338000, x338001, x338002, x338003, true))
end
def impl_MakeBlockCode.f (k : Nat) (a0 : Int) (a1 : Int) : Option (Int × Int × List ByteArray × List ByteArray × Bool) := (impl_isData.f a0).bind fun t320 => (if t320 = true then ((impl_isWidth.f a1).bind fun t321 => (impl_MakeBlockCode.j0 k a0 a1 (!t321))) else (impl_MakeBlockCode.j0 k a0 a1 true))
def impl_MakeBlockCode.T14 : Bool × List (List Nat × List Nat) := (true, [([], []), ([0], [0]), ([], []), ([2], [2]), ([3], [3]), ([1, 4, 3], [1, 4]), ([0, 1, 2, 3, 4, 5], []), ([6, 5, 5, 0, 1, 2, 3, 4, 5], [5, 6])])
def impl_MakeBlockCode.B14 : List Nat := [0, 1, 0, 4, 12, 31, 63, 127]
theorem impl_MakeBlockCode.tab14 : rtab .any (opsOf Tryz.f60 14) = impl_MakeBlockCode.T14 := by kernel_rfl
theorem impl_MakeBlockCode.bits14 : waitsOk impl_MakeBlockCode.T14.2 impl_MakeBlockCode.B14 = true := by kernel_rfl
set_option maxHeartbeats 8000000 in
set_option maxRecDepth 100000 in
theorem impl_MakeBlockCode.calls (k : Nat) (a0 : Int) (a1 : Int) (r1 : Int) (r2 : Int) (r3 : List ByteArray) (r4 : List ByteArray) (r5 : Bool) (w : World) (h : impl_MakeBlockCode.f k a0 a1 = some (r1, r2, r3, r4, r5)) :
 Calls Tryz.prog 60 #[.int .i64 a0, .int .i64 a1] w fun e w' => ∃ v2_ v3_ : Value, e = .returned (.tuple #[.agg #[.int .i64 r1, .int .i64 r2, v2_, v3_], .bool r5]) ∧ Kd.R Kd.string 9 w' w.heap.size (fun k_ => some k_ ≠ (v3_ : Value).ownBlock) v2_ r3 ∧ Kd.R Kd.string 9 w' w.heap.size (fun k_ => some k_ ≠ (v2_ : Value).ownBlock) v3_ r4 ∧ Below w.heap.size w w' := by
 have hu98 := Tryz.underlying98
 have HB := Aside0.mk (Below.refl w.heap.size w)
 have H : ((impl_isData.f a0).bind fun t320 => (if t320 = true then ((impl_isWidth.f a1).bind fun t321 => (impl_MakeBlockCode.j0 k a0 a1 (!t321))) else (impl_MakeBlockCode.j0 k a0 a1 true))) = some (r1, r2, r3, r4, r5) := h
 clear h
 have HC3 := Aside0.mk H
 clear H
 go_enter Tryz.func60, Tryz.ntmps60
 go_upto_region 1 with (first | ((with_reducible refine gate_dst (N := 4) rfl ?_); refine box_event ?hg (N := 4) ?hd (cs := #[.int .i64 0, .int .i64 0, .slice none 0 0, .slice none 0 0]) (t := 98) ?hr ?_; (case hd => rfl); (case hg => rfl); (case hr => exact Qj0_); intro gb319 hg w4 hbox hb; have n0_ := Aside0.mk (below_step Qa0_ hb); have n1_ := Aside0.mk (hbox); have n2_ := Aside0.mk ((by rw [hg]; exact (below_size Qa0_) : w.heap.size ≤ gb319)); have n3_ := Aside0.mk ((by rw [hg]; exact (below_size Qa0_) : w.heap.size ≤ gb319)); clear HB; have HB := n0_; have BK319 := n1_; have GW319 := n2_; have GE319 := n3_; clear n0_ n1_ n2_ n3_; clear hb hbox hg))
 (try simp only [Act.put, List.setIfInBounds_toArray, List.set_cons_zero, List.set_cons_succ])
 go_cut [19] (fun v19 wc => ∃ (kq : Nat) (x19_2 : Bool), v19 = .bool x19_2 ∧ Aside0 (impl_MakeBlockCode.j0 kq a0 a1 x19_2 = some (r1, r2, r3, r4, r5)) ∧ Aside0 (kq ≤ k) ∧ Aside0 (wc.heap[gb319]? = some (.cells #[.int .i64 0, .int .i64 0, (.slice none 0 0), (.slice none 0 0)] 98 (0, 0))) ∧ Aside0 (Below w.heap.size w wc))
 case first =>
  have H := HC3.out
  clear HC3
  replace H := Option.bind_eq_some_iff.mp H
  obtain ⟨t320, A50, H⟩ := H
  try dsimp only at H
  have A5 := Aside0.mk A50
  clear A50
  by_cases c6 : t320 = true
  ·subst c6
   rw [if_pos rfl] at H
   have H1 := H
   clear H
   have H := H1
   clear H1
   replace H := Option.bind_eq_some_iff.mp H
   obtain ⟨t321, A70, H⟩ := H
   try dsimp only at H
   have A7 := Aside0.mk A70
   clear A70
   have H' := Aside0.mk H
   clear H
   go_wp2_with (first | ((with_reducible refine gate_callee (f := 93) rfl ?_); refine goesL_ (some 13) rfl rfl Tryz.func93 Ql0_ rfl #[.int .i64 a0] rfl Qb0_ ?_; (with_reducible refine (impl_isData.calls a0 true _ A5.out).mono ?_); rintro e w' ⟨rfl, ⟨nd, rfl⟩⟩; refine ⟨_, rfl, ?_⟩) | (go_at_call 94; (with_reducible refine (impl_isWidth.calls a1 t321 _ A7.out).mono ?_); rintro e w' ⟨rfl, ⟨nd, rfl⟩⟩))
   go_meet
   case rel => exact ⟨_, (!t321), Qf0_, H', ⟨Qx0_⟩, ⟨Qk_ BK319.out⟩, ⟨Qg_ GE319.out⟩⟩
  ·replace c6 := Bool.eq_false_iff.mpr c6
   subst c6
   rw [if_neg (show ¬ (false = true) by decide)] at H
   have H1 := H
   clear H
   have H := H1
   clear H1
   have H' := Aside0.mk H
   clear H
   go_wp2_with (first | ((with_reducible refine gate_callee (f := 93) rfl ?_); refine goesL_ (some 13) rfl rfl Tryz.func93 Ql0_ rfl #[.int .i64 a0] rfl Qb0_ ?_; (with_reducible refine (impl_isData.calls a0 false _ A5.out).mono ?_); rintro e w' ⟨rfl, ⟨nd, rfl⟩⟩; refine ⟨_, rfl, ?_⟩))
   go_meet
   case rel => exact ⟨_, (true), Qf0_, H', ⟨Qx0_⟩, ⟨Qk_ BK319.out⟩, ⟨Qg_ GE319.out⟩⟩
 case rest =>
  clear HC3
  try clear p2
  try clear c6
  obtain ⟨kq, x19_2, rfl, HA, HJ2, BK319, HB⟩ := hcut
  cases kq with
  | zero => exact absurd HA.out (by simp [impl_MakeBlockCode.j0])
  | succ kj2 =>
   have H := HA.out
   clear HA
   simp only [impl_MakeBlockCode.j0] at H
   by_cases c8 : x19_2 = true
   ·subst c8
    rw [if_pos rfl] at H
    have H1 := H
    clear H
    have H := H1
    clear H1
    simp only [Option.some.injEq, Prod.mk.injEq] at H
    obtain ⟨rfl, rfl, rfl, rfl, rfl⟩ := H
    have hcz9_0 : wc.cell? ⟨gb319, 0, none⟩ = some (.int .i64 0) := (blk_cell BK319.out 0).trans rfl
    have hcz9_1 : wc.cell? ⟨gb319, 1, none⟩ = some (.int .i64 0) := (blk_cell BK319.out 1).trans rfl
    have hcz9_2 : wc.cell? ⟨gb319, 2, none⟩ = some (.slice none 0 0) := (blk_cell BK319.out 2).trans rfl
    have hcz9_3 : wc.cell? ⟨gb319, 3, none⟩ = some (.slice none 0 0) := (blk_cell BK319.out 3).trans rfl
    have hfz9_0 := blk_frozen BK319.out 0
    have hfz9_1 := blk_frozen BK319.out 1
    have hfz9_2 := blk_frozen BK319.out 2
    have hfz9_3 := blk_frozen BK319.out 3
    go_wp2
    refine bodyPost_ret (results_ct rfl _ _ gb319 98 #[.int .i64 0, .int .i64 0, .slice none 0 0, .slice none 0 0] (0, 0) _ rfl Qt0_ Tryz.underlying98 rfl Ql0_) rfl ?_
    exact ⟨_, _, Qh0_, Qw0_, Qw0_, Qg_ GE319.out⟩
   ·replace c8 := Bool.eq_false_iff.mpr c8
    subst c8
    rw [if_neg (show ¬ (false = true) by decide)] at H
    have H1 := H
    clear H
    have H := H1
    clear H1
    by_cases c10 : 0 ≤ a0
    ·rw [if_pos c10] at H
     have c10b0 := eq_true c10
     have c10b1 := decide_eq_true c10
     clear c10
     obtain ⟨ji11, hji11⟩ : ∃ j_ : Int, (shl .i64 1 a0) = j_ := ⟨_, rfl⟩
     replace H : ((impl_wordsOf.f kj2 a1 0).bind fun t322 => (if 0 ≤ (mn (t322.length : Int) (ji11)) then (if (mn (t322.length : Int) (ji11)) ≤ (t322.length : Int) then ((some (t322.take ((mn (t322.length : Int) (ji11)) : Int).toNat : List ByteArray)).bind fun y325 => ((impl_wordsOf.f kj2 a1 2).bind fun t328 => (if (wrap64 ((y325.length : Int) + (t328.length : Int))) < (ji11) then (some (0, 0, ([] : List ByteArray), ([] : List ByteArray), false)) else ((slices_Clone_string_string.f y325).bind fun t331 => ((slices_Clone_string_string.f y325).bind fun t334 => (if 0 ≤ (wrap64 ((ji11) - (y325.length : Int))) then (if (wrap64 ((ji11) - (y325.length : Int))) ≤ (t328.length : Int) then ((some (t328.take ((wrap64 ((ji11) - (y325.length : Int))) : Int).toNat : List ByteArray)).bind fun y338 => (impl_MakeBlockCode.l0 kj2 y338 (y338.length : Int) 0 a0 a1 t331 t334)) else (none)) else (none))))))) else (none)) else (none))) = some (r1, r2, r3, r4, r5) := by first | (rw [hji11] at H; exact H) | (simp only [hji11] at H ⊢; exact H)
     have hji11_ : (IntKind.i64.wrap (1 * 2 ^ min a0.toNat 64)) = ji11 := hji11
     have hji11z : a0 ≤ 64 → (IntKind.i64.wrap (1 * 2 ^ a0.toNat)) = ji11 := shl_small hji11
     have hji11u : (IntKind.i64.wrap (2 ^ min a0.toNat 64)) = ji11 := by have h_ := hji11_; rw [Int.one_mul] at h_; exact h_
     have hji11v : a0 ≤ 64 → (IntKind.i64.wrap (2 ^ a0.toNat)) = ji11 := fun hle_ => by have h_ := hji11z hle_; rw [Int.one_mul] at h_; exact h_
     have hji11y : (wrap64 (1 * 2 ^ min a0.toNat 64)) = ji11 := (i64_w _).symm.trans hji11_
     have hji11x : a0 ≤ 64 → (wrap64 (1 * 2 ^ a0.toNat)) = ji11 := fun h_ => (i64_w _).symm.trans (hji11z h_)
     replace H := Option.bind_eq_some_iff.mp H
     obtain ⟨t322, A120, H⟩ := H
     try dsimp only at H
     have A12 := Aside0.mk A120
     clear A120
     obtain ⟨ji13, hji13⟩ : ∃ j_ : Int, (mn (t322.length : Int) (ji11)) = j_ := ⟨_, rfl⟩
     replace H : (if 0 ≤ (ji13) then (if (ji13) ≤ (t322.length : Int) then ((some (t322.take ((ji13) : Int).toNat : List ByteArray)).bind fun y325 => ((impl_wordsOf.f kj2 a1 2).bind fun t328 => (if (wrap64 ((y325.length : Int) + (t328.length : Int))) < (ji11) then (some (0, 0, ([] : List ByteArray), ([] : List ByteArray), false)) else ((slices_Clone_string_string.f y325).bind fun t331 => ((slices_Clone_string_string.f y325).bind fun t334 => (if 0 ≤ (wrap64 ((ji11) - (y325.length : Int))) then (if (wrap64 ((ji11) - (y325.length : Int))) ≤ (t328.length : Int) then ((some (t328.take ((wrap64 ((ji11) - (y325.length : Int))) : Int).toNat : List ByteArray)).bind fun y338 => (impl_MakeBlockCode.l0 kj2 y338 (y338.length : Int) 0 a0 a1 t331 t334)) else (none)) else (none))))))) else (none)) else (none)) = some (r1, r2, r3, r4, r5) := by first | (rw [hji13] at H; exact H) | (simp only [hji13] at H ⊢; exact H)
     (try rw [hji13] at A12)
     have hji13_ : (if (ji11) < (t322.length : Int) then (ji11) else (t322.length : Int)) = ji13 := hji13
     by_cases c14 : 0 ≤ (ji13)
     ·rw [if_pos c14] at H
      have c14b0 := eq_true c14
      have c14b1 := decide_eq_true c14
      clear c14
      by_cases c15 : (ji13) ≤ (t322.length : Int)
      ·rw [if_pos c15] at H
       have c15b0 := eq_true c15
       have c15b1 := decide_eq_true c15
       clear c15
       obtain ⟨y325, hy325⟩ : ∃ y_ : List ByteArray, y_ = (t322.take ((ji13) : Int).toNat) := ⟨_, rfl⟩
       replace H : ((impl_wordsOf.f kj2 a1 2).bind fun t328 => (if (wrap64 ((y325.length : Int) + (t328.length : Int))) < (ji11) then (some (0, 0, ([] : List ByteArray), ([] : List ByteArray), false)) else ((slices_Clone_string_string.f y325).bind fun t331 => ((slices_Clone_string_string.f y325).bind fun t334 => (if 0 ≤ (wrap64 ((ji11) - (y325.length : Int))) then (if (wrap64 ((ji11) - (y325.length : Int))) ≤ (t328.length : Int) then ((some (t328.take ((wrap64 ((ji11) - (y325.length : Int))) : Int).toNat : List ByteArray)).bind fun y338 => (impl_MakeBlockCode.l0 kj2 y338 (y338.length : Int) 0 a0 a1 t331 t334)) else (none)) else (none)))))) = some (r1, r2, r3, r4, r5) := by first | (rw [hy325]; with_reducible exact H) | (have H2_ := (Option.bind_some _ _).symm.trans H; rw [hy325]; with_reducible exact H2_) | (have H2_ := (Option.bind_some _ _).symm.trans H; with_reducible exact H2_) | with_reducible exact H | (rw [hy325]; exact H) | exact H
       have Ny325 := Aside0.mk hy325
       clear hy325
       replace H := Option.bind_eq_some_iff.mp H
       obtain ⟨t328, A160, H⟩ := H
       try dsimp only at H
       have A16 := Aside0.mk A160
       clear A160
       by_cases c17 : (wrap64 ((y325.length : Int) + (t328.length : Int))) < (ji11)
       ·rw [if_pos c17] at H
        have c17b0 := decide_eq_true c17
        clear c17
        simp only [Option.some.injEq, Prod.mk.injEq] at H
        obtain ⟨rfl, rfl, rfl, rfl, rfl⟩ := H
        go_wp2_with (first | ((with_reducible refine gate_callee (f := 95) rfl ?_); refine goesL_ (some 24) rfl rfl Tryz.func95 Ql0_ rfl #[.int .i64 a1, .int .i64 0] rfl Qb0_ ?_; (with_reducible refine (impl_wordsOf.calls kj2 a1 0 t322 _ A12.out).mono ?_); rintro e w18 ⟨v323, rfl, ho0, hb⟩; refine ⟨_, rfl, ?_⟩; have n0_ := Aside0.mk (Kd.R_lower ho0 (below_size (Qg_ GE319.out))); have n1_ := Aside0.mk (blk_below (g := gb319) (o := .cells #[.int .i64 0, .int .i64 0, .slice none 0 0, .slice none 0 0] 98 (0, 0)) (Qk_ BK319.out) hb); have n2_ := Aside0.mk (below_step (Qg_ GE319.out) hb); clear BK319; clear HB; have HO324 := n0_; have BK319 := n1_; have HB := n2_; clear n0_ n1_ n2_; (try clear hb); (try clear hb2); (try clear hk); (try clear hi); (try clear ho0); obtain ⟨Ao19, co19, eo19⟩ := Kd.R_slice HO324.out; subst eo19; have q20 : ((ji13) : Int) ≤ ((t322.length : Int) : Int) := of_decide_eq_true Qg0_; obtain ⟨i020, hi020, _, hsz20, _⟩ := info_parts info9; have hcut20 := cut_to (P := Tryz.prog) 24 9 .i64 Tryz.underlying24 hi020 Ao19 t322.length co19 (ji13) (of_decide_eq_true Qg0_) q20 (Kd.R_reads' HO324.out).2.1; have hr20 := Kd.R_take (m := ((ji13) : Int).toNat) HO324.out (by omega); have hy20 : y325.length = ((ji13) : Int).toNat := (by rw [Ny325.out, List.length_take]; omega); rw [← Ny325.out] at hr20; rw [← hy20] at hr20 hcut20; clear hy20 hi020 hsz20 HO324; have HO327 := Aside0.mk hr20; clear hr20; replace q20 := eq_true q20) | ((with_reducible refine gate_callee (f := 95) rfl ?_); refine goesL_ (some 32) rfl rfl Tryz.func95 Ql0_ rfl #[.int .i64 a1, .int .i64 2] rfl Qb0_ ?_; (with_reducible refine (impl_wordsOf.calls kj2 a1 2 t328 _ A16.out).mono ?_); rintro e w21 ⟨v329, rfl, ho0, hb⟩; refine ⟨_, rfl, ?_⟩; have n0_ := Aside0.mk (Kd.R_elder' (Qr_ HO327.out) (Kd.R_base ho0) hb); have n1_ := Aside0.mk (Kd.R_lower (Kd.R_new' ho0 (Kd.R_lt (Qr_ HO327.out))) (below_size (Qg_ GE319.out))); have n2_ := Aside0.mk (blk_below (g := gb319) (o := .cells #[.int .i64 0, .int .i64 0, .slice none 0 0, .slice none 0 0] 98 (0, 0)) (Qk_ BK319.out) hb); have n3_ := Aside0.mk (below_step (Qg_ GE319.out) hb); clear HO327; clear BK319; clear HB; have HO327 := n0_; have HO330 := n1_; have BK319 := n2_; have HB := n3_; clear n0_ n1_ n2_ n3_; (try clear hb); (try clear hb2); (try clear hk); (try clear hi); (try clear ho0); obtain ⟨Ao22, co22, eo22⟩ := Kd.R_slice HO330.out; subst eo22; have hcz23_0 : w21.cell? ⟨gb319, 0, none⟩ = some (.int .i64 0) := (blk_cell BK319.out 0).trans rfl; have hcz23_1 : w21.cell? ⟨gb319, 1, none⟩ = some (.int .i64 0) := (blk_cell BK319.out 1).trans rfl; have hcz23_2 : w21.cell? ⟨gb319, 2, none⟩ = some (.slice none 0 0) := (blk_cell BK319.out 2).trans rfl; have hcz23_3 : w21.cell? ⟨gb319, 3, none⟩ = some (.slice none 0 0) := (blk_cell BK319.out 3).trans rfl; have hfz23_0 := blk_frozen BK319.out 0; have hfz23_1 := blk_frozen BK319.out 1; have hfz23_2 := blk_frozen BK319.out 2; have hfz23_3 := blk_frozen BK319.out 3))
        refine bodyPost_ret (results_ct rfl _ _ gb319 98 #[.int .i64 0, .int .i64 0, .slice none 0 0, .slice none 0 0] (0, 0) _ rfl Qt0_ Tryz.underlying98 rfl Ql0_) rfl ?_
        exact ⟨_, _, by first | rfl | (simp [errW_none, errW_some] <;> rfl) | (simp only [← hji11, ← hji13]; first | rfl | (simp [errW_none, errW_some] <;> rfl)) | (simp [*, errW_none, errW_some] <;> rfl), Qw0_, Qw0_, Qg_ GE319.out⟩
       ·rw [if_neg c17] at H
        have c17b0 := decide_eq_false c17
        clear c17
        replace H := Option.bind_eq_some_iff.mp H
        obtain ⟨t331, A240, H⟩ := H
        try dsimp only at H
        have A24 := Aside0.mk A240
        clear A240
        replace H := Option.bind_eq_some_iff.mp H
        obtain ⟨t334, A250, H⟩ := H
        try dsimp only at H
        have A25 := Aside0.mk A250
        clear A250
        obtain ⟨ji26, hji26⟩ : ∃ j_ : Int, (wrap64 ((ji11) - (y325.length : Int))) = j_ := ⟨_, rfl⟩
        replace H : (if 0 ≤ (ji26) then (if (ji26) ≤ (t328.length : Int) then ((some (t328.take ((ji26) : Int).toNat : List ByteArray)).bind fun y338 => (impl_MakeBlockCode.l0 kj2 y338 (y338.length : Int) 0 a0 a1 t331 t334)) else (none)) else (none)) = some (r1, r2, r3, r4, r5) := by first | (rw [hji26] at H; exact H) | (simp only [hji26] at H ⊢; exact H)
        (try rw [hji26] at A12)
        (try rw [hji26] at A16)
        (try rw [hji26] at A24)
        (try rw [hji26] at A25)
        have hji26w : (IntKind.i64.wrap ((ji11) - (y325.length : Int))) = ji26 := (i64_w _).trans hji26
        (try rw [hji26])
        by_cases c27 : 0 ≤ (ji26)
        ·rw [if_pos c27] at H
         have c27b0 := eq_true c27
         have c27b1 := decide_eq_true c27
         clear c27
         by_cases c28 : (ji26) ≤ (t328.length : Int)
         ·rw [if_pos c28] at H
          have c28b0 := eq_true c28
          have c28b1 := decide_eq_true c28
          clear c28
          obtain ⟨y338, hy338⟩ : ∃ y_ : List ByteArray, y_ = (t328.take ((ji26) : Int).toNat) := ⟨_, rfl⟩
          replace H : (impl_MakeBlockCode.l0 kj2 y338 (y338.length : Int) 0 a0 a1 t331 t334) = some (r1, r2, r3, r4, r5) := by first | (rw [hy338]; with_reducible exact H) | (have H2_ := (Option.bind_some _ _).symm.trans H; rw [hy338]; with_reducible exact H2_) | (have H2_ := (Option.bind_some _ _).symm.trans H; with_reducible exact H2_) | with_reducible exact H | (rw [hy338]; exact H) | exact H
          have Ny338 := Aside0.mk hy338
          clear hy338
          have H' := Aside0.mk H
          clear H
          go_wp2_with (first | ((with_reducible refine gate_callee (f := 95) rfl ?_); refine goesL_ (some 24) rfl rfl Tryz.func95 Ql0_ rfl #[.int .i64 a1, .int .i64 0] rfl Qb0_ ?_; (with_reducible refine (impl_wordsOf.calls kj2 a1 0 t322 _ A12.out).mono ?_); rintro e w29 ⟨v323, rfl, ho0, hb⟩; refine ⟨_, rfl, ?_⟩; have n0_ := Aside0.mk (Kd.R_lower ho0 (below_size (Qg_ GE319.out))); have n1_ := Aside0.mk (blk_below (g := gb319) (o := .cells #[.int .i64 0, .int .i64 0, .slice none 0 0, .slice none 0 0] 98 (0, 0)) (Qk_ BK319.out) hb); have n2_ := Aside0.mk (below_step (Qg_ GE319.out) hb); clear BK319; clear HB; have HO324 := n0_; have BK319 := n1_; have HB := n2_; clear n0_ n1_ n2_; (try clear hb); (try clear hb2); (try clear hk); (try clear hi); (try clear ho0); obtain ⟨Ao30, co30, eo30⟩ := Kd.R_slice HO324.out; subst eo30; have q31 : ((ji13) : Int) ≤ ((t322.length : Int) : Int) := of_decide_eq_true Qg0_; obtain ⟨i031, hi031, _, hsz31, _⟩ := info_parts info9; have hcut31 := cut_to (P := Tryz.prog) 24 9 .i64 Tryz.underlying24 hi031 Ao30 t322.length co30 (ji13) (of_decide_eq_true Qg0_) q31 (Kd.R_reads' HO324.out).2.1; have hr31 := Kd.R_take (m := ((ji13) : Int).toNat) HO324.out (by omega); have hy31 : y325.length = ((ji13) : Int).toNat := (by rw [Ny325.out, List.length_take]; omega); rw [← Ny325.out] at hr31; rw [← hy31] at hr31 hcut31; clear hy31 hi031 hsz31 HO324; have HO327 := Aside0.mk hr31; clear hr31; replace q31 := eq_true q31) | ((with_reducible refine gate_callee (f := 95) rfl ?_); refine goesL_ (some 32) rfl rfl Tryz.func95 Ql0_ rfl #[.int .i64 a1, .int .i64 2] rfl Qb0_ ?_; (with_reducible refine (impl_wordsOf.calls kj2 a1 2 t328 _ A16.out).mono ?_); rintro e w32 ⟨v329, rfl, ho0, hb⟩; refine ⟨_, rfl, ?_⟩; have n0_ := Aside0.mk (Kd.R_elder' (Qr_ HO327.out) (Kd.R_base ho0) hb); have n1_ := Aside0.mk (Kd.R_lower (Kd.R_new' ho0 (Kd.R_lt (Qr_ HO327.out))) (below_size (Qg_ GE319.out))); have n2_ := Aside0.mk (blk_below (g := gb319) (o := .cells #[.int .i64 0, .int .i64 0, .slice none 0 0, .slice none 0 0] 98 (0, 0)) (Qk_ BK319.out) hb); have n3_ := Aside0.mk (below_step (Qg_ GE319.out) hb); clear HO327; clear BK319; clear HB; have HO327 := n0_; have HO330 := n1_; have BK319 := n2_; have HB := n3_; clear n0_ n1_ n2_ n3_; (try clear hb); (try clear hb2); (try clear hk); (try clear hi); (try clear ho0); obtain ⟨Ao33, co33, eo33⟩ := Kd.R_slice HO330.out; subst eo33) | ((with_reducible refine gate_callee (f := 33) rfl ?_); refine goesL_ (some 44) rfl rfl Tryz.func33 Ql0_ rfl #[.slice Ao30 y325.length co30] rfl Qb0_ ?_; (with_reducible refine (slices_Clone_string_string.calls _ _ y325 t331 _ ?side1 ?side2 A24.out).mono ?_); (case side1 => exact Qc_ (Kd.R_reads' HO327.out).2.2); (case side2 => exact (Kd.R_reads' HO327.out).2.1); rintro e w34 ⟨v332, rfl, ho0, hb⟩; refine ⟨_, rfl, ?_⟩; have n0_ := Aside0.mk (Kd.R_elder' (Qr_ HO327.out) (Kd.R_base ho0) hb); have n1_ := Aside0.mk (Kd.R_elder' (Qr_ HO330.out) (Kd.R_base ho0) hb); have n2_ := Aside0.mk (Kd.R_lower (Kd.R_new' (Kd.R_new' ho0 (Kd.R_lt (Qr_ HO327.out))) (Kd.R_lt (Qr_ HO330.out))) (below_size (Qg_ GE319.out))); have n3_ := Aside0.mk (blk_below (g := gb319) (o := .cells #[.int .i64 0, .int .i64 0, .slice none 0 0, .slice none 0 0] 98 (0, 0)) (Qk_ BK319.out) hb); have n4_ := Aside0.mk (below_step (Qg_ GE319.out) hb); clear HO327; clear HO330; clear BK319; clear HB; have HO327 := n0_; have HO330 := n1_; have HO333 := n2_; have BK319 := n3_; have HB := n4_; clear n0_ n1_ n2_ n3_ n4_; (try clear hb); (try clear hb2); (try clear hk); (try clear hi); (try clear ho0)) | ((with_reducible refine gate_callee (f := 33) rfl ?_); refine goesL_ (some 46) rfl rfl Tryz.func33 Ql0_ rfl #[.slice Ao30 y325.length co30] rfl Qb0_ ?_; (with_reducible refine (slices_Clone_string_string.calls _ _ y325 t334 _ ?side1 ?side2 A25.out).mono ?_); (case side1 => exact Qc_ (Kd.R_reads' HO327.out).2.2); (case side2 => exact (Kd.R_reads' HO327.out).2.1); rintro e w35 ⟨v335, rfl, ho0, hb⟩; refine ⟨_, rfl, ?_⟩; have n0_ := Aside0.mk (Kd.R_elder' (Qr_ HO327.out) (Kd.R_base ho0) hb); have n1_ := Aside0.mk (Kd.R_elder' (Qr_ HO330.out) (Kd.R_base ho0) hb); have n2_ := Aside0.mk (Kd.R_elder' (Qr_ HO333.out) (Kd.R_base ho0) hb); have n3_ := Aside0.mk (Kd.R_lower (Kd.R_new' (Kd.R_new' (Kd.R_new' ho0 (Kd.R_lt (Qr_ HO327.out))) (Kd.R_lt (Qr_ HO330.out))) (Kd.R_lt (Qr_ HO333.out))) (below_size (Qg_ GE319.out))); have n4_ := Aside0.mk (blk_below (g := gb319) (o := .cells #[.int .i64 0, .int .i64 0, .slice none 0 0, .slice none 0 0] 98 (0, 0)) (Qk_ BK319.out) hb); have n5_ := Aside0.mk (below_step (Qg_ GE319.out) hb); clear HO327; clear HO330; clear HO333; clear BK319; clear HB; have HO327 := n0_; have HO330 := n1_; have HO333 := n2_; have HO336 := n3_; have BK319 := n4_; have HB := n5_; clear n0_ n1_ n2_ n3_ n4_ n5_; (try clear hb); (try clear hb2); (try clear hk); (try clear hi); (try clear ho0); obtain ⟨Ao36, co36, eo36⟩ := Kd.R_slice HO336.out; subst eo36; obtain ⟨Ao37, co37, eo37⟩ := Kd.R_slice HO333.out; subst eo37) | ((with_reducible refine gate_dst (N := 9) rfl ?_); refine box_event ?hg (N := 9) ?hd (cs := #[.int .i64 0, .int .i64 0, .slice none 0 0, .slice none 0 0]) (t := 98) ?hr ?_; (case hd => rfl); (case hg => rfl); (case hr => exact Qj0_); intro gb337 hg w38 hbox hb; have n0_ := Aside0.mk (Kd.R_below (Qr_ HO327.out) hb); have n1_ := Aside0.mk (Kd.R_below (Qr_ HO330.out) hb); have n2_ := Aside0.mk (Kd.R_below (Qr_ HO333.out) hb); have n3_ := Aside0.mk (Kd.R_below (Qr_ HO336.out) hb); have n4_ := Aside0.mk (blk_below (g := gb319) (o := .cells #[.int .i64 0, .int .i64 0, .slice none 0 0, .slice none 0 0] 98 (0, 0)) (Qk_ BK319.out) hb); have n5_ := Aside0.mk (below_step (Qg_ GE319.out) hb); have n6_ := Aside0.mk (hbox); have n7_ := Aside0.mk ((by rw [hg]; exact (below_size (Qg_ GE319.out)) : w.heap.size ≤ gb337)); have n8_ := Aside0.mk ((by rw [hg]; exact (below_size (Qg_ GE319.out)) : w.heap.size ≤ gb337)); have n9_ := Aside0.mk ((by rw [hg]; exact Nat.ne_of_lt (blk_lt (g := gb319) (o := .cells #[.int .i64 0, .int .i64 0, .slice none 0 0, .slice none 0 0] 98 (0, 0)) (Qk_ BK319.out)) : gb319 ≠ gb337)); have n10_ := Aside0.mk ((by rw [hg]; exact Nat.ne_of_gt (blk_lt (g := gb319) (o := .cells #[.int .i64 0, .int .i64 0, .slice none 0 0, .slice none 0 0] 98 (0, 0)) (Qk_ BK319.out)) : gb337 ≠ gb319)); clear HO327; clear HO330; clear HO333; clear HO336; clear BK319; clear HB; have HO327 := n0_; have HO330 := n1_; have HO333 := n2_; have HO336 := n3_; have BK319 := n4_; have HB := n5_; have BK337 := n6_; have GW337 := n7_; have GE337 := n8_; have NB319_337 := n9_; have NB337_319 := n10_; clear n0_ n1_ n2_ n3_ n4_ n5_ n6_ n7_ n8_ n9_ n10_; clear hb hbox hg; have hnb39 := NB337_319.out; have hnc39 := NB319_337.out; have hcz40_0 : w38.cell? ⟨gb337, 0, none⟩ = some (.int .i64 0) := (blk_cell BK337.out 0).trans rfl; have hcz40_1 : w38.cell? ⟨gb337, 1, none⟩ = some (.int .i64 0) := (blk_cell BK337.out 1).trans rfl; have hcz40_2 : w38.cell? ⟨gb337, 2, none⟩ = some (.slice none 0 0) := (blk_cell BK337.out 2).trans rfl; have hcz40_3 : w38.cell? ⟨gb337, 3, none⟩ = some (.slice none 0 0) := (blk_cell BK337.out 3).trans rfl; have hfz40_0 := blk_frozen BK337.out 0; have hfz40_1 := blk_frozen BK337.out 1; have hfz40_2 := blk_frozen BK337.out 2; have hfz40_3 := blk_frozen BK337.out 3) | ((with_reducible refine gate_store (t := 98) (p := 9) rfl ?_); refine store_event (t := 98) (p := 9) (v := ?vo_w41) (w1 := ((((w38.setCell ⟨gb337, 0, none⟩ (.int .i64 a0)).setCell ⟨gb337, 1, none⟩ (.int .i64 a1)).setCell ⟨gb337, 2, none⟩ (.slice Ao37 t331.length co37)).setCell ⟨gb337, 3, none⟩ (.slice Ao36 t334.length co36))) ?hg ?ho ?hn ?hr ?_; (case ho => rfl); (case hg => rfl); (case hn => rfl); (case hr => exact Qj0_); intro w41 hw; have n0_ : Aside0 (Kd.R Kd.string 9 w41 w.heap.size (fun k_ => some k_ ≠ (.slice Ao33 t328.length co33 : Value).ownBlock ∧ some k_ ≠ (.slice Ao37 t331.length co37 : Value).ownBlock ∧ some k_ ≠ (.slice Ao36 t334.length co36 : Value).ownBlock) (.slice Ao30 y325.length co30) y325) := ⟨(by rw [hw]; exact (by (with_reducible repeat (first | apply Kd.R_alloc | apply Kd.R_drewN | apply Kd.R_drew)); exact Kd.R_mono (Kd.R_far (p := ⟨gb337, 3, none⟩) (Kd.R_far (p := ⟨gb337, 2, none⟩) (Kd.R_far (p := ⟨gb337, 1, none⟩) (Kd.R_far (p := ⟨gb337, 0, none⟩) (Kd.R_types HO327.out BK337.out (by decide)) (fun _ hk => hk.2) (.int .i64 a0)) (fun _ hk => hk.2) (.int .i64 a1)) (fun _ hk => hk.2) (.slice Ao37 t331.length co37)) (fun _ hk => hk.2) (.slice Ao36 t334.length co36)) (fun _ hk => ⟨hk.1.1.1.2, ⟨hk.1.1.2, hk.1.2⟩⟩)))⟩; have n1_ : Aside0 (Kd.R Kd.string 9 w41 w.heap.size (fun k_ => some k_ ≠ (.slice Ao30 y325.length co30 : Value).ownBlock ∧ some k_ ≠ (.slice Ao37 t331.length co37 : Value).ownBlock ∧ some k_ ≠ (.slice Ao36 t334.length co36 : Value).ownBlock) (.slice Ao33 t328.length co33) t328) := ⟨(by rw [hw]; exact (by (with_reducible repeat (first | apply Kd.R_alloc | apply Kd.R_drewN | apply Kd.R_drew)); exact Kd.R_mono (Kd.R_far (p := ⟨gb337, 3, none⟩) (Kd.R_far (p := ⟨gb337, 2, none⟩) (Kd.R_far (p := ⟨gb337, 1, none⟩) (Kd.R_far (p := ⟨gb337, 0, none⟩) (Kd.R_types HO330.out BK337.out (by decide)) (fun _ hk => hk.2) (.int .i64 a0)) (fun _ hk => hk.2) (.int .i64 a1)) (fun _ hk => hk.2) (.slice Ao37 t331.length co37)) (fun _ hk => hk.2) (.slice Ao36 t334.length co36)) (fun _ hk => ⟨hk.1.1.1.2, ⟨hk.1.1.2, hk.1.2⟩⟩)))⟩; have n2_ : Aside0 (Kd.R Kd.string 9 w41 w.heap.size (fun k_ => some k_ ≠ (.slice Ao30 y325.length co30 : Value).ownBlock ∧ some k_ ≠ (.slice Ao33 t328.length co33 : Value).ownBlock ∧ some k_ ≠ (.slice Ao36 t334.length co36 : Value).ownBlock) (.slice Ao37 t331.length co37) t331) := ⟨(by rw [hw]; exact (by (with_reducible repeat (first | apply Kd.R_alloc | apply Kd.R_drewN | apply Kd.R_drew)); exact Kd.R_mono (Kd.R_far (p := ⟨gb337, 3, none⟩) (Kd.R_far (p := ⟨gb337, 2, none⟩) (Kd.R_far (p := ⟨gb337, 1, none⟩) (Kd.R_far (p := ⟨gb337, 0, none⟩) (Kd.R_types HO333.out BK337.out (by decide)) (fun _ hk => hk.2) (.int .i64 a0)) (fun _ hk => hk.2) (.int .i64 a1)) (fun _ hk => hk.2) (.slice Ao37 t331.length co37)) (fun _ hk => hk.2) (.slice Ao36 t334.length co36)) (fun _ hk => ⟨hk.1.1.1.2, ⟨hk.1.1.2, hk.1.2⟩⟩)))⟩; have n3_ : Aside0 (Kd.R Kd.string 9 w41 w.heap.size (fun k_ => some k_ ≠ (.slice Ao30 y325.length co30 : Value).ownBlock ∧ some k_ ≠ (.slice Ao33 t328.length co33 : Value).ownBlock ∧ some k_ ≠ (.slice Ao37 t331.length co37 : Value).ownBlock) (.slice Ao36 t334.length co36) t334) := ⟨(by rw [hw]; exact (by (with_reducible repeat (first | apply Kd.R_alloc | apply Kd.R_drewN | apply Kd.R_drew)); exact Kd.R_mono (Kd.R_far (p := ⟨gb337, 3, none⟩) (Kd.R_far (p := ⟨gb337, 2, none⟩) (Kd.R_far (p := ⟨gb337, 1, none⟩) (Kd.R_far (p := ⟨gb337, 0, none⟩) (Kd.R_types HO336.out BK337.out (by decide)) (fun _ hk => hk.2) (.int .i64 a0)) (fun _ hk => hk.2) (.int .i64 a1)) (fun _ hk => hk.2) (.slice Ao37 t331.length co37)) (fun _ hk => hk.2) (.slice Ao36 t334.length co36)) (fun _ hk => ⟨hk.1.1.1.2, ⟨hk.1.1.2, hk.1.2⟩⟩)))⟩; have n4_ : Aside0 (w41.heap[gb319]? = some (.cells #[.int .i64 0, .int .i64 0, .slice none 0 0, .slice none 0 0] 98 (0, 0))) := ⟨(by rw [hw]; exact (by (with_reducible repeat (first | refine blk_drewN ?_ _ | refine blk_drew ?_ | refine blk_alloc ?_ _)); refine blk_far ?_ NB319_337.out _; (with_reducible repeat (first | refine blk_drewN ?_ _ | refine blk_drew ?_ | refine blk_alloc ?_ _)); refine blk_far ?_ NB319_337.out _; (with_reducible repeat (first | refine blk_drewN ?_ _ | refine blk_drew ?_ | refine blk_alloc ?_ _)); refine blk_far ?_ NB319_337.out _; (with_reducible repeat (first | refine blk_drewN ?_ _ | refine blk_drew ?_ | refine blk_alloc ?_ _)); refine blk_far ?_ NB319_337.out _; (with_reducible repeat (first | refine blk_drewN ?_ _ | refine blk_drew ?_ | refine blk_alloc ?_ _)); exact BK319.out))⟩; have n5_ : Aside0 (w41.heap[gb337]? = some (.cells #[.int .i64 a0, .int .i64 a1, .slice Ao37 t331.length co37, .slice Ao36 t334.length co36] 98 (0, 0))) := ⟨(by rw [hw]; exact (by (with_reducible repeat (first | refine blk_drewN ?_ _ | refine blk_drew ?_ | refine blk_alloc ?_ _)); refine blk_put (cs := #[.int .i64 a0, .int .i64 a1, .slice Ao37 t331.length co37, .slice none 0 0]) ?_ 3 _ rfl; (with_reducible repeat (first | refine blk_drewN ?_ _ | refine blk_drew ?_ | refine blk_alloc ?_ _)); refine blk_put (cs := #[.int .i64 a0, .int .i64 a1, .slice none 0 0, .slice none 0 0]) ?_ 2 _ rfl; (with_reducible repeat (first | refine blk_drewN ?_ _ | refine blk_drew ?_ | refine blk_alloc ?_ _)); refine blk_put (cs := #[.int .i64 a0, .int .i64 0, .slice none 0 0, .slice none 0 0]) ?_ 1 _ rfl; (with_reducible repeat (first | refine blk_drewN ?_ _ | refine blk_drew ?_ | refine blk_alloc ?_ _)); refine blk_put (cs := #[.int .i64 0, .int .i64 0, .slice none 0 0, .slice none 0 0]) ?_ 0 _ rfl; (with_reducible repeat (first | refine blk_drewN ?_ _ | refine blk_drew ?_ | refine blk_alloc ?_ _)); exact BK337.out))⟩; have n6_ : Aside0 (Below w.heap.size w w41) := ⟨(by rw [hw]; exact Qo0_)⟩; clear hw; clear HO327; clear HO330; clear HO333; clear HO336; clear BK319; clear BK337; clear HB; have HO327 := n0_; have HO330 := n1_; have HO333 := n2_; have HO336 := n3_; have BK319 := n4_; have BK337 := n5_; have HB := n6_; clear n0_ n1_ n2_ n3_ n4_ n5_ n6_; have q42 : ((ji26) : Int) ≤ ((t328.length : Int) : Int) := of_decide_eq_true Qg0_; obtain ⟨i042, hi042, _, hsz42, _⟩ := info_parts info9; have hroom42 : t328.length ≤ co33 := (Kd.R_reads' HO330.out).2.1; have hC42 : Kd.C Kd.string _ Ao33 t328.length t328 := (Kd.R_reads' HO330.out).2.2; have hcut42 := cut_to (P := Tryz.prog) 24 9 .i64 Tryz.underlying24 hi042 Ao33 t328.length co33 (ji26) (of_decide_eq_true Qg0_) q42 hroom42; have hr42 := Kd.C_take (m := ((ji26) : Int).toNat) hC42 (by omega); have hy42 : y338.length = ((ji26) : Int).toNat := (by rw [Ny338.out, List.length_take]; omega); rw [← Ny338.out] at hr42; rw [← hy42] at hcut42; have HR341 := Aside0.mk hr42; have HC341 := Aside0.mk (show y338.length ≤ co33 from by omega); clear hr42 hC42 hroom42 hi042 hsz42; have KY42 := Aside0.mk hy42; clear hy42; have KL42 := Aside0.mk (show ((ji26) : Int).toNat ≤ t328.length from by omega); replace q42 := eq_true q42))
          go_loopg [55] kj2 (fun kq v55 w' => ∃ (x55_2 : Int) (x338002_2 : List ByteArray) (x338003_2 : List ByteArray) (u338002 : Value) (u338003 : Value), v55 = .int .i64 x55_2 ∧ Aside0 (impl_MakeBlockCode.l0 kq y338 (y338.length : Int) x55_2 a0 a1 x338002_2 x338003_2 = some (r1, r2, r3, r4, r5)) ∧ Aside0 (kq ≤ kj2) ∧ Aside0 (Kd.R Kd.string 9 w' w.heap.size (fun k_ => some k_ ≠ (u338003 : Value).ownBlock) u338002 x338002_2) ∧ Aside0 (Kd.R Kd.string 9 w' w.heap.size (fun k_ => some k_ ≠ (u338002 : Value).ownBlock) u338003 x338003_2) ∧ Aside0 (w'.heap[gb319]? = some (.cells #[.int .i64 0, .int .i64 0, (.slice none 0 0), (.slice none 0 0)] 98 (0, 0))) ∧ Aside0 (w'.heap[gb337]? = some (.cells #[.int .i64 a0, .int .i64 a1, u338002, u338003] 98 (0, 0))) ∧ Aside0 (Below w.heap.size w w') ∧ Aside0 (Kd.R Kd.string 9 w' w.heap.size (fun k_ => some k_ ≠ (u338002 : Value).ownBlock ∧ some k_ ≠ (u338003 : Value).ownBlock) (.slice Ao33 t328.length co33) t328))
          case atStart => exact ⟨(0), (t331), (t334), (.slice Ao37 t331.length co37), (.slice Ao36 t334.length co36), Qf0_, H', ⟨Nat.le_refl _⟩, ⟨by (with_reducible repeat (first | apply Kd.R_alloc | apply Kd.R_drewN | apply Kd.R_drew)); exact Kd.R_mono HO333.out (fun _ hk => hk.2.2)⟩, ⟨by (with_reducible repeat (first | apply Kd.R_alloc | apply Kd.R_drewN | apply Kd.R_drew)); exact Kd.R_mono HO336.out (fun _ hk => hk.2.2)⟩, ⟨Qk_ BK319.out⟩, ⟨Qk_ BK337.out⟩, ⟨Qo0_⟩, ⟨by (with_reducible repeat (first | apply Kd.R_alloc | apply Kd.R_drewN | apply Kd.R_drew)); exact Kd.R_mono HO330.out (fun _ hk => ⟨hk.2.1, hk.2.2⟩)⟩⟩
          case round =>
           clear H'
           try clear c1
           try clear c2
           try clear p2
           try clear q2
           try clear c3
           try clear q3
           try clear q4
           try clear c6
           try clear p6
           try clear c8
           try clear c9
           try clear c10
           try clear c10b0
           try clear c10b1
           try clear c14
           try clear c14b0
           try clear c14b1
           try clear c15
           try clear c15b0
           try clear c15b1
           try clear c17
           try clear c17b0
           try clear q20
           try clear c27
           try clear c27b0
           try clear c27b1
           try clear c28
           try clear c28b0
           try clear c28b1
           try clear q31
           try clear c33
           try clear c39
           try clear q42
           try clear hcz23_0
           try clear hcz23_1
           try clear hcz23_2
           try clear hcz23_3
           try clear hcz40_0
           try clear hcz40_1
           try clear hcz40_2
           try clear hcz40_3
           try clear hcz9_0
           try clear hcz9_1
           try clear hcz9_2
           try clear hcz9_3
           try clear hfz23_0
           try clear hfz23_1
           try clear hfz23_2
           try clear hfz23_3
           try clear hfz40_0
           try clear hfz40_1
           try clear hfz40_2
           try clear hfz40_3
           try clear hfz9_0
           try clear hfz9_1
           try clear hfz9_2
           try clear hfz9_3
           try clear p2
           try clear q20
           try clear q31
           try clear q42
           obtain ⟨x55_2, x338002_2, x338003_2, u338002, u338003, rfl, HA, HK2, HO_338002, HO_338003, BK319, BK337, HB, HOR⟩ := hrel
           cases gk with
           | zero => exact absurd HA.out (by simp [impl_MakeBlockCode.l0])
           | succ k2 =>
            have H := HA.out
            clear HA
            simp only [impl_MakeBlockCode.l0] at H
            by_cases c43 : x55_2 < (y338.length : Int)
            ·rw [if_pos c43] at H
             have c43b0 := decide_eq_true c43
             clear c43
             by_cases c44 : 0 ≤ x55_2
             ·rw [if_pos c44] at H
              have c44b0 := decide_eq_true c44
              clear c44
              by_cases c45 : x55_2 < (y338.length : Int)
              ·rw [if_pos c45] at H
               have c45b0 := decide_eq_true c45
               clear c45
               by_cases c46 : x338002_2.length < 8796093022208
               ·rw [if_pos c46] at H
                have LMc46 := Aside0.mk c46
                clear c46
                obtain ⟨y343, hy343⟩ : ∃ y_ : List ByteArray, y_ = (x338002_2 ++ [rdOf ByteArray.empty y338 x55_2]) := ⟨_, rfl⟩
                replace H : ((impl_opposite.f k2 (rdOf ByteArray.empty y338 x55_2)).bind fun t346 => (if x338003_2.length < 8796093022208 then (impl_MakeBlockCode.l0 k2 y338 (y338.length : Int) (wrap64 (x55_2 + 1)) a0 a1 y343 (x338003_2 ++ [t346])) else (none))) = some (r1, r2, r3, r4, r5) := by first | (rw [hy343]; with_reducible exact H) | (have H2_ := (Option.bind_some _ _).symm.trans H; rw [hy343]; with_reducible exact H2_) | (have H2_ := (Option.bind_some _ _).symm.trans H; with_reducible exact H2_) | with_reducible exact H | (rw [hy343]; exact H) | exact H
                have Ny343 := Aside0.mk hy343
                clear hy343
                replace H := Option.bind_eq_some_iff.mp H
                obtain ⟨t346, A470, H⟩ := H
                try dsimp only at H
                have A47 := Aside0.mk A470
                clear A470
                by_cases c48 : x338003_2.length < 8796093022208
                ·rw [if_pos c48] at H
                 have LMc48 := Aside0.mk c48
                 clear c48
                 obtain ⟨y347, hy347⟩ : ∃ y_ : List ByteArray, y_ = (x338003_2 ++ [t346]) := ⟨_, rfl⟩
                 replace H : (impl_MakeBlockCode.l0 k2 y338 (y338.length : Int) (wrap64 (x55_2 + 1)) a0 a1 y343 y347) = some (r1, r2, r3, r4, r5) := by first | (rw [hy347]; with_reducible exact H) | (have H2_ := (Option.bind_some _ _).symm.trans H; rw [hy347]; with_reducible exact H2_) | (have H2_ := (Option.bind_some _ _).symm.trans H; with_reducible exact H2_) | with_reducible exact H | (rw [hy347]; exact H) | exact H
                 have Ny347 := Aside0.mk hy347
                 clear hy347
                 have H' := Aside0.mk H
                 clear H
                 have p342 : 0 ≤ (x55_2 : Int) := of_decide_eq_true Qg0_
                 have q342 : x55_2 < (y338.length : Int) := of_decide_eq_true Qg0_
                 have hrx_ := Kd.C_take (m := ((ji26) : Int).toNat) (Kd.R_reads' HOR.out).2.2 KL42.out
                 rw [← Ny338.out] at hrx_
                 obtain ⟨ad342, e342, hx342_0⟩ := Kd.at_string hrx_ x55_2 p342 q342
                 cases e342
                 replace p342 := eq_true p342
                 replace q342 := eq_true q342
                 have hnb49 := NB337_319.out
                 have hnc49 := NB319_337.out
                 have hcz50_0 : wr.cell? ⟨gb337, 0, none⟩ = some (.int .i64 a0) := (blk_cell BK337.out 0).trans rfl
                 have hcz50_1 : wr.cell? ⟨gb337, 1, none⟩ = some (.int .i64 a1) := (blk_cell BK337.out 1).trans rfl
                 have hcz50_2 : wr.cell? ⟨gb337, 2, none⟩ = some (u338002) := (blk_cell BK337.out 2).trans rfl
                 have hcz50_3 : wr.cell? ⟨gb337, 3, none⟩ = some (u338003) := (blk_cell BK337.out 3).trans rfl
                 have hfz50_0 := blk_frozen BK337.out 0
                 have hfz50_1 := blk_frozen BK337.out 1
                 have hfz50_2 := blk_frozen BK337.out 2
                 have hfz50_3 := blk_frozen BK337.out 3
                 try go_wp2_with (first | ((with_reducible refine gate_builtin (b := .append) (xs := #[.tmp 60, .tmp 62]) rfl ?_); at_builtin; refine Kd.R_append Kd.string (w0 := w) w.heap.size rfl (.tmp 60) (.tmp 62) 24 9 (.string ⟨#[]⟩) 16 rfl Tryz.underlying24 info9 rfl (by decide) (by omega) u338002 x338002_2 (rdOf ByteArray.empty y338 x55_2) [.string (rdOf ByteArray.empty y338 x55_2)] (fun k_ => some k_ ≠ (u338003 : Value).ownBlock) (fun _ => False) rfl rfl ?aP (fun _ hk => hk.elim) ?aF ?aO ?aB ?aS ?aL ?_; (case aP => exact rfl); (case aB => exact Qo0_); (case aF => exact (fun k_ hk => Kd.fresh' (Kd.R_lt (Qr_ HO_338003.out)) k_ hk)); (case aO => exact (Qr_ HO_338002.out)); (case aS => exact (below_size Qo0_)); (case aL => have := LMc46.out; omega); intro v344 w51 ho hb hg hat; rw [← Ny343.out] at ho; have nr_ := Aside0.mk (Kd.R_after (ok := (fun k_ => some k_ ≠ (u338003 : Value).ownBlock)) (by (with_reducible repeat (first | apply Kd.R_alloc | apply Kd.R_drewN | apply Kd.R_drew)); exact Kd.R_mono HOR.out (fun _ hk => ⟨hk.2, hk.1⟩)) hg hat); clear HOR; have HOR := nr_; clear nr_; have n0_ := Aside0.mk (Kd.R_after (ok := (fun _ => True)) (by (with_reducible repeat (first | apply Kd.R_alloc | apply Kd.R_drewN | apply Kd.R_drew)); exact Kd.R_mono HO_338003.out (fun _ hk => ⟨trivial, hk⟩)) hg hat); have n1_ := Aside0.mk (blk_grown (g := gb319) (o := .cells #[.int .i64 0, .int .i64 0, .slice none 0 0, .slice none 0 0] 98 (0, 0)) (Qk_ BK319.out) hg (Kd.R_ne HO_338002.out BK319.out (by decide))); have n2_ := Aside0.mk (blk_grown (g := gb337) (o := .cells #[.int .i64 a0, .int .i64 a1, u338002, u338003] 98 (0, 0)) (Qk_ BK337.out) hg (Kd.R_ne HO_338002.out BK337.out (by decide))); have n3_ := Aside0.mk (hb); have n4_ := Aside0.mk (ho); clear HO_338003; clear BK319; clear BK337; clear HB; clear HO_338002; have HO_338003 := n0_; have BK319 := n1_; have BK337 := n2_; have HB := n3_; have HO345 := n4_; clear n0_ n1_ n2_ n3_ n4_; clear ho hb hg hat; obtain ⟨Ao52, co52, eo52⟩ := Kd.R_slice HO345.out; subst eo52; have hcz53_0 : w51.cell? ⟨gb337, 0, none⟩ = some (.int .i64 a0) := (blk_cell BK337.out 0).trans rfl; have hcz53_1 : w51.cell? ⟨gb337, 1, none⟩ = some (.int .i64 a1) := (blk_cell BK337.out 1).trans rfl; have hcz53_2 : w51.cell? ⟨gb337, 2, none⟩ = some (u338002) := (blk_cell BK337.out 2).trans rfl; have hcz53_3 : w51.cell? ⟨gb337, 3, none⟩ = some (u338003) := (blk_cell BK337.out 3).trans rfl; have hfz53_0 := blk_frozen BK337.out 0; have hfz53_1 := blk_frozen BK337.out 1; have hfz53_2 := blk_frozen BK337.out 2; have hfz53_3 := blk_frozen BK337.out 3))
                 have n0_ : Aside0 (Kd.R Kd.string 9 (w51.setCell ⟨gb337, 2, none⟩ (.slice Ao52 y343.length co52)) w.heap.size (fun k_ => some k_ ≠ (.slice Ao52 y343.length co52 : Value).ownBlock) u338003 x338003_2) := ⟨by (with_reducible repeat (first | apply Kd.R_alloc | apply Kd.R_drewN | apply Kd.R_drew)); exact Kd.R_mono (Kd.R_far (p := ⟨gb337, 2, none⟩) (Kd.R_types HO_338003.out BK337.out (by decide)) (fun _ hk => hk.2) (.slice Ao52 y343.length co52)) (fun _ hk => hk.1.2)⟩
                 have n1_ : Aside0 (Kd.R Kd.string 9 (w51.setCell ⟨gb337, 2, none⟩ (.slice Ao52 y343.length co52)) w.heap.size (fun k_ => some k_ ≠ (u338003 : Value).ownBlock) (.slice Ao52 y343.length co52) y343) := ⟨by (with_reducible repeat (first | apply Kd.R_alloc | apply Kd.R_drewN | apply Kd.R_drew)); exact Kd.R_mono (Kd.R_far (p := ⟨gb337, 2, none⟩) (Kd.R_types HO345.out BK337.out (by decide)) (fun _ hk => hk.2) (.slice Ao52 y343.length co52)) (fun _ hk => hk.1)⟩
                 have n2_ : Aside0 ((w51.setCell ⟨gb337, 2, none⟩ (.slice Ao52 y343.length co52)).heap[gb319]? = some (.cells #[.int .i64 0, .int .i64 0, .slice none 0 0, .slice none 0 0] 98 (0, 0))) := ⟨Qo1_⟩
                 have n3_ : Aside0 ((w51.setCell ⟨gb337, 2, none⟩ (.slice Ao52 y343.length co52)).heap[gb337]? = some (.cells #[.int .i64 a0, .int .i64 a1, .slice Ao52 y343.length co52, u338003] 98 (0, 0))) := ⟨by (with_reducible repeat (first | refine blk_drewN ?_ _ | refine blk_drew ?_ | refine blk_alloc ?_ _)); refine blk_put (cs := #[.int .i64 a0, .int .i64 a1, u338002, u338003]) ?_ 2 _ rfl; (with_reducible repeat (first | refine blk_drewN ?_ _ | refine blk_drew ?_ | refine blk_alloc ?_ _)); exact BK337.out⟩
                 have n4_ : Aside0 (Below w.heap.size w (w51.setCell ⟨gb337, 2, none⟩ (.slice Ao52 y343.length co52))) := ⟨Qo0_⟩
                 have nr_ : Aside0 (Kd.R Kd.string 9 (w51.setCell ⟨gb337, 2, none⟩ (.slice Ao52 y343.length co52)) w.heap.size (fun k_ => some k_ ≠ (u338003 : Value).ownBlock ∧ some k_ ≠ (.slice Ao52 y343.length co52 : Value).ownBlock) (.slice (some ad342) t328.length co33) t328) := ⟨by (with_reducible repeat (first | apply Kd.R_alloc | apply Kd.R_drewN | apply Kd.R_drew)); exact Kd.R_mono (Kd.R_far (p := ⟨gb337, 2, none⟩) (Kd.R_types HOR.out BK337.out (by decide)) (fun _ hk => hk.2) (.slice Ao52 y343.length co52)) (fun _ hk => hk.1)⟩
                 clear HOR
                 (try clear HO_338003)
                 (try clear HO345)
                 (try clear BK319)
                 (try clear BK337)
                 (try clear HB)
                 generalize (w51.setCell ⟨gb337, 2, none⟩ (.slice Ao52 y343.length co52)) = w54 at n0_ n1_ n2_ n3_ n4_ nr_ ⊢
                 have HOR := nr_
                 clear nr_
                 have HO_338003 := n0_
                 have HO345 := n1_
                 have BK319 := n2_
                 have BK337 := n3_
                 have HB := n4_
                 clear n0_ n1_ n2_ n3_ n4_
                 have nr_ := Aside0.mk (Kd.R_drew HOR.out)
                 clear HOR
                 have HOR := nr_
                 clear nr_
                 have n0_ := Aside0.mk (Kd.R_drew HO_338003.out)
                 have n1_ := Aside0.mk (Kd.R_drew HO345.out)
                 have n2_ := Aside0.mk (blk_drew BK319.out)
                 have n3_ := Aside0.mk (blk_drew BK337.out)
                 have n4_ := Aside0.mk (below_drew1 HB.out)
                 clear HO_338003
                 clear HO345
                 clear BK319
                 clear BK337
                 clear HB
                 have HO_338003 := n0_
                 have HO345 := n1_
                 have BK319 := n2_
                 have BK337 := n3_
                 have HB := n4_
                 clear n0_ n1_ n2_ n3_ n4_
                 refine start_ (n := 8) (S := fun w' => w'.cell? ⟨gb337, 0, none⟩ = some (.int .i64 a0) ∧ w'.cell? ⟨gb337, 1, none⟩ = some (.int .i64 a1) ∧ w'.cell? ⟨gb337, 2, none⟩ = some (.slice Ao52 y343.length co52) ∧ w'.cell? ⟨gb337, 3, none⟩ = some (u338003)) (ds := [7]) #[false, false, false, false, false, false, false, false] Ql0_ rfl rfl ⟨(blk_cell BK337.out 0).trans rfl, (blk_cell BK337.out 1).trans rfl, (blk_cell BK337.out 2).trans rfl, (blk_cell BK337.out 3).trans rfl⟩ (fun hHeld => ?_); refine with_tabW impl_MakeBlockCode.tab14 impl_MakeBlockCode.bits14 (fun HT_ HW_ => ?_)
                 generalize w54.drew = w55 at HO_338003 HO345 BK319 BK337 HB HOR hHeld ⊢
                 refine pure_ (i := 0) (N := some 65) (v := ?_) (a' := ?_) #[true, false, false, false, false, false, false, false] rfl rfl (any_of HT_.out Ql0_) (fun _ _ _ h => h) (Or.inl ⟨by rfl, ?_⟩) ?_ ?_
                 rotate_left
                 ·intro w'
                  go_simp
                  with_reducible rfl
                 rotate_left
                 ·simp only [Act.put, List.setIfInBounds_toArray, List.set_cons_zero, List.set_cons_succ, i64_w, i32_w]
                  rfl
                 refine pure_ (i := 2) (N := some 67) (v := ?_) (a' := ?_) #[true, false, true, false, false, false, false, false] rfl rfl (any_of HT_.out Ql0_) (fun _ _ _ h => h) (Or.inl ⟨by rfl, ?_⟩) ?_ ?_
                 rotate_left
                 ·intro w'
                  go_simp
                  with_reducible rfl
                 rotate_left
                 ·simp only [Act.put, List.setIfInBounds_toArray, List.set_cons_zero, List.set_cons_succ, i64_w, i32_w]
                  rfl
                 refine take_ (i := 1) (N := some 66) (v := ?_) (a' := ?_) #[true, true, true, false, false, false, false, false] rfl rfl (take_ofW HT_.out HW_.out Ql0_) (fun _ _ _ h => h) (Or.inl ⟨by rfl, ?_⟩) hHeld ?_ ?_
                 rotate_left
                 ·rintro w' ⟨s0, s1, s2, s3⟩
                  go_simp
                  with_reducible rfl
                 rotate_left
                 ·simp only [Act.put, List.setIfInBounds_toArray, List.set_cons_zero, List.set_cons_succ, i64_w, i32_w]
                  rfl
                 refine one_ (i := 3) (N := some 68) #[true, true, true, true, false, false, false, false] rfl rfl (one_of HT_.out Ql0_) (by decide) (fun K hK => ?_)
                 refine goes_ Tryz.func46 Ql0_ rfl #[.string (rdOf ByteArray.empty y338 x55_2)] (by rfl) rfl rfl Qb0_ ?_
                 with_reducible refine (impl_opposite.calls k2 (rdOf ByteArray.empty y338 x55_2) t346 _ A47.out).mono ?_
                 rintro e w56 ⟨rfl, hb⟩
                 refine ⟨_, rfl, ?_⟩
                 have nr_ := Aside0.mk (Kd.R_below (Qr_ HOR.out) hb)
                 clear HOR
                 have HOR := nr_
                 clear nr_
                 have n0_ := Aside0.mk (Kd.R_below (Qr_ HO_338003.out) hb)
                 have n1_ := Aside0.mk (Kd.R_below (Qr_ HO345.out) hb)
                 have n2_ := Aside0.mk (blk_below (g := gb319) (o := .cells #[.int .i64 0, .int .i64 0, .slice none 0 0, .slice none 0 0] 98 (0, 0)) (Qk_ BK319.out) hb)
                 have n3_ := Aside0.mk (blk_below (g := gb337) (o := .cells #[.int .i64 a0, .int .i64 a1, .slice Ao52 y343.length co52, u338003] 98 (0, 0)) (Qk_ BK337.out) hb)
                 have n4_ := Aside0.mk (below_step Qo0_ hb)
                 clear HO_338003
                 clear HO345
                 clear BK319
                 clear BK337
                 clear HB
                 have HO_338003 := n0_
                 have HO345 := n1_
                 have BK319 := n2_
                 have BK337 := n3_
                 have HB := n4_
                 clear n0_ n1_ n2_ n3_ n4_
                 (try clear hb)
                 (try clear hb2)
                 (try clear hk)
                 (try clear hi)
                 refine hK.out _ _ ⟨(blk_cell BK337.out 0).trans rfl, (blk_cell BK337.out 1).trans rfl, (blk_cell BK337.out 2).trans rfl, (blk_cell BK337.out 3).trans rfl⟩ (fun hHeld => ?_)
                 clear hK K
                 refine norm_ (a' := ?_) ?_ ?_
                 rotate_left
                 ·show Act.put _ (some 68) _ = _
                  simp only [Act.put, List.setIfInBounds_toArray, List.set_cons_zero, List.set_cons_succ, i64_w, i32_w]
                  rfl
                 refine one_ (i := 4) (N := some 69) #[true, true, true, true, true, false, false, false] rfl rfl (one_of HT_.out Ql0_) (by decide) (fun K hK => ?_)
                 refine value_ (w1 := ?_) (v := ?_) (by rfl) rfl ?_ ?_
                 rotate_left 2
                 ·go_simp
                  constructor
                  ·rfl
                  ·rfl
                 refine hK.out _ _ ⟨(blk_cell (blk_alloc BK337.out _) 0).trans rfl, (blk_cell (blk_alloc BK337.out _) 1).trans rfl, (blk_cell (blk_alloc BK337.out _) 2).trans rfl, (blk_cell (blk_alloc BK337.out _) 3).trans rfl⟩ (fun hHeld => ?_)
                 clear hK K
                 refine norm_ (a' := ?_) ?_ ?_
                 rotate_left
                 ·show Act.put _ (some 69) _ = _
                  simp only [Act.put, List.setIfInBounds_toArray, List.set_cons_zero, List.set_cons_succ, i64_w, i32_w]
                  rfl
                 refine one_ (i := 5) (N := some 70) #[true, true, true, true, true, true, false, false] rfl rfl (one_of HT_.out Ql0_) (by decide) (fun K hK => ?_)
                 refine Kd.R_append_step Kd.string (w0 := w) w.heap.size (by rfl) (.tmp 66) (.tmp 69) 24 9 (.string ⟨#[]⟩) 16 rfl Tryz.underlying24 info9 rfl (by decide) (by omega) u338003 x338003_2 t346 [.string t346] (fun k_ => some k_ ≠ (.slice Ao52 y343.length co52 : Value).ownBlock) (fun _ => False) rfl rfl ?aP (fun _ hk => hk.elim) ?aF ?aO ?aB ?aS ?aL ?_
                 (case aP => exact rfl)
                 (case aB => exact Qo0_)
                 (case aF => exact (fun k_ hk => Kd.fresh' (Kd.R_lt (Qr_ HO345.out)) k_ hk))
                 (case aO => exact (Qr_ HO_338003.out))
                 (case aS => exact (below_size Qo0_))
                 (case aL => have := LMc48.out; omega)
                 intro v348 w57 ho hb hg hat
                 rw [← Ny347.out] at ho
                 have nr_ := Aside0.mk (Kd.R_after (ok := (fun k_ => some k_ ≠ (.slice Ao52 y343.length co52 : Value).ownBlock)) (by (with_reducible repeat (first | apply Kd.R_alloc | apply Kd.R_drewN | apply Kd.R_drew)); exact Kd.R_mono HOR.out (fun _ hk => ⟨hk.2, hk.1⟩)) hg hat); clear HOR; have HOR := nr_; clear nr_
                 have n0_ := Aside0.mk (blk_grown (g := gb319) (o := .cells #[.int .i64 0, .int .i64 0, .slice none 0 0, .slice none 0 0] 98 (0, 0)) (Qk_ BK319.out) hg (Kd.R_ne HO_338003.out BK319.out (by decide)))
                 have n1_ := Aside0.mk (blk_grown (g := gb337) (o := .cells #[.int .i64 a0, .int .i64 a1, .slice Ao52 y343.length co52, u338003] 98 (0, 0)) (Qk_ BK337.out) hg (Kd.R_ne HO_338003.out BK337.out (by decide)))
                 have n2_ := Aside0.mk (Kd.R_after (ok := (fun _ => True)) (by (with_reducible repeat (first | apply Kd.R_alloc | apply Kd.R_drewN | apply Kd.R_drew)); exact Kd.R_mono HO345.out (fun _ hk => ⟨trivial, hk⟩)) hg hat)
                 have n3_ := Aside0.mk (hb)
                 have n4_ := Aside0.mk (ho)
                 clear BK319
                 clear BK337
                 clear HO345
                 clear HB
                 clear HO_338003
                 have BK319 := n0_
                 have BK337 := n1_
                 have HO345 := n2_
                 have HB := n3_
                 have HO349 := n4_
                 clear n0_ n1_ n2_ n3_ n4_
                 clear ho hb hg hat
                 obtain ⟨Ao58, co58, eo58⟩ := Kd.R_slice HO349.out
                 (first | subst eo58 | (injection eo58 with f1_ f2_ f3_; have f4_ := f1_.symm; have f5_ := f3_.symm; clear f1_ f2_ f3_; subst f4_; subst f5_))
                 refine hK.out _ _ ⟨(blk_cell BK337.out 0).trans rfl, (blk_cell BK337.out 1).trans rfl, (blk_cell BK337.out 2).trans rfl, (blk_cell BK337.out 3).trans rfl⟩ (fun hHeld => ?_)
                 clear hK K
                 refine norm_ (a' := ?_) ?_ ?_
                 rotate_left
                 ·show Act.put _ (some 70) _ = _
                  simp only [Act.put, List.setIfInBounds_toArray, List.set_cons_zero, List.set_cons_succ, i64_w, i32_w]
                  rfl
                 refine pure_ (i := 6) (N := some 71) (v := ?_) (a' := ?_) #[true, true, true, true, true, true, true, false] rfl rfl (any_of HT_.out Ql0_) (fun _ _ _ h => h) (Or.inl ⟨by rfl, ?_⟩) ?_ ?_
                 rotate_left
                 ·intro w'
                  go_simp
                  with_reducible rfl
                 rotate_left
                 ·simp only [Act.put, List.setIfInBounds_toArray, List.set_cons_zero, List.set_cons_succ, i64_w, i32_w]
                  rfl
                 refine last_ (i := 7) (N := none) #[true, true, true, true, true, true, true, true] rfl rfl (one_of HT_.out Ql0_) (by decide) (fun K hK => ?_)
                 have hs59 : w57.cell? ⟨gb337, 3, none⟩ = some (u338003) := (blk_cell BK337.out 3).trans rfl
                 have hfs59 := blk_frozen BK337.out 3
                 have hns59_0 := NB319_337.out
                 have hms59_0 := NB337_319.out
                 refine skip_ (w1 := ?_) (by rfl) rfl ?_ ?_
                 rotate_left
                 ·go_simp
                  rfl
                 refine hK.out _ _ ?_
                 clear hK K
                 refine done_ (done_of HT_.out Ql0_) ?_
                 try go_wp2
                 go_roundg k2
                 case measure => have := HJ2.out; have := HK2.out; omega
                 case rel => exact ⟨(wrap64 (x55_2 + 1)), (y343), (y347), (.slice Ao52 y343.length co52), (.slice Ao58 y347.length co58), Qf0_, H', ⟨by have := HJ2.out; have := HK2.out; omega⟩, ⟨by (with_reducible repeat (first | apply Kd.R_alloc | apply Kd.R_drewN | apply Kd.R_drew)); exact Kd.R_mono (Kd.R_far (p := ⟨gb337, 3, none⟩) (Kd.R_types HO345.out BK337.out (by decide)) (fun _ hk => hk.2) (.slice Ao58 y347.length co58)) (fun _ hk => hk.1.2)⟩, ⟨by (with_reducible repeat (first | apply Kd.R_alloc | apply Kd.R_drewN | apply Kd.R_drew)); exact Kd.R_mono (Kd.R_far (p := ⟨gb337, 3, none⟩) (Kd.R_types HO349.out BK337.out (by decide)) (fun _ hk => hk.2) (.slice Ao58 y347.length co58)) (fun _ hk => hk.1)⟩, ⟨Qo1_⟩, ⟨by (with_reducible repeat (first | refine blk_drewN ?_ _ | refine blk_drew ?_ | refine blk_alloc ?_ _)); refine blk_put (cs := #[.int .i64 a0, .int .i64 a1, .slice Ao52 y343.length co52, u338003]) ?_ 3 _ rfl; (with_reducible repeat (first | refine blk_drewN ?_ _ | refine blk_drew ?_ | refine blk_alloc ?_ _)); exact BK337.out⟩, ⟨Qo0_⟩, ⟨by (with_reducible repeat (first | apply Kd.R_alloc | apply Kd.R_drewN | apply Kd.R_drew)); exact Kd.R_mono (Kd.R_far (p := ⟨gb337, 3, none⟩) (Kd.R_types HOR.out BK337.out (by decide)) (fun _ hk => hk.2) (.slice Ao58 y347.length co58)) (fun _ hk => hk.1)⟩⟩
                ·rw [if_neg c48] at H
                 exact absurd H (by simp)
               ·rw [if_neg c46] at H
                exact absurd H (by simp)
              ·rw [if_neg c45] at H
               exact absurd H (by simp)
             ·rw [if_neg c44] at H
              exact absurd H (by simp)
            ·rw [if_neg c43] at H
             have c43b0 := decide_eq_false c43
             clear c43
             simp only [Option.some.injEq, Prod.mk.injEq] at H
             obtain ⟨rfl, rfl, rfl, rfl, rfl⟩ := H
             have hnb60 := NB337_319.out
             have hnc60 := NB319_337.out
             have hcz61_0 : wr.cell? ⟨gb337, 0, none⟩ = some (.int .i64 a0) := (blk_cell BK337.out 0).trans rfl
             have hcz61_1 : wr.cell? ⟨gb337, 1, none⟩ = some (.int .i64 a1) := (blk_cell BK337.out 1).trans rfl
             have hcz61_2 : wr.cell? ⟨gb337, 2, none⟩ = some (u338002) := (blk_cell BK337.out 2).trans rfl
             have hcz61_3 : wr.cell? ⟨gb337, 3, none⟩ = some (u338003) := (blk_cell BK337.out 3).trans rfl
             have hfz61_0 := blk_frozen BK337.out 0
             have hfz61_1 := blk_frozen BK337.out 1
             have hfz61_2 := blk_frozen BK337.out 2
             have hfz61_3 := blk_frozen BK337.out 3
             have hcz62_0 : wr.cell? ⟨gb319, 0, none⟩ = some (.int .i64 0) := (blk_cell BK319.out 0).trans rfl
             have hcz62_1 : wr.cell? ⟨gb319, 1, none⟩ = some (.int .i64 0) := (blk_cell BK319.out 1).trans rfl
             have hcz62_2 : wr.cell? ⟨gb319, 2, none⟩ = some (.slice none 0 0) := (blk_cell BK319.out 2).trans rfl
             have hcz62_3 : wr.cell? ⟨gb319, 3, none⟩ = some (.slice none 0 0) := (blk_cell BK319.out 3).trans rfl
             have hfz62_0 := blk_frozen BK319.out 0
             have hfz62_1 := blk_frozen BK319.out 1
             have hfz62_2 := blk_frozen BK319.out 2
             have hfz62_3 := blk_frozen BK319.out 3
             obtain ⟨Ao63, co63, eo63⟩ := Kd.R_slice HO_338002.out
             subst eo63
             obtain ⟨Ao64, co64, eo64⟩ := Kd.R_slice HO_338003.out
             subst eo64
             go_wp2
             refine bodyPost_ret (results_ct rfl _ _ gb319 98 #[.int .i64 a0, .int .i64 a1, .slice Ao63 x338002_2.length co63, .slice Ao64 x338003_2.length co64] (0, 0) _ rfl (by (with_reducible repeat (first | refine blk_drewN ?_ _ | refine blk_drew ?_ | refine blk_alloc ?_ _)); refine blk_put (cs := #[.int .i64 a0, .int .i64 a1, .slice Ao63 x338002_2.length co63, .slice none 0 0]) ?_ 3 _ rfl; (with_reducible repeat (first | refine blk_drewN ?_ _ | refine blk_drew ?_ | refine blk_alloc ?_ _)); refine blk_put (cs := #[.int .i64 a0, .int .i64 a1, .slice none 0 0, .slice none 0 0]) ?_ 2 _ rfl; (with_reducible repeat (first | refine blk_drewN ?_ _ | refine blk_drew ?_ | refine blk_alloc ?_ _)); refine blk_put (cs := #[.int .i64 a0, .int .i64 0, .slice none 0 0, .slice none 0 0]) ?_ 1 _ rfl; (with_reducible repeat (first | refine blk_drewN ?_ _ | refine blk_drew ?_ | refine blk_alloc ?_ _)); refine blk_put (cs := #[.int .i64 0, .int .i64 0, .slice none 0 0, .slice none 0 0]) ?_ 0 _ rfl; (with_reducible repeat (first | refine blk_drewN ?_ _ | refine blk_drew ?_ | refine blk_alloc ?_ _)); exact BK319.out) Tryz.underlying98 rfl Ql0_) rfl ?_
             exact ⟨_, _, by first | rfl | (simp [errW_none, errW_some] <;> rfl) | (simp only [← hji11, ← hji13, ← hji26]; first | rfl | (simp [errW_none, errW_some] <;> rfl)) | (simp [*, errW_none, errW_some] <;> rfl), by (with_reducible repeat (first | apply Kd.R_alloc | apply Kd.R_drewN | apply Kd.R_drew)); exact Kd.R_mono (Kd.R_far (p := ⟨gb319, 3, none⟩) (Kd.R_far (p := ⟨gb319, 2, none⟩) (Kd.R_far (p := ⟨gb319, 1, none⟩) (Kd.R_far (p := ⟨gb319, 0, none⟩) (Kd.R_types HO_338002.out BK319.out (by decide)) (fun _ hk => hk.2) (.int .i64 a0)) (fun _ hk => hk.2) (.int .i64 a1)) (fun _ hk => hk.2) (.slice Ao63 x338002_2.length co63)) (fun _ hk => hk.2) (.slice Ao64 x338003_2.length co64)) (fun _ hk => hk.1), by (with_reducible repeat (first | apply Kd.R_alloc | apply Kd.R_drewN | apply Kd.R_drew)); exact Kd.R_mono (Kd.R_far (p := ⟨gb319, 3, none⟩) (Kd.R_far (p := ⟨gb319, 2, none⟩) (Kd.R_far (p := ⟨gb319, 1, none⟩) (Kd.R_far (p := ⟨gb319, 0, none⟩) (Kd.R_types HO_338003.out BK319.out (by decide)) (fun _ hk => hk.2) (.int .i64 a0)) (fun _ hk => hk.2) (.int .i64 a1)) (fun _ hk => hk.2) (.slice Ao63 x338002_2.length co63)) (fun _ hk => hk.2) (.slice Ao64 x338003_2.length co64)) (fun _ hk => hk.1), Qo0_⟩
         ·rw [if_neg c28] at H
          exact absurd H (by simp)
        ·rw [if_neg c27] at H
         exact absurd H (by simp)
      ·rw [if_neg c15] at H
       exact absurd H (by simp)
     ·rw [if_neg c14] at H
      exact absurd H (by simp)
    ·rw [if_neg c10] at H
     exact absurd H (by simp)
def setAt (w : World) (m : Nat) (ks : List ByteArray) : Prop := ∃ n, n ≤ ks.length ∧ w.ownsMap Tryz.prog 9 (plainElem (H := Unit) Tryz.prog 4) m n (Go.Maps.setOf (.lit (.bool true)) (ks.map fun x => .string x.data.toList))
theorem set_made (w : World) : setAt (w.alloc (.map #[] 0)) w.heap.size [] := ⟨0, Nat.le_refl _, World.ownsMap_made _ _ _ _⟩
theorem set_lt {w : World} {m : Nat} {ks : List ByteArray} (h : setAt w m ks) : m < w.heap.size := by
 obtain ⟨n, h1, h2⟩ := h
 exact h2.lt
theorem set_below {w w1 : World} {m : Nat} {ks : List ByteArray} (h : setAt w m ks) (hm : w1.heap[m]? = w.heap[m]?) : setAt w1 m ks := by
 obtain ⟨n, h1, es, clock, hb, F, hs, hD⟩ := h
 exact ⟨n, h1, es, clock, hm.trans hb, F, hs, hD⟩
theorem set_put {w : World} {m : Nat} {ks : List ByteArray} (h : setAt w m ks) (hk : ks.length < 1000000) (x : ByteArray) (hx : x.size ≤ maxLen) :
 ∃ w1, (Instr.mapUpdate 176 (.map (some m)) (.string x) (.bool true)).run Tryz.prog w = .ok () w1 ∧ setAt w1 m (ks ++ [x]) ∧ w.grownBy w1 (some m) := by
 obtain ⟨n, h1, h2⟩ := h
 obtain ⟨w1, e1, e2, e3⟩ := h2.update (Go.Maps.string_keyed Tryz.underlying9) Tryz.underlying176 (by unfold maxLen; omega) (key := .string x) (val := .bool true) (kl := .string x.data.toList) (d := .lit (.bool true)) (ps := []) (Go.WideMaps.keyOf_string_mk Tryz.underlying9 hx) (plainElem_bool Tryz.underlying4 true)
 refine ⟨w1, e1, ⟨n + 1, Qf1_, ?_⟩, e3⟩
 rw [List.map_append, List.map_singleton, Go.Maps.setOf_snoc]
 exact e2
def hasT (ks : List ByteArray) (x : ByteArray) : Bool := ks.any fun y => y.data.toList == x.data.toList
theorem set_fold (x : ByteArray) (z : DataW Unit) : ∀ (ks : List ByteArray) (D : DataW Unit), Go.Maps.IsMap D → (ks.foldl (fun m y => m.put (.string y.data.toList) (.lit (.bool true))) D).atKey (.string x.data.toList) z = if hasT ks x = true then .lit (.bool true) else D.atKey (.string x.data.toList) z
 | [], D, _ => rfl
 | y :: r, D, hD => by
  rw [List.foldl_cons, set_fold x z r _ (hD.put _ _)]
  unfold hasT
  rw [List.any_cons]
  by_cases h : y.data.toList = x.data.toList
  ·rw [h, Go.Maps.atKey_put_same hD (by first | trivial | exact ⟨_, rfl⟩ | simp [Go.WideAt.IsKeyLit]), beq_self_eq_true, Bool.true_or]
   split <;> rfl
  ·rw [Go.Maps.atKey_put_other (fun e => h (by injection e with e; exact e.symm)), beq_eq_false_iff_ne.2 h, Bool.false_or]
theorem set_at (ks : List ByteArray) (x : ByteArray) : (Go.Maps.setOf (H := Unit) (.lit (.bool true)) (ks.map fun x => .string x.data.toList)).atKey (.string x.data.toList) (.lit (.bool false)) = .lit (.bool (hasT ks x)) := by
 unfold Go.Maps.setOf
 rw [List.foldl_map, set_fold x _ ks _ Go.Maps.isMap_empty]
 cases hasT ks x <;> rfl
theorem plain_bool_inv {P : Program} {e : TypeId} (he : P.underlying e = some .bool) {v : Value} {b : Bool} {ps : List MemPlace} (h : plainElem (H := Unit) P e v = some (.lit (.bool b), ps)) : v = .bool b := by
 unfold plainElem at h
 rw [he] at h
 cases v <;> simp at h
 rw [h.1]
theorem set_get {w : World} {m : Nat} {ks : List ByteArray} (h : setAt w m ks) (x : ByteArray) (hx : x.size ≤ maxLen) : (Instr.lookup 176 (.map (some m)) (.string x) false).run Tryz.prog w = .ok (.bool (hasT ks x)) w := by
 obtain ⟨n, h1, h2⟩ := h
 obtain ⟨v, ps, e1, e2⟩ := h2.lookup (Go.Maps.string_keyed Tryz.underlying9) Tryz.underlying176 (z := .bool false) (Tryz.zeroValue4 _) (plainElem_bool Tryz.underlying4 false) (key := .string x) (kl := .string x.data.toList) (Go.WideMaps.keyOf_string_mk Tryz.underlying9 hx)
 rw [set_at] at e2
 have e3 := plain_bool_inv Tryz.underlying4 e2
 subst e3
 exact e1
def impl_BlockCode_areWords.l0 : Nat → Int → Int → List ByteArray → List ByteArray → Int → Option Bool
 | 0, _, _, _, _, _ => none
 | k + 1, wd, ot, xs, ks, i => if i < (xs.length : Int) then (if 0 ≤ i then ((impl_disparity.f (rdOf ByteArray.empty xs i)).bind fun d => (if ((rdOf ByteArray.empty xs i).size : Int) = wd then (if wd ≤ 1000 ∧ ks.length < 1000 then ((impl_areBits.f (rdOf ByteArray.empty xs i)).bind fun t => (if t = true then (if d ≠ 0 ∧ d ≠ ot then (some false) else (if hasT ks (rdOf ByteArray.empty xs i) = true then (some false) else (impl_BlockCode_areWords.l0 k wd ot xs (ks ++ [(rdOf ByteArray.empty xs i)]) (wrap64 (i + 1))))) else (some false))) else (none)) else (some false))) else (none)) else (some true)
def impl_BlockCode_areWords.f (k : Nat) (a0_0 a0_1 : Int) (l0_2 l0_3 l1 : List ByteArray) (a2 : Int) : Option Bool := if 0 ≤ a0_0 ∧ a0_0 ≤ 60 then (if (l1.length : Int) = shl .i64 1 a0_0 then (impl_BlockCode_areWords.l0 k a0_1 a2 l1 [] 0) else (some false)) else none
def AwI (w w' : World) (m gb : Nat) (cs : Array Value) (ks : List ByteArray) : Prop := setAt w' m ks ∧ w'.heap[gb]? = some (.cells cs 98 (0, 0)) ∧ Below w.heap.size w w' ∧ w.heap.size ≤ m ∧ gb ≠ m
theorem AwI.start {w w3 : World} {gb : Nat} {cs : Array Value} (hB : Below w.heap.size w w3) (hb : w3.heap[gb]? = some (.cells cs 98 (0, 0))) : AwI w (w3.alloc (.map #[] 0)) w3.heap.size gb cs [] :=
 ⟨set_made w3, ((below_alloc (Below.refl w3.heap.size w3) _).block gb (blk_lt hb)).trans hb, hB.alloc hB.size _, hB.size, Nat.ne_of_lt (blk_lt hb)⟩
theorem aw_drew {w w1 : World} {n : Nat} (h : Below (w.drewN n).heap.size (w.drewN n) w1) : Below w.heap.size w w1 := ⟨h.os, h.tape, h.output, h.size, h.block⟩
theorem AwI.below {w w1 w2 : World} {m gb : Nat} {cs : Array Value} {ks : List ByteArray} (h : AwI w w1 m gb cs ks) (hB : Below w1.heap.size w1 w2) : AwI w w2 m gb cs ks :=
 ⟨set_below h.1 (hB.block m (set_lt h.1)), (hB.block gb (blk_lt h.2.1)).trans h.2.1, below_step h.2.2.1 hB, h.2.2.2⟩
theorem AwI.put {w w1 w2 : World} {m gb : Nat} {cs : Array Value} {ks ks2 : List ByteArray} (h : AwI w w1 m gb cs ks) (hs : setAt w2 m ks2) (hg : w1.grownBy w2 (some m)) : AwI w w2 m gb cs ks2 :=
 ⟨hs, (hg.block gb (blk_lt h.2.1) (fun e => h.2.2.2.2 (by injection e))).trans h.2.1, h.2.2.1.grown hg h.2.2.1.size (fun k e => by cases e; exact h.2.2.2.1), h.2.2.2⟩
set_option maxHeartbeats 8000000 in
set_option maxRecDepth 100000 in
theorem impl_BlockCode_areWords.calls (k : Nat) (a0_0 : Int) (a0_1 : Int) (A0_2 : Option Addr) (c0_2 : Nat) (l0_2 : List ByteArray) (A0_3 : Option Addr) (c0_3 : Nat) (l0_3 : List ByteArray) (A1 : Option Addr) (c1 : Nat) (l1 : List ByteArray) (a2 : Int) (r : Bool) (w : World) (hr0_2 : Kd.C Kd.string w A0_2 l0_2.length l0_2) (hc0_2 : l0_2.length ≤ c0_2) (hr0_3 : Kd.C Kd.string w A0_3 l0_3.length l0_3) (hc0_3 : l0_3.length ≤ c0_3) (hr1 : Kd.C Kd.string w A1 l1.length l1) (hc1 : l1.length ≤ c1) (h : impl_BlockCode_areWords.f k a0_0 a0_1 l0_2 l0_3 l1 a2 = some r) :
 Calls Tryz.prog 132 #[.agg #[.int .i64 a0_0, .int .i64 a0_1, .slice A0_2 l0_2.length c0_2, .slice A0_3 l0_3.length c0_3], .slice A1 l1.length c1, .int .i64 a2] w fun e w' => e = .returned (.bool r) ∧ Below w.heap.size w w' := by
 have hu66 := Tryz.underlying98
 have HR1 := Aside0.mk hr1
 have HB := Aside0.mk (Below.refl w.heap.size w)
 clear hr0_2 hc0_2 hr0_3 hc0_3 hr1 hc1
 unfold impl_BlockCode_areWords.f at h
 by_cases c0 : 0 ≤ a0_0 ∧ a0_0 ≤ 60
 rotate_left
 ·rw [if_neg c0] at h; cases h
 rw [if_pos c0] at h
 have c0b0 := eq_true c0.1
 have c0b1 : decide (0 ≤ a0_0) = true := decide_eq_true c0.1
 have c064 : a0_0 ≤ 64 := by omega
 have c064t := eq_true c064
 clear c0
 obtain ⟨ji, hji⟩ : ∃ j_ : Int, (shl .i64 1 a0_0) = j_ := ⟨_, rfl⟩
 rw [hji] at h
 have hji_ : (IntKind.i64.wrap (1 * 2 ^ min a0_0.toNat 64)) = ji := hji
 have hjiz : (IntKind.i64.wrap (1 * 2 ^ a0_0.toNat)) = ji := shl_small hji c064
 have hjiu : (IntKind.i64.wrap (2 ^ min a0_0.toNat 64)) = ji := by have h_ := hji_; rw [Int.one_mul] at h_; exact h_
 have hjiv : (IntKind.i64.wrap (2 ^ a0_0.toNat)) = ji := by have h_ := hjiz; rw [Int.one_mul] at h_; exact h_
 have hjiy : (wrap64 (1 * 2 ^ min a0_0.toNat 64)) = ji := (i64_w _).symm.trans hji_
 have hjix : (wrap64 (1 * 2 ^ a0_0.toNat)) = ji := (i64_w _).symm.trans hjiz
 clear c064 hji
 by_cases c1 : (l1.length : Int) = ji
 rotate_left
 ·rw [if_neg c1] at h
  obtain rfl := Option.some.inj h
  have c1b0 : ((l1.length : Int) != ji) = true := bne_iff_ne.2 c1
  have c1b1 : ((l1.length : Int) == ji) = false := beq_eq_false_iff_ne.2 c1
  clear c1
  go_enter Tryz.func132, Tryz.ntmps132
  go_wp2_with (first | ((with_reducible refine gate_dst (N := 3) rfl ?_); (try (refine gate_guard (by rfl) ?_; dsimp only)); refine box_event ?hg (N := 3) ?hd (cs := #[.int .i64 a0_0, .int .i64 a0_1, .slice A0_2 l0_2.length c0_2, .slice A0_3 l0_3.length c0_3]) (t := 98) ?hr ?_; (case hd => rfl); (case hg => rfl); (case hr => exact Qj0_); intro gb hgb w3 hbox hb; have n0_ := Aside0.mk (below_step Qa0_ hb); have n1_ := Aside0.mk (hbox); clear HB; have HB := n0_; have BK := n1_; clear n0_ n1_; clear hb hbox hgb; have hcz0 : w3.cell? ⟨gb, 0, none⟩ = some (.int .i64 a0_0) := (blk_cell BK.out 0).trans rfl; have hcz1 : w3.cell? ⟨gb, 1, none⟩ = some (.int .i64 a0_1) := (blk_cell BK.out 1).trans rfl))
  go_ret
  exact ⟨rfl, Qa0_⟩
 rw [if_pos c1] at h
 have c1b0 : ((l1.length : Int) != ji) = false := by rw [c1, bne_self_eq_false]
 have c1b1 : ((l1.length : Int) == ji) = true := beq_iff_eq.2 c1
 clear c1
 have H' := Aside0.mk h
 clear h
 go_enter Tryz.func132, Tryz.ntmps132
 have hmm := @run_makeMap Tryz.prog
 go_wp2_with (first | ((with_reducible refine gate_dst (N := 3) rfl ?_); (try (refine gate_guard (by rfl) ?_; dsimp only)); refine box_event ?hg (N := 3) ?hd (cs := #[.int .i64 a0_0, .int .i64 a0_1, .slice A0_2 l0_2.length c0_2, .slice A0_3 l0_3.length c0_3]) (t := 98) ?hr ?_; (case hd => rfl); (case hg => rfl); (case hr => exact Qj0_); intro gb hgb w3 hbox hb; have n0_ := Aside0.mk (below_step Qa0_ hb); have n1_ := Aside0.mk (hbox); clear HB; have HB := n0_; have BK := n1_; clear n0_ n1_; clear hb hbox hgb; have hcz0 : w3.cell? ⟨gb, 0, none⟩ = some (.int .i64 a0_0) := (blk_cell BK.out 0).trans rfl; have hcz1 : w3.cell? ⟨gb, 1, none⟩ = some (.int .i64 a0_1) := (blk_cell BK.out 1).trans rfl))
 have HI := Aside0.mk (AwI.start HB.out BK.out)
 obtain ⟨m, hm⟩ : ∃ x : Nat, x = w3.heap.size := ⟨_, rfl⟩
 rw [← hm] at HI
 rw [show (Value.map (some w3.heap.size)) = .map (some m) from by rw [hm]]
 clear hm HB BK hcz0 hcz1
 go_loopg [20] k (fun kq v20 w' => ∃ (i : Int) (ks : List ByteArray), v20 = .int .i64 i ∧ Aside0 (impl_BlockCode_areWords.l0 kq a0_1 a2 l1 ks i = some r) ∧ Aside0 (kq ≤ k) ∧ Aside0 (AwI w w' m gb #[.int .i64 a0_0, .int .i64 a0_1, .slice A0_2 l0_2.length c0_2, .slice A0_3 l0_3.length c0_3] ks))
 case atStart => exact ⟨0, [], Qf0_, H', ⟨Nat.le_refl _⟩, HI⟩
 case round =>
  clear H' HI
  try clear c0b0 c0b1 c064t hji_ hjiz hjiu hjiv hjiy hjix c1b0 c1b1
  obtain ⟨i, ks, rfl, HA, HK1, HI⟩ := hrel
  cases gk with
  | zero => exact absurd HA.out (by simp [impl_BlockCode_areWords.l0])
  | succ k1 =>
   have H := HA.out
   clear HA
   simp only [impl_BlockCode_areWords.l0] at H
   by_cases c2 : i < (l1.length : Int)
   rotate_left
   ·rw [if_neg c2] at H
    obtain rfl := Option.some.inj H
    have c2b0 := decide_eq_false c2
    clear c2
    go_wp2
    go_ret
    exact ⟨Qf0_, HI.out.2.2.1⟩
   rw [if_pos c2] at H
   have c2b0 := decide_eq_true c2
   by_cases c3 : 0 ≤ i
   rotate_left
   ·rw [if_neg c3] at H
    exact absurd H (by simp)
   rw [if_pos c3] at H
   obtain ⟨d, A1, H⟩ := Option.bind_eq_some_iff.mp H
   have A1_ := Aside0.mk A1
   clear A1
   obtain ⟨ad1, e1, hx1⟩ := Kd.at_string (Kd.C_below HR1.out HI.out.2.2.1) i c3 c2
   cases e1
   have p1 := eq_true c3
   have q1 := eq_true c2
   clear c2 c3
   obtain ⟨x, hx⟩ : ∃ x : ByteArray, x = rdOf ByteArray.empty l1 i := ⟨_, rfl⟩
   rw [← hx] at H A1_ hx1
   clear hx
   have hcz1 : wr.cell? ⟨gb, 1, none⟩ = some (.int .i64 a0_1) := (blk_cell HI.out.2.1 1).trans rfl
   by_cases c4 : (x.size : Int) = a0_1
   rotate_left
   ·rw [if_neg c4] at H
    obtain rfl := Option.some.inj H
    have c4b0 : ((x.size : Int) != a0_1) = true := bne_iff_ne.2 c4
    have c4b1 : ((x.size : Int) == a0_1) = false := beq_eq_false_iff_ne.2 c4
    clear c4
    go_wp2_with (first | (go_at_call 131; (with_reducible refine (impl_disparity.calls x d _ A1_.out).mono ?_); rintro e w' ⟨rfl, ⟨nd, rfl⟩⟩))
    go_ret
    exact ⟨Qf0_, pw_below_drewN HI.out.2.2.1 _⟩
   rw [if_pos c4] at H
   have c4b0 : ((x.size : Int) != a0_1) = false := by rw [c4, bne_self_eq_false]
   have c4b1 : ((x.size : Int) == a0_1) = true := beq_iff_eq.2 c4
   by_cases c5 : a0_1 ≤ 1000 ∧ ks.length < 1000
   rotate_left
   ·rw [if_neg c5] at H
    exact absurd H (by simp)
   rw [if_pos c5] at H
   have HK := Aside0.mk (show x.size ≤ maxLen ∧ ks.length < 1000000 by unfold maxLen; omega)
   clear c4 c5
   obtain ⟨t, A2, H⟩ := Option.bind_eq_some_iff.mp H
   have A2_ := Aside0.mk A2
   clear A2
   cases t with
   | false =>
    try dsimp only at H
    obtain rfl := Option.some.inj H
    go_wp2_with (first | (go_at_call 131; (with_reducible refine (impl_disparity.calls x d _ A1_.out).mono ?_); rintro e w' ⟨rfl, ⟨nd, rfl⟩⟩) | (go_at_call 34; (with_reducible refine (impl_areBits.calls x false _ A2_.out).mono ?_); rintro e w4 ⟨rfl, hb4⟩; have HI2 := Aside0.mk (AwI.below HI.out (aw_drew hb4)); clear hb4; have hlk := set_get HI2.out.1 x HK.out.1; (try rw [HIN.out] at hlk); (try (obtain ⟨w5, hup, hS, hg⟩ := set_put HI2.out.1 HK.out.2 x HK.out.1; have HI3 := Aside0.mk (AwI.put HI2.out hS hg); clear hS hg))))
    go_ret
    exact ⟨Qf0_, HI2.out.2.2.1⟩
   | true =>
    rw [if_pos rfl] at H
    by_cases c6 : d ≠ 0 ∧ d ≠ a2
    ·rw [if_pos c6] at H
     obtain rfl := Option.some.inj H
     have c6b0 : (d != 0) = true := bne_iff_ne.2 c6.1
     have c6b1 : (d != a2) = true := bne_iff_ne.2 c6.2
     clear c6
     go_wp2_with (first | (go_at_call 131; (with_reducible refine (impl_disparity.calls x d _ A1_.out).mono ?_); rintro e w' ⟨rfl, ⟨nd, rfl⟩⟩) | (go_at_call 34; (with_reducible refine (impl_areBits.calls x true _ A2_.out).mono ?_); rintro e w4 ⟨rfl, hb4⟩; have HI2 := Aside0.mk (AwI.below HI.out (aw_drew hb4)); clear hb4; have hlk := set_get HI2.out.1 x HK.out.1; (try rw [HIN.out] at hlk); (try (obtain ⟨w5, hup, hS, hg⟩ := set_put HI2.out.1 HK.out.2 x HK.out.1; have HI3 := Aside0.mk (AwI.put HI2.out hS hg); clear hS hg))))
     go_ret
     exact ⟨Qf0_, HI2.out.2.2.1⟩
    rw [if_neg c6] at H
    have c6s : ((d != 0) = false ∧ (d == 0) = true) ∨ ((d != 0) = true ∧ (d == 0) = false ∧ (d != a2) = false ∧ (d == a2) = true) := by
     by_cases e : d = 0
     ·exact .inl ⟨by rw [e]; rfl, by rw [e]; rfl⟩
     ·have e2 : d = a2 := Classical.byContradiction fun e2 => c6 ⟨e, e2⟩
      exact .inr ⟨bne_iff_ne.2 e, beq_eq_false_iff_ne.2 e, by rw [e2, bne_self_eq_false], beq_iff_eq.2 e2⟩
    clear c6
    rcases hin : hasT ks x with _ | _
    ·rw [hin, if_neg (by decide)] at H
     have H' := Aside0.mk H
     clear H
     have HIN := Aside0.mk hin
     clear hin
     rcases c6s with ⟨s1, s2⟩ | ⟨s1, s2, s3, s4⟩ <;> (
      go_wp2_with (first | (go_at_call 131; (with_reducible refine (impl_disparity.calls x d _ A1_.out).mono ?_); rintro e w' ⟨rfl, ⟨nd, rfl⟩⟩) | (go_at_call 34; (with_reducible refine (impl_areBits.calls x true _ A2_.out).mono ?_); rintro e w4 ⟨rfl, hb4⟩; have HI2 := Aside0.mk (AwI.below HI.out (aw_drew hb4)); clear hb4; have hlk := set_get HI2.out.1 x HK.out.1; (try rw [HIN.out] at hlk); (try (obtain ⟨w5, hup, hS, hg⟩ := set_put HI2.out.1 HK.out.2 x HK.out.1; have HI3 := Aside0.mk (AwI.put HI2.out hS hg); clear hS hg))))
      go_roundg k1
      case measure => have := HK1.out; omega
      case rel => exact ⟨(wrap64 (i + 1)), (ks ++ [x]), Qf0_, H', ⟨Qs0_⟩, HI3⟩)
    ·rw [hin, if_pos rfl] at H
     obtain rfl := Option.some.inj H
     have HIN := Aside0.mk hin
     clear hin
     rcases c6s with ⟨s1, s2⟩ | ⟨s1, s2, s3, s4⟩ <;> (
      go_wp2_with (first | (go_at_call 131; (with_reducible refine (impl_disparity.calls x d _ A1_.out).mono ?_); rintro e w' ⟨rfl, ⟨nd, rfl⟩⟩) | (go_at_call 34; (with_reducible refine (impl_areBits.calls x true _ A2_.out).mono ?_); rintro e w4 ⟨rfl, hb4⟩; have HI2 := Aside0.mk (AwI.below HI.out (aw_drew hb4)); clear hb4; have hlk := set_get HI2.out.1 x HK.out.1; (try rw [HIN.out] at hlk); (try (obtain ⟨w5, hup, hS, hg⟩ := set_put HI2.out.1 HK.out.2 x HK.out.1; have HI3 := Aside0.mk (AwI.put HI2.out hS hg); clear hS hg))))
      go_ret
      exact ⟨Qf0_, HI2.out.2.2.1⟩)
end Go.Proofs.YtdaeioklcilipaaGreatDoor.QFnConsole
