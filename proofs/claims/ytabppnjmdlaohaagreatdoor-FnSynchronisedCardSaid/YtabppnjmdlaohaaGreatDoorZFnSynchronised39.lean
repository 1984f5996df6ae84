/- A text of this claim, made small by a program of this session (wip/pack.py): lemmas and contracts that the law's row leans on. -/
import Derived.Test.YtabppnjmdlaohaaGreatDoorZFnSynchronised25
import Derived.Test.YtabppnjmdlaohaaGreatDoorZFnSynchronised26
import Derived.Test.YtabppnjmdlaohaaGreatDoorZFnSynchronised27
import Derived.Test.YtabppnjmdlaohaaGreatDoorZFnSynchronised28
import Derived.Test.YtabppnjmdlaohaaGreatDoorZFnSynchronised32
import Derived.Test.YtabppnjmdlaohaaGreatDoorZFnSynchronised33
import Derived.Test.YtabppnjmdlaohaaGreatDoorZFnSynchronised35
import Derived.Test.YtabppnjmdlaohaaGreatDoorZFnSynchronised37
import Derived.Test.YtabppnjmdlaohaaGreatDoorZFnSynchronised38
namespace Go.Proofs.YtabppnjmdlaohaaGreatDoor.QFnSynchronised
open Go.RowKit Go.Proofs.YtabppnjmdlaohaaGreatDoorW.PrintWords Go.Proofs.YtabppnjmdlaohaaGreatDoorW.PrintLast Go.Proofs.YtabppnjmdlaohaaGreatDoorW.PrintMore
attribute [local go_sem] max2_int min2_int max_two min_two max_three min_three max_four min_four
set_option linter.unusedVariables false
set_option linter.unusedSimpArgs false
mutual
def laws_FnSynchronised.j0 : Nat → List Int → Int → List ByteArray → ByteArray → Bool → Bool → Option (Bool)
 | 0, _, _, _, _, _, _ => none
 | k + 1, x1, x5, x6, x7, x8, x62 => if x62 = true then (some false) else (laws_FnSynchronised.l0 k x1 x5 x6 x7 x8 0)
def laws_FnSynchronised.l0 : Nat → List Int → Int → List ByteArray → ByteArray → Bool → Int → Option (Bool)
 | 0, _, _, _, _, _, _ => none
 | k + 1, x1, x5, x6, x7, x8, x11 => if x8 = true then (laws_FnSynchronised.j2 k x1 x5 x6 x7 x8 x11 (decide (x11 < (x6.length : Int)))) else (laws_FnSynchronised.j2 k x1 x5 x6 x7 x8 x11 false)
def laws_FnSynchronised.j2 : Nat → List Int → Int → List ByteArray → ByteArray → Bool → Int → Bool → Option (Bool)
 | 0, _, _, _, _, _, _, _ => none
 | k + 1, x1, x5, x6, x7, x8, x11, x69 => if x69 = true then (laws_FnSynchronised.l1 k x1 x5 x6 x7 x8 x11 0) else ((spec_B10Symbols.f k x1 x5).bind fun t322 => (laws_FnSynchronised.l2 k x1 x6 t322 (⟨#[]⟩ : ByteArray) (([] : List Int)) 0))
def laws_FnSynchronised.l1 : Nat → List Int → Int → List ByteArray → ByteArray → Bool → Int → Int → Option (Bool)
 | 0, _, _, _, _, _, _, _ => none
 | k + 1, x1, x5, x6, x7, x8, x11, x12 => if 0 ≤ x11 then (if x11 < (x6.length : Int) then (if x12 < ((rdOf ByteArray.empty x6 x11).size : Int) then (if 0 ≤ x12 then (if x12 ≤ ((rdOf ByteArray.empty x6 x11).size : Int) then (if ((rdOf ByteArray.empty x6 x11).extract 0 (x12 : Int).toNat).size + x7.size ≤ 9223372036854775807 then ((spec_ParsesOf.f k x6 (((rdOf ByteArray.empty x6 x11).extract 0 (x12 : Int).toNat) ++ x7)).bind fun bt320 => (if bt320.2 = true then (if bt320.1 = 1 then (laws_FnSynchronised.l1 k x1 x5 x6 x7 x8 x11 (wrap64 (x12 + 1))) else (some false)) else (some false))) else (none)) else (none)) else (none)) else (laws_FnSynchronised.l0 k x1 x5 x6 x7 x8 (wrap64 (x11 + 1)))) else (none)) else (none)
def laws_FnSynchronised.l2 : Nat → List Int → List ByteArray → List Int → ByteArray → List Int → Int → Option (Bool)
 | 0, _, _, _, _, _, _ => none
 | k + 1, x1, x6, x15, x16, x17, x18 => if x18 < (x15.length : Int) then (if 0 ≤ x18 then (if 0 ≤ (rd x15 x18) then (if (rd x15 x18) < (x6.length : Int) then (if x16.size + (rdOf ByteArray.empty x6 (rd x15 x18)).size ≤ 9223372036854775807 then (if x17.length < 17592186044416 then (laws_FnSynchronised.l2 k x1 x6 x15 (x16 ++ (rdOf ByteArray.empty x6 (rd x15 x18))) (x17 ++ [((x16 ++ (rdOf ByteArray.empty x6 (rd x15 x18))).size : Int)]) (wrap64 (x18 + 1))) else (none)) else (none)) else (none)) else (none)) else (none)) else (if x16.toList = ([] : List UInt8) then (some true) else ((laws_b10At.f x1 1 (x16.size : Int)).bind fun t333 => ((impl_FlipLoss.f k x6 x15 t333).bind fun bt334 => ((spec_FlipLoss.f k x6 x15 t333).bind fun bt337 => (if (bt334.2.2 != bt337.2.2) = true then (some false) else (if bt334.2.2 = true then (laws_FnSynchronised.l3 k x16 x17 t333 bt334.1 bt334.2.1 0 0) else (some true)))))))
def laws_FnSynchronised.l3 : Nat → ByteArray → List Int → Int → Int → Int → Int → Int → Option (Bool)
 | 0, _, _, _, _, _, _, _ => none
 | k + 1, x16, x17, x19, x20, x21, x26, x27 => if x27 < (x17.length : Int) then (if 0 ≤ x27 then (if (rd x17 x27) > x19 then (if (rd x17 x27) ≤ x21 then (laws_FnSynchronised.l3 k x16 x17 x19 x20 x21 (wrap64 (x26 + 1)) (wrap64 (x27 + 1))) else (laws_FnSynchronised.l3 k x16 x17 x19 x20 x21 x26 (wrap64 (x27 + 1)))) else (laws_FnSynchronised.l3 k x16 x17 x19 x20 x21 x26 (wrap64 (x27 + 1)))) else (none)) else (if x21 > x19 then (if x21 ≤ (x16.size : Int) then ((laws_b10Has.f k x17 x21).bind fun t342 => (if t342 = true then (if x26 = x20 then (some (decide (x20 ≥ 1))) else (some false)) else (some false))) else (some false)) else (some false))
end
def laws_FnSynchronised.f (k : Nat) (l0 : List Int) (l1 : List Int) : Option (Bool) := (laws_b10Long.f l0 l1).bind fun t308 => (if t308 = true then (some true) else ((laws_b10At.f l0 0 7).bind fun t309 => ((spec_B10Complete.f k l0 (wrap64 (2 + t309))).bind fun t310 => ((impl_SyncWord.f k t310).bind fun bt313 => ((spec_SyncWord.f k t310).bind fun bt315 => (if (bt313.2 != bt315.2) = true then (laws_FnSynchronised.j0 k l1 (wrap64 (2 + t309)) t310 bt313.1 bt313.2 true) else ((impl_IsCompleteCode.f k t310).bind fun t317 => (if t317 = true then (if bt313.2 = true then (laws_FnSynchronised.j0 k l1 (wrap64 (2 + t309)) t310 bt313.1 bt313.2 ((bt313.1.size : Int) == 0)) else (laws_FnSynchronised.j0 k l1 (wrap64 (2 + t309)) t310 bt313.1 bt313.2 false)) else (laws_FnSynchronised.j0 k l1 (wrap64 (2 + t309)) t310 bt313.1 bt313.2 true)))))))))
set_option maxHeartbeats 8000000 in
set_option maxRecDepth 100000 in
theorem laws_FnSynchronised.calls (k : Nat) (A0 : Option Addr) (c0 : Nat) (l0 : List Int) (A1 : Option Addr) (c1 : Nat) (l1 : List Int) (r : Bool) (w : World) (hr0 : Kd.C (Kd.int .u8) w A0 l0.length l0) (hc0 : l0.length ≤ c0) (hr1 : Kd.C (Kd.int .u8) w A1 l1.length l1) (hc1 : l1.length ≤ c1) (h : laws_FnSynchronised.f k l0 l1 = some r) :
 Calls Tryz.prog 3 #[.slice A0 l0.length c0, .slice A1 l1.length c1] w fun e w' => e = .returned (.bool r) ∧ Below w.heap.size w w' := by
 have HR0 := Aside0.mk hr0
 have HC0 := Aside0.mk hc0
 clear hr0 hc0
 have HR1 := Aside0.mk hr1
 have HC1 := Aside0.mk hc1
 clear hr1 hc1
 have HB := Aside0.mk (Below.refl w.heap.size w)
 have H : ((laws_b10Long.f l0 l1).bind fun t308 => (if t308 = true then (some true) else ((laws_b10At.f l0 0 7).bind fun t309 => ((spec_B10Complete.f k l0 (wrap64 (2 + t309))).bind fun t310 => ((impl_SyncWord.f k t310).bind fun bt313 => ((spec_SyncWord.f k t310).bind fun bt315 => (if (bt313.2 != bt315.2) = true then (laws_FnSynchronised.j0 k l1 (wrap64 (2 + t309)) t310 bt313.1 bt313.2 true) else ((impl_IsCompleteCode.f k t310).bind fun t317 => (if t317 = true then (if bt313.2 = true then (laws_FnSynchronised.j0 k l1 (wrap64 (2 + t309)) t310 bt313.1 bt313.2 ((bt313.1.size : Int) == 0)) else (laws_FnSynchronised.j0 k l1 (wrap64 (2 + t309)) t310 bt313.1 bt313.2 false)) else (laws_FnSynchronised.j0 k l1 (wrap64 (2 + t309)) t310 bt313.1 bt313.2 true)))))))))) = some r := h
 clear h
 replace H := Option.bind_eq_some_iff.mp H
 obtain ⟨t308, A30, H⟩ := H
 replace H : (if t308 = true then (some true) else ((laws_b10At.f l0 0 7).bind fun t309 => ((spec_B10Complete.f k l0 (wrap64 (2 + t309))).bind fun t310 => ((impl_SyncWord.f k t310).bind fun bt313 => ((spec_SyncWord.f k t310).bind fun bt315 => (if (bt313.2 != bt315.2) = true then (laws_FnSynchronised.j0 k l1 (wrap64 (2 + t309)) t310 bt313.1 bt313.2 true) else ((impl_IsCompleteCode.f k t310).bind fun t317 => (if t317 = true then (if bt313.2 = true then (laws_FnSynchronised.j0 k l1 (wrap64 (2 + t309)) t310 bt313.1 bt313.2 ((bt313.1.size : Int) == 0)) else (laws_FnSynchronised.j0 k l1 (wrap64 (2 + t309)) t310 bt313.1 bt313.2 false)) else (laws_FnSynchronised.j0 k l1 (wrap64 (2 + t309)) t310 bt313.1 bt313.2 true))))))))) = some r := H
 have A3 := Aside0.mk A30
 clear A30
 by_cases c4 : t308 = true
 ·subst c4
  have H1 : (some true) = some r := by rw [if_pos rfl] at H; exact H
  clear H
  have H := H1
  clear H1
  obtain rfl := Option.some.inj H
  go_enter Tryz.func3, Tryz.ntmps3
  go_wp2_with (first | ((with_reducible refine gate_callee (f := 4) rfl ?_); refine goesL_ (some 30) rfl rfl Tryz.func4 (by kernel_rfl) rfl #[.slice A0 l0.length c0, .slice A1 l1.length c1] rfl (by (try simp only [List.map_toArray, List.map_cons, List.map_nil]); first | done | rfl | (simp only [List.length_drop, List.length_take]; rfl)) ?_; (with_reducible refine (laws_b10Long.calls _ _ l0 _ _ l1 true _ ?side1 ?side2 ?side3 ?side4 A3.out).mono ?_); (case side1 => repeat (first | exact HR0.out | (with_reducible refine Kd.C_alloc ?_ _) | (with_reducible refine Kd.C_drewN ?_ _) | (with_reducible refine Kd.C_drew ?_))); (case side2 => exact HC0.out); (case side3 => repeat (first | exact HR1.out | (with_reducible refine Kd.C_alloc ?_ _) | (with_reducible refine Kd.C_drewN ?_ _) | (with_reducible refine Kd.C_drew ?_))); (case side4 => exact HC1.out); rintro e w' ⟨rfl, ⟨nd, rfl⟩⟩; refine ⟨_, rfl, ?_⟩))
  go_ret
  exact ⟨by first | rfl | (simp [errW_none, errW_some] <;> rfl) | (simp [*, errW_none, errW_some] <;> rfl), by repeat (first | (with_reducible first | exact HB.out | apply below_alloc | apply pw_below_drewN | apply below_drew1) | exact HB.out)⟩
 ·replace c4 := Bool.eq_false_iff.mpr c4
  subst c4
  have H1 : ((laws_b10At.f l0 0 7).bind fun t309 => ((spec_B10Complete.f k l0 (wrap64 (2 + t309))).bind fun t310 => ((impl_SyncWord.f k t310).bind fun bt313 => ((spec_SyncWord.f k t310).bind fun bt315 => (if (bt313.2 != bt315.2) = true then (laws_FnSynchronised.j0 k l1 (wrap64 (2 + t309)) t310 bt313.1 bt313.2 true) else ((impl_IsCompleteCode.f k t310).bind fun t317 => (if t317 = true then (if bt313.2 = true then (laws_FnSynchronised.j0 k l1 (wrap64 (2 + t309)) t310 bt313.1 bt313.2 ((bt313.1.size : Int) == 0)) else (laws_FnSynchronised.j0 k l1 (wrap64 (2 + t309)) t310 bt313.1 bt313.2 false)) else (laws_FnSynchronised.j0 k l1 (wrap64 (2 + t309)) t310 bt313.1 bt313.2 true)))))))) = some r := by rw [if_neg (show ¬ (false = true) by decide)] at H; exact H
  clear H
  have H := H1
  clear H1
  replace H := Option.bind_eq_some_iff.mp H
  obtain ⟨t309, A50, H⟩ := H
  replace H : ((spec_B10Complete.f k l0 (wrap64 (2 + t309))).bind fun t310 => ((impl_SyncWord.f k t310).bind fun bt313 => ((spec_SyncWord.f k t310).bind fun bt315 => (if (bt313.2 != bt315.2) = true then (laws_FnSynchronised.j0 k l1 (wrap64 (2 + t309)) t310 bt313.1 bt313.2 true) else ((impl_IsCompleteCode.f k t310).bind fun t317 => (if t317 = true then (if bt313.2 = true then (laws_FnSynchronised.j0 k l1 (wrap64 (2 + t309)) t310 bt313.1 bt313.2 ((bt313.1.size : Int) == 0)) else (laws_FnSynchronised.j0 k l1 (wrap64 (2 + t309)) t310 bt313.1 bt313.2 false)) else (laws_FnSynchronised.j0 k l1 (wrap64 (2 + t309)) t310 bt313.1 bt313.2 true))))))) = some r := H
  have A5 := Aside0.mk A50
  clear A50
  replace H := Option.bind_eq_some_iff.mp H
  obtain ⟨t310, A60, H⟩ := H
  replace H : ((impl_SyncWord.f k t310).bind fun bt313 => ((spec_SyncWord.f k t310).bind fun bt315 => (if (bt313.2 != bt315.2) = true then (laws_FnSynchronised.j0 k l1 (wrap64 (2 + t309)) t310 bt313.1 bt313.2 true) else ((impl_IsCompleteCode.f k t310).bind fun t317 => (if t317 = true then (if bt313.2 = true then (laws_FnSynchronised.j0 k l1 (wrap64 (2 + t309)) t310 bt313.1 bt313.2 ((bt313.1.size : Int) == 0)) else (laws_FnSynchronised.j0 k l1 (wrap64 (2 + t309)) t310 bt313.1 bt313.2 false)) else (laws_FnSynchronised.j0 k l1 (wrap64 (2 + t309)) t310 bt313.1 bt313.2 true)))))) = some r := H
  have A6 := Aside0.mk A60
  clear A60
  replace H := Option.bind_eq_some_iff.mp H
  obtain ⟨⟨t313, t314⟩, A70, H⟩ := H
  replace H : ((spec_SyncWord.f k t310).bind fun bt315 => (if (t314 != bt315.2) = true then (laws_FnSynchronised.j0 k l1 (wrap64 (2 + t309)) t310 t313 t314 true) else ((impl_IsCompleteCode.f k t310).bind fun t317 => (if t317 = true then (if t314 = true then (laws_FnSynchronised.j0 k l1 (wrap64 (2 + t309)) t310 t313 t314 ((t313.size : Int) == 0)) else (laws_FnSynchronised.j0 k l1 (wrap64 (2 + t309)) t310 t313 t314 false)) else (laws_FnSynchronised.j0 k l1 (wrap64 (2 + t309)) t310 t313 t314 true))))) = some r := H
  have A7 := Aside0.mk A70
  clear A70
  replace H := Option.bind_eq_some_iff.mp H
  obtain ⟨⟨t315, t316⟩, A80, H⟩ := H
  replace H : (if (t314 != t316) = true then (laws_FnSynchronised.j0 k l1 (wrap64 (2 + t309)) t310 t313 t314 true) else ((impl_IsCompleteCode.f k t310).bind fun t317 => (if t317 = true then (if t314 = true then (laws_FnSynchronised.j0 k l1 (wrap64 (2 + t309)) t310 t313 t314 ((t313.size : Int) == 0)) else (laws_FnSynchronised.j0 k l1 (wrap64 (2 + t309)) t310 t313 t314 false)) else (laws_FnSynchronised.j0 k l1 (wrap64 (2 + t309)) t310 t313 t314 true)))) = some r := H
  have A8 := Aside0.mk A80
  clear A80
  have HC9 := Aside0.mk H
  clear H
  go_enter Tryz.func3, Tryz.ntmps3
  go_upto_region 7 with (first | ((with_reducible refine gate_callee (f := 4) rfl ?_); refine goesL_ (some 30) rfl rfl Tryz.func4 (by kernel_rfl) rfl #[.slice A0 l0.length c0, .slice A1 l1.length c1] rfl (by (try simp only [List.map_toArray, List.map_cons, List.map_nil]); first | done | rfl | (simp only [List.length_drop, List.length_take]; rfl)) ?_; (with_reducible refine (laws_b10Long.calls _ _ l0 _ _ l1 false _ ?side1 ?side2 ?side3 ?side4 A3.out).mono ?_); (case side1 => repeat (first | exact HR0.out | (with_reducible refine Kd.C_alloc ?_ _) | (with_reducible refine Kd.C_drewN ?_ _) | (with_reducible refine Kd.C_drew ?_))); (case side2 => exact HC0.out); (case side3 => repeat (first | exact HR1.out | (with_reducible refine Kd.C_alloc ?_ _) | (with_reducible refine Kd.C_drewN ?_ _) | (with_reducible refine Kd.C_drew ?_))); (case side4 => exact HC1.out); rintro e w' ⟨rfl, ⟨nd, rfl⟩⟩; refine ⟨_, rfl, ?_⟩) | ((with_reducible refine gate_callee (f := 5) rfl ?_); refine goesL_ (some 32) rfl rfl Tryz.func5 (by kernel_rfl) rfl #[.slice A0 l0.length c0, .int .i64 0, .int .i64 7] rfl (by (try simp only [List.map_toArray, List.map_cons, List.map_nil]); first | done | rfl | (simp only [List.length_drop, List.length_take]; rfl)) ?_; (with_reducible refine (laws_b10At.calls _ _ l0 0 7 t309 _ ?side1 ?side2 A5.out).mono ?_); (case side1 => repeat (first | exact HR0.out | (with_reducible refine Kd.C_alloc ?_ _) | (with_reducible refine Kd.C_drewN ?_ _) | (with_reducible refine Kd.C_drew ?_))); (case side2 => exact HC0.out); rintro e w' ⟨rfl, ⟨nd, rfl⟩⟩; refine ⟨_, rfl, ?_⟩) | ((with_reducible refine gate_callee (f := 6) rfl ?_); refine goesL_ (some 36) rfl rfl Tryz.func6 (by kernel_rfl) rfl #[.slice A0 l0.length c0, .int .i64 (wrap64 (2 + t309))] rfl (by (try simp only [List.map_toArray, List.map_cons, List.map_nil]); first | done | rfl | (simp only [List.length_drop, List.length_take]; rfl)) ?_; (with_reducible refine (spec_B10Complete.calls k _ _ l0 (wrap64 (2 + t309)) t310 _ ?side1 ?side2 A6.out).mono ?_); (case side1 => repeat (first | exact HR0.out | (with_reducible refine Kd.C_alloc ?_ _) | (with_reducible refine Kd.C_drewN ?_ _) | (with_reducible refine Kd.C_drew ?_))); (case side2 => exact HC0.out); rintro e w10 ⟨v311, rfl, ho0, hb⟩; refine ⟨_, rfl, ?_⟩; have n0_ := Aside0.mk (Kd.R_lower ho0 (below_size (by repeat (first | (with_reducible first | exact HB.out | apply below_alloc | apply pw_below_drewN | apply below_drew1) | exact HB.out)))); have n1_ := Aside0.mk (below_step (by repeat (first | (with_reducible first | exact HB.out | apply below_alloc | apply pw_below_drewN | apply below_drew1) | exact HB.out)) hb); clear HB; have HO312 := n0_; have HB := n1_; clear n0_ n1_; (try clear hb); (try clear hb2); (try clear hk); (try clear hi); (try clear ho0); obtain ⟨Ao11, co11, eo11⟩ := Kd.R_slice HO312.out; subst eo11) | ((with_reducible refine gate_callee (f := 7) rfl ?_); refine goesL_ (some 39) rfl rfl Tryz.func7 (by kernel_rfl) rfl #[.slice Ao11 t310.length co11] rfl (by (try simp only [List.map_toArray, List.map_cons, List.map_nil]); first | done | rfl | (simp only [List.length_drop, List.length_take]; rfl)) ?_; (with_reducible refine (impl_SyncWord.calls k _ _ t310 t313 t314 _ ?side1 ?side2 A7.out).mono ?_); (case side1 => repeat (first | exact (Kd.R_reads' HO312.out).2.2 | (with_reducible refine Kd.C_alloc ?_ _) | (with_reducible refine Kd.C_drewN ?_ _) | (with_reducible refine Kd.C_drew ?_))); (case side2 => exact (Kd.R_reads' HO312.out).2.1); rintro e w12 ⟨rfl, hb⟩; refine ⟨_, rfl, ?_⟩; have n0_ := Aside0.mk (Kd.R_below (by (with_reducible repeat (first | apply Kd.R_alloc | apply Kd.R_drewN | apply Kd.R_drew)); exact HO312.out) hb); have n1_ := Aside0.mk (below_step (by repeat (first | (with_reducible first | exact HB.out | apply below_alloc | apply pw_below_drewN | apply below_drew1) | exact HB.out)) hb); clear HO312; clear HB; have HO312 := n0_; have HB := n1_; clear n0_ n1_; (try clear hb); (try clear hb2); (try clear hk); (try clear hi)) | ((with_reducible refine gate_callee (f := 8) rfl ?_); refine goesL_ (some 44) rfl rfl Tryz.func8 (by kernel_rfl) rfl #[.slice Ao11 t310.length co11] rfl (by (try simp only [List.map_toArray, List.map_cons, List.map_nil]); first | done | rfl | (simp only [List.length_drop, List.length_take]; rfl)) ?_; (with_reducible refine (spec_SyncWord.calls k _ _ t310 t315 t316 _ ?side1 ?side2 A8.out).mono ?_); (case side1 => repeat (first | exact (Kd.R_reads' HO312.out).2.2 | (with_reducible refine Kd.C_alloc ?_ _) | (with_reducible refine Kd.C_drewN ?_ _) | (with_reducible refine Kd.C_drew ?_))); (case side2 => exact (Kd.R_reads' HO312.out).2.1); rintro e w13 ⟨rfl, hb⟩; refine ⟨_, rfl, ?_⟩; have n0_ := Aside0.mk (Kd.R_below (by (with_reducible repeat (first | apply Kd.R_alloc | apply Kd.R_drewN | apply Kd.R_drew)); exact HO312.out) hb); have n1_ := Aside0.mk (below_step (by repeat (first | (with_reducible first | exact HB.out | apply below_alloc | apply pw_below_drewN | apply below_drew1) | exact HB.out)) hb); clear HO312; clear HB; have HO312 := n0_; have HB := n1_; clear n0_ n1_; (try clear hb); (try clear hb2); (try clear hk); (try clear hi)))
  (try simp only [Act.put, List.setIfInBounds_toArray, List.set_cons_zero, List.set_cons_succ])
  go_cut [62] (fun v62 wc => ∃ (kq : Nat) (x62_8 : Bool), v62 = .bool x62_8 ∧ Aside0 (laws_FnSynchronised.j0 kq l1 (wrap64 (2 + t309)) t310 t313 t314 x62_8 = some r) ∧ Aside0 (kq ≤ k) ∧ Aside0 (Kd.R Kd.string 9 wc w.heap.size (fun _ => True) (.slice Ao11 t310.length co11) t310) ∧ Aside0 (Below w.heap.size w wc))
  case first =>
   have H := HC9.out
   clear HC9
   by_cases c14 : (t314 != t316) = true
   ·rw [if_pos c14] at H
    have c14b0 : (t314 != t316) = true := c14
    (try (have c14b1 : decide (t314 = t316) = false := by simpa using c14))
    (try (have c14b2 : (t314 == t316) = false := by simpa using c14))
    (try (have c14b3 : ¬ (t314 = t316) := by simpa using c14))
    clear c14
    (first | rw [c14b0] | (simp only [i64_w, i32_w]; rw [c14b0]) | skip)
    have H' := Aside0.mk H
    clear H
    go_wp2
    go_meet
    case rel => exact ⟨_, (true), (by first | rfl | (simp; done) | (simp [*]; done)), H', ⟨by first | omega | exact Nat.le_refl _⟩, ⟨by (with_reducible repeat (first | apply Kd.R_alloc | apply Kd.R_drewN | apply Kd.R_drew)); exact HO312.out⟩, ⟨by repeat (first | (with_reducible first | exact HB.out | apply below_alloc | apply pw_below_drewN | apply below_drew1) | exact HB.out)⟩⟩
   ·rw [if_neg c14] at H
    have c14b0 : (t314 != t316) = false := by simpa using c14
    (try (have c14b1 : decide (t314 = t316) = true := by simpa using c14))
    (try (have c14b2 : (t314 == t316) = true := by simpa using c14))
    clear c14
    (first | rw [c14b0] | (simp only [i64_w, i32_w]; rw [c14b0]) | skip)
    replace H := Option.bind_eq_some_iff.mp H
    obtain ⟨t317, A150, H⟩ := H
    replace H : (if t317 = true then (if t314 = true then (laws_FnSynchronised.j0 k l1 (wrap64 (2 + t309)) t310 t313 t314 ((t313.size : Int) == 0)) else (laws_FnSynchronised.j0 k l1 (wrap64 (2 + t309)) t310 t313 t314 false)) else (laws_FnSynchronised.j0 k l1 (wrap64 (2 + t309)) t310 t313 t314 true)) = some r := H
    have A15 := Aside0.mk A150
    clear A150
    by_cases c16 : t317 = true
    ·subst c16
     have H1 : (if t314 = true then (laws_FnSynchronised.j0 k l1 (wrap64 (2 + t309)) t310 t313 t314 ((t313.size : Int) == 0)) else (laws_FnSynchronised.j0 k l1 (wrap64 (2 + t309)) t310 t313 t314 false)) = some r := by rw [if_pos rfl] at H; exact H
     clear H
     have H := H1
     clear H1
     by_cases c17 : t314 = true
     ·subst c17
      have H1 : (laws_FnSynchronised.j0 k l1 (wrap64 (2 + t309)) t310 t313 true ((t313.size : Int) == 0)) = some r := by rw [if_pos rfl] at H; exact H
      clear H
      have H := H1
      clear H1
      have H' := Aside0.mk H
      clear H
      go_wp2_with (first | (go_at_call 9; (with_reducible refine (impl_IsCompleteCode.calls k _ _ t310 true _ ?side1 ?side2 A15.out).mono ?_); (case side1 => repeat (first | exact (Kd.R_reads' HO312.out).2.2 | (with_reducible refine Kd.C_alloc ?_ _) | (with_reducible refine Kd.C_drewN ?_ _) | (with_reducible refine Kd.C_drew ?_))); (case side2 => exact (Kd.R_reads' HO312.out).2.1); rintro e w18 ⟨rfl, hb⟩; have n0_ := Aside0.mk (Kd.R_below (by (with_reducible repeat (first | apply Kd.R_alloc | apply Kd.R_drewN | apply Kd.R_drew)); exact HO312.out) hb); have n1_ := Aside0.mk (below_step (by repeat (first | (with_reducible first | exact HB.out | apply below_alloc | apply pw_below_drewN | apply below_drew1) | exact HB.out)) hb); clear HO312; clear HB; have HO312 := n0_; have HB := n1_; clear n0_ n1_; (try clear hb); (try clear hb2); (try clear hk); (try clear hi)))
      go_meet
      case rel => exact ⟨_, (((t313.size : Int) == 0)), (by first | rfl | (simp; done) | (simp [*]; done)), H', ⟨by first | omega | exact Nat.le_refl _⟩, ⟨by (with_reducible repeat (first | apply Kd.R_alloc | apply Kd.R_drewN | apply Kd.R_drew)); exact HO312.out⟩, ⟨by repeat (first | (with_reducible first | exact HB.out | apply below_alloc | apply pw_below_drewN | apply below_drew1) | exact HB.out)⟩⟩
     ·replace c17 := Bool.eq_false_iff.mpr c17
      subst c17
      have H1 : (laws_FnSynchronised.j0 k l1 (wrap64 (2 + t309)) t310 t313 false false) = some r := by rw [if_neg (show ¬ (false = true) by decide)] at H; exact H
      clear H
      have H := H1
      clear H1
      have H' := Aside0.mk H
      clear H
      go_wp2_with (first | (go_at_call 9; (with_reducible refine (impl_IsCompleteCode.calls k _ _ t310 true _ ?side1 ?side2 A15.out).mono ?_); (case side1 => repeat (first | exact (Kd.R_reads' HO312.out).2.2 | (with_reducible refine Kd.C_alloc ?_ _) | (with_reducible refine Kd.C_drewN ?_ _) | (with_reducible refine Kd.C_drew ?_))); (case side2 => exact (Kd.R_reads' HO312.out).2.1); rintro e w19 ⟨rfl, hb⟩; have n0_ := Aside0.mk (Kd.R_below (by (with_reducible repeat (first | apply Kd.R_alloc | apply Kd.R_drewN | apply Kd.R_drew)); exact HO312.out) hb); have n1_ := Aside0.mk (below_step (by repeat (first | (with_reducible first | exact HB.out | apply below_alloc | apply pw_below_drewN | apply below_drew1) | exact HB.out)) hb); clear HO312; clear HB; have HO312 := n0_; have HB := n1_; clear n0_ n1_; (try clear hb); (try clear hb2); (try clear hk); (try clear hi)))
      go_meet
      case rel => exact ⟨_, (false), (by first | rfl | (simp; done) | (simp [*]; done)), H', ⟨by first | omega | exact Nat.le_refl _⟩, ⟨by (with_reducible repeat (first | apply Kd.R_alloc | apply Kd.R_drewN | apply Kd.R_drew)); exact HO312.out⟩, ⟨by repeat (first | (with_reducible first | exact HB.out | apply below_alloc | apply pw_below_drewN | apply below_drew1) | exact HB.out)⟩⟩
    ·replace c16 := Bool.eq_false_iff.mpr c16
     subst c16
     have H1 : (laws_FnSynchronised.j0 k l1 (wrap64 (2 + t309)) t310 t313 t314 true) = some r := by rw [if_neg (show ¬ (false = true) by decide)] at H; exact H
     clear H
     have H := H1
     clear H1
     have H' := Aside0.mk H
     clear H
     go_wp2_with (first | (go_at_call 9; (with_reducible refine (impl_IsCompleteCode.calls k _ _ t310 false _ ?side1 ?side2 A15.out).mono ?_); (case side1 => repeat (first | exact (Kd.R_reads' HO312.out).2.2 | (with_reducible refine Kd.C_alloc ?_ _) | (with_reducible refine Kd.C_drewN ?_ _) | (with_reducible refine Kd.C_drew ?_))); (case side2 => exact (Kd.R_reads' HO312.out).2.1); rintro e w20 ⟨rfl, hb⟩; have n0_ := Aside0.mk (Kd.R_below (by (with_reducible repeat (first | apply Kd.R_alloc | apply Kd.R_drewN | apply Kd.R_drew)); exact HO312.out) hb); have n1_ := Aside0.mk (below_step (by repeat (first | (with_reducible first | exact HB.out | apply below_alloc | apply pw_below_drewN | apply below_drew1) | exact HB.out)) hb); clear HO312; clear HB; have HO312 := n0_; have HB := n1_; clear n0_ n1_; (try clear hb); (try clear hb2); (try clear hk); (try clear hi)))
     go_meet
     case rel => exact ⟨_, (true), (by first | rfl | (simp; done) | (simp [*]; done)), H', ⟨by first | omega | exact Nat.le_refl _⟩, ⟨by (with_reducible repeat (first | apply Kd.R_alloc | apply Kd.R_drewN | apply Kd.R_drew)); exact HO312.out⟩, ⟨by repeat (first | (with_reducible first | exact HB.out | apply below_alloc | apply pw_below_drewN | apply below_drew1) | exact HB.out)⟩⟩
  case rest =>
   clear HC9
   try clear c1
   try clear p2
   try clear c3
   try clear c4
   try clear c5
   try clear c6
   try clear p6
   try clear c7
   try clear c8
   try clear c14
   try clear c14b0
   try clear c14b1
   try clear c14b2
   try clear c16
   try clear c17
   obtain ⟨kq, x62_8, rfl, HA, HJ8, HO_6, HB⟩ := hcut
   cases kq with
   | zero => exact absurd HA.out (by simp [laws_FnSynchronised.j0])
   | succ kj8 =>
    have H := HA.out
    clear HA
    simp only [laws_FnSynchronised.j0] at H
    by_cases c21 : x62_8 = true
    ·subst c21
     have H1 : (some false) = some r := by rw [if_pos rfl] at H; exact H
     clear H
     have H := H1
     clear H1
     obtain rfl := Option.some.inj H
     go_wp2
     go_ret
     exact ⟨by first | rfl | (simp [errW_none, errW_some] <;> rfl) | (simp [*, errW_none, errW_some] <;> rfl), by repeat (first | (with_reducible first | exact HB.out | apply below_alloc | apply pw_below_drewN | apply below_drew1) | exact HB.out)⟩
    ·replace c21 := Bool.eq_false_iff.mpr c21
     subst c21
     have H1 : (laws_FnSynchronised.l0 kj8 l1 (wrap64 (2 + t309)) t310 t313 t314 0) = some r := by rw [if_neg (show ¬ (false = true) by decide)] at H; exact H
     clear H
     have H := H1
     clear H1
     have H' := Aside0.mk H
     clear H
     go_wp2
     go_loopg [11] kj8 (fun kq v11 w' => ∃ (x11_2 : Int), v11 = .int .i64 x11_2 ∧ Aside0 (laws_FnSynchronised.l0 kq l1 (wrap64 (2 + t309)) t310 t313 t314 x11_2 = some r) ∧ Aside0 (kq ≤ kj8) ∧ Aside0 (Kd.R Kd.string 9 w' w.heap.size (fun _ => True) (.slice Ao11 t310.length co11) t310) ∧ Aside0 (Below w.heap.size w w'))
     case atStart => exact ⟨(0), (by first | rfl | (simp; done) | (simp [*]; done)), H', ⟨Nat.le_refl _⟩, ⟨by (with_reducible repeat (first | apply Kd.R_alloc | apply Kd.R_drewN | apply Kd.R_drew)); exact HO_6.out⟩, ⟨by repeat (first | (with_reducible first | exact HB.out | apply below_alloc | apply pw_below_drewN | apply below_drew1) | exact HB.out)⟩⟩
     case round =>
      clear H'
      try clear c1
      try clear c2
      try clear p2
      try clear c3
      try clear c4
      try clear c5
      try clear c6
      try clear p6
      try clear c7
      try clear c8
      try clear c14
      try clear c14b0
      try clear c14b1
      try clear c14b2
      try clear c16
      try clear c17
      try clear c21
      try clear p2
      try clear p6
      obtain ⟨x11_2, rfl, HA, HK2, HO_6, HB⟩ := hrel
      cases gk with
      | zero => exact absurd HA.out (by simp [laws_FnSynchronised.l0])
      | succ k2 =>
       have H := HA.out
       clear HA
       simp only [laws_FnSynchronised.l0] at H
       have HC22 := Aside0.mk H
       clear H
       go_upto_region 10 with (fail)
       go_cut [69] (fun v69 wc => ∃ (kq : Nat) (x69_21 : Bool), v69 = .bool x69_21 ∧ Aside0 (laws_FnSynchronised.j2 kq l1 (wrap64 (2 + t309)) t310 t313 t314 x11_2 x69_21 = some r) ∧ Aside0 (kq ≤ k2) ∧ Aside0 (Kd.R Kd.string 9 wc w.heap.size (fun _ => True) (.slice Ao11 t310.length co11) t310) ∧ Aside0 (Below w.heap.size w wc))
       case first =>
        have H := HC22.out
        clear HC22
        by_cases c23 : t314 = true
        ·subst c23
         have H1 : (laws_FnSynchronised.j2 k2 l1 (wrap64 (2 + t309)) t310 t313 true x11_2 (decide (x11_2 < (t310.length : Int)))) = some r := by rw [if_pos rfl] at H; exact H
         clear H
         have H := H1
         clear H1
         have H' := Aside0.mk H
         clear H
         go_wp2
         go_meet
         case rel => exact ⟨_, (decide (x11_2 < (t310.length : Int))), (by first | rfl | (simp; done) | (simp [*]; done)), H', ⟨by have := HJ8.out; have := HK2.out; first | omega | exact Nat.le_refl _⟩, ⟨by (with_reducible repeat (first | apply Kd.R_alloc | apply Kd.R_drewN | apply Kd.R_drew)); exact HO_6.out⟩, ⟨by repeat (first | (with_reducible first | exact HB.out | apply below_alloc | apply pw_below_drewN | apply below_drew1) | exact HB.out)⟩⟩
        ·replace c23 := Bool.eq_false_iff.mpr c23
         subst c23
         have H1 : (laws_FnSynchronised.j2 k2 l1 (wrap64 (2 + t309)) t310 t313 false x11_2 false) = some r := by rw [if_neg (show ¬ (false = true) by decide)] at H; exact H
         clear H
         have H := H1
         clear H1
         have H' := Aside0.mk H
         clear H
         go_wp2
         go_meet
         case rel => exact ⟨_, (false), (by first | rfl | (simp; done) | (simp [*]; done)), H', ⟨by have := HJ8.out; have := HK2.out; first | omega | exact Nat.le_refl _⟩, ⟨by (with_reducible repeat (first | apply Kd.R_alloc | apply Kd.R_drewN | apply Kd.R_drew)); exact HO_6.out⟩, ⟨by repeat (first | (with_reducible first | exact HB.out | apply below_alloc | apply pw_below_drewN | apply below_drew1) | exact HB.out)⟩⟩
       case rest =>
        clear HC22
        try clear c1
        try clear c2
        try clear p2
        try clear c3
        try clear c4
        try clear c5
        try clear c6
        try clear p6
        try clear c7
        try clear c8
        try clear c14
        try clear c14b0
        try clear c14b1
        try clear c14b2
        try clear c16
        try clear c17
        try clear c21
        try clear c23
        try clear p2
        try clear p6
        obtain ⟨kq, x69_21, rfl, HA, HJ21, HO_6, HB⟩ := hcut
        cases kq with
        | zero => exact absurd HA.out (by simp [laws_FnSynchronised.j2])
        | succ kj21 =>
         have H := HA.out
         clear HA
         simp only [laws_FnSynchronised.j2] at H
         by_cases c24 : x69_21 = true
         ·subst c24
          have H1 : (laws_FnSynchronised.l1 kj21 l1 (wrap64 (2 + t309)) t310 t313 t314 x11_2 0) = some r := by rw [if_pos rfl] at H; exact H
          clear H
          have H := H1
          clear H1
          have H' := Aside0.mk H
          clear H
          go_wp2
          go_loopg [12] kj21 (fun kq v12 w' => ∃ (x12_4 : Int), v12 = .int .i64 x12_4 ∧ Aside0 (laws_FnSynchronised.l1 kq l1 (wrap64 (2 + t309)) t310 t313 t314 x11_2 x12_4 = some r) ∧ Aside0 (kq ≤ kj21) ∧ Aside0 (Kd.R Kd.string 9 w' w.heap.size (fun _ => True) (.slice Ao11 t310.length co11) t310) ∧ Aside0 (Below w.heap.size w w'))
          case atStart => exact ⟨(0), (by first | rfl | (simp; done) | (simp [*]; done)), H', ⟨Nat.le_refl _⟩, ⟨by (with_reducible repeat (first | apply Kd.R_alloc | apply Kd.R_drewN | apply Kd.R_drew)); exact HO_6.out⟩, ⟨by repeat (first | (with_reducible first | exact HB.out | apply below_alloc | apply pw_below_drewN | apply below_drew1) | exact HB.out)⟩⟩
          case round =>
           clear H'
           try clear c1
           try clear c2
           try clear p2
           try clear c3
           try clear c4
           try clear c5
           try clear c6
           try clear p6
           try clear c7
           try clear c8
           try clear c14
           try clear c14b0
           try clear c14b1
           try clear c14b2
           try clear c16
           try clear c17
           try clear c21
           try clear c23
           try clear c24
           try clear p2
           try clear p6
           obtain ⟨x12_4, rfl, HA, HK4, HO_6, HB⟩ := hrel
           cases gk with
           | zero => exact absurd HA.out (by simp [laws_FnSynchronised.l1])
           | succ k4 =>
            have H := HA.out
            clear HA
            simp only [laws_FnSynchronised.l1] at H
            by_cases c25 : 0 ≤ x11_2
            ·rw [if_pos c25] at H
             have c25b0 : decide (0 ≤ x11_2) = true := decide_eq_true c25
             clear c25
             by_cases c26 : x11_2 < (t310.length : Int)
             ·rw [if_pos c26] at H
              have c26b0 : decide (x11_2 < (t310.length : Int)) = true := decide_eq_true c26
              clear c26
              by_cases c27 : x12_4 < ((rdOf ByteArray.empty t310 x11_2).size : Int)
              ·rw [if_pos c27] at H
               have c27b0 : decide (x12_4 < ((rdOf ByteArray.empty t310 x11_2).size : Int)) = true := decide_eq_true c27
               clear c27
               by_cases c28 : 0 ≤ x12_4
               ·rw [if_pos c28] at H
                have c28b0 := eq_true c28
                have c28b1 : decide (0 ≤ x12_4) = true := decide_eq_true c28
                clear c28
                by_cases c29 : x12_4 ≤ ((rdOf ByteArray.empty t310 x11_2).size : Int)
                ·rw [if_pos c29] at H
                 have c29b0 := eq_true c29
                 have c29b1 : decide (x12_4 ≤ ((rdOf ByteArray.empty t310 x11_2).size : Int)) = true := decide_eq_true c29
                 clear c29
                 by_cases c30 : ((rdOf ByteArray.empty t310 x11_2).extract 0 (x12_4 : Int).toNat).size + t313.size ≤ 9223372036854775807
                 ·rw [if_pos c30] at H
                  have c30b0 := eq_true c30
                  have c30b1 : decide (((rdOf ByteArray.empty t310 x11_2).extract 0 (x12_4 : Int).toNat).size + t313.size ≤ 9223372036854775807) = true := decide_eq_true c30
                  try have c30b2 : (9223372036854775807 < ((rdOf ByteArray.empty t310 x11_2).extract 0 (x12_4 : Int).toNat).size + t313.size) = False := eq_false (Nat.not_lt.2 c30)
                  try have c30b3 : (9223372036854775807 < ((rdOf ByteArray.empty t310 x11_2).extract 0 (x12_4 : Int).toNat).size + t313.size) = False := eq_false (Nat.not_lt.2 (by have q_ := c30; simp only [ByteArray.size_append, ByteArray.size_extract] at q_; omega))
                  replace H := Option.bind_eq_some_iff.mp H
                  obtain ⟨⟨t320, t321⟩, A310, H⟩ := H
                  replace H : (if t321 = true then (if t320 = 1 then (laws_FnSynchronised.l1 k4 l1 (wrap64 (2 + t309)) t310 t313 t314 x11_2 (wrap64 (x12_4 + 1))) else (some false)) else (some false)) = some r := H
                  have A31 := Aside0.mk A310
                  clear A310
                  by_cases c32 : t321 = true
                  ·subst c32
                   have H1 : (if t320 = 1 then (laws_FnSynchronised.l1 k4 l1 (wrap64 (2 + t309)) t310 t313 t314 x11_2 (wrap64 (x12_4 + 1))) else (some false)) = some r := by rw [if_pos rfl] at H; exact H
                   clear H
                   have H := H1
                   clear H1
                   by_cases c33 : t320 = 1
                   ·rw [if_pos c33] at H
                    have c33b0 : (t320 == 1) = true := beq_iff_eq.mpr c33
                    have c33b1 : (t320 != 1) = false := bne_eq_false_iff_eq.mpr c33
                    clear c33
                    have H' := Aside0.mk H
                    clear H
                    have p318 : 0 ≤ (x11_2 : Int) := of_decide_eq_true (by first | (with_reducible assumption) | assumption)
                    have q318 : x11_2 < (t310.length : Int) := of_decide_eq_true (by first | (with_reducible assumption) | assumption)
                    obtain ⟨ad318, e318, hx318_0⟩ := Kd.at_string (Kd.R_reads' HO_6.out).2.2 x11_2 p318 q318
                    cases e318
                    replace p318 := eq_true p318
                    replace q318 := eq_true q318
                    have p319 : 0 ≤ (x11_2 : Int) := of_decide_eq_true (by first | (with_reducible assumption) | assumption)
                    have q319 : x11_2 < (t310.length : Int) := of_decide_eq_true (by first | (with_reducible assumption) | assumption)
                    obtain ⟨ad319, e319, hx319_0⟩ := Kd.at_string (Kd.R_reads' HO_6.out).2.2 x11_2 p319 q319
                    obtain rfl : ad318 = ad319 := (by injection e319)
                    replace p319 := eq_true p319
                    replace q319 := eq_true q319
                    go_wp2_with (first | ((with_reducible refine gate_callee (f := 10) rfl ?_); refine goesL_ (some 91) rfl rfl Tryz.func10 (by kernel_rfl) rfl #[.slice (some ad318) t310.length co11, .string (((rdOf ByteArray.empty t310 x11_2).extract 0 (x12_4 : Int).toNat) ++ t313)] rfl (by (try simp only [List.map_toArray, List.map_cons, List.map_nil]); first | done | rfl | (simp only [List.length_drop, List.length_take]; rfl)) ?_; (with_reducible refine (spec_ParsesOf.calls k4 _ _ t310 (((rdOf ByteArray.empty t310 x11_2).extract 0 (x12_4 : Int).toNat) ++ t313) t320 true _ ?side1 ?side2 A31.out).mono ?_); (case side1 => repeat (first | exact (Kd.R_reads' HO_6.out).2.2 | (with_reducible refine Kd.C_alloc ?_ _) | (with_reducible refine Kd.C_drewN ?_ _) | (with_reducible refine Kd.C_drew ?_))); (case side2 => exact (Kd.R_reads' HO_6.out).2.1); rintro e w34 ⟨rfl, hb⟩; refine ⟨_, rfl, ?_⟩; have n0_ := Aside0.mk (Kd.R_below (by (with_reducible repeat (first | apply Kd.R_alloc | apply Kd.R_drewN | apply Kd.R_drew)); exact HO_6.out) hb); have n1_ := Aside0.mk (below_step (by repeat (first | (with_reducible first | exact HB.out | apply below_alloc | apply pw_below_drewN | apply below_drew1) | exact HB.out)) hb); clear HO_6; clear HB; have HO_6 := n0_; have HB := n1_; clear n0_ n1_; (try clear hb); (try clear hb2); (try clear hk); (try clear hi)))
                    go_roundg k4
                    case measure => have := HJ8.out; have := HK2.out; have := HJ21.out; have := HK4.out; omega
                    case rel => exact ⟨(wrap64 (x12_4 + 1)), (by first | rfl | (simp; done) | (simp [*]; done)), H', ⟨by have := HJ8.out; have := HK2.out; have := HJ21.out; have := HK4.out; omega⟩, ⟨by (with_reducible repeat (first | apply Kd.R_alloc | apply Kd.R_drewN | apply Kd.R_drew)); exact HO_6.out⟩, ⟨by repeat (first | (with_reducible first | exact HB.out | apply below_alloc | apply pw_below_drewN | apply below_drew1) | exact HB.out)⟩⟩
                   ·rw [if_neg c33] at H
                    have c33b0 : (t320 == 1) = false := beq_eq_false_iff_ne.mpr c33
                    have c33b1 : (t320 != 1) = true := bne_iff_ne.mpr c33
                    obtain rfl := Option.some.inj H
                    have p318 : 0 ≤ (x11_2 : Int) := of_decide_eq_true (by first | (with_reducible assumption) | assumption)
                    have q318 : x11_2 < (t310.length : Int) := of_decide_eq_true (by first | (with_reducible assumption) | assumption)
                    obtain ⟨ad318, e318, hx318_0⟩ := Kd.at_string (Kd.R_reads' HO_6.out).2.2 x11_2 p318 q318
                    cases e318
                    replace p318 := eq_true p318
                    replace q318 := eq_true q318
                    have p319 : 0 ≤ (x11_2 : Int) := of_decide_eq_true (by first | (with_reducible assumption) | assumption)
                    have q319 : x11_2 < (t310.length : Int) := of_decide_eq_true (by first | (with_reducible assumption) | assumption)
                    obtain ⟨ad319, e319, hx319_0⟩ := Kd.at_string (Kd.R_reads' HO_6.out).2.2 x11_2 p319 q319
                    obtain rfl : ad318 = ad319 := (by injection e319)
                    replace p319 := eq_true p319
                    replace q319 := eq_true q319
                    go_wp2_with (first | ((with_reducible refine gate_callee (f := 10) rfl ?_); refine goesL_ (some 91) rfl rfl Tryz.func10 (by kernel_rfl) rfl #[.slice (some ad318) t310.length co11, .string (((rdOf ByteArray.empty t310 x11_2).extract 0 (x12_4 : Int).toNat) ++ t313)] rfl (by (try simp only [List.map_toArray, List.map_cons, List.map_nil]); first | done | rfl | (simp only [List.length_drop, List.length_take]; rfl)) ?_; (with_reducible refine (spec_ParsesOf.calls k4 _ _ t310 (((rdOf ByteArray.empty t310 x11_2).extract 0 (x12_4 : Int).toNat) ++ t313) t320 true _ ?side1 ?side2 A31.out).mono ?_); (case side1 => repeat (first | exact (Kd.R_reads' HO_6.out).2.2 | (with_reducible refine Kd.C_alloc ?_ _) | (with_reducible refine Kd.C_drewN ?_ _) | (with_reducible refine Kd.C_drew ?_))); (case side2 => exact (Kd.R_reads' HO_6.out).2.1); rintro e w35 ⟨rfl, hb⟩; refine ⟨_, rfl, ?_⟩; have n0_ := Aside0.mk (Kd.R_below (by (with_reducible repeat (first | apply Kd.R_alloc | apply Kd.R_drewN | apply Kd.R_drew)); exact HO_6.out) hb); have n1_ := Aside0.mk (below_step (by repeat (first | (with_reducible first | exact HB.out | apply below_alloc | apply pw_below_drewN | apply below_drew1) | exact HB.out)) hb); clear HO_6; clear HB; have HO_6 := n0_; have HB := n1_; clear n0_ n1_; (try clear hb); (try clear hb2); (try clear hk); (try clear hi)))
                    go_ret
                    exact ⟨by first | rfl | (simp [errW_none, errW_some] <;> rfl) | (simp [*, errW_none, errW_some] <;> rfl), by repeat (first | (with_reducible first | exact HB.out | apply below_alloc | apply pw_below_drewN | apply below_drew1) | exact HB.out)⟩
                  ·replace c32 := Bool.eq_false_iff.mpr c32
                   subst c32
                   have H1 : (some false) = some r := by rw [if_neg (show ¬ (false = true) by decide)] at H; exact H
                   clear H
                   have H := H1
                   clear H1
                   obtain rfl := Option.some.inj H
                   have p318 : 0 ≤ (x11_2 : Int) := of_decide_eq_true (by first | (with_reducible assumption) | assumption)
                   have q318 : x11_2 < (t310.length : Int) := of_decide_eq_true (by first | (with_reducible assumption) | assumption)
                   obtain ⟨ad318, e318, hx318_0⟩ := Kd.at_string (Kd.R_reads' HO_6.out).2.2 x11_2 p318 q318
                   cases e318
                   replace p318 := eq_true p318
                   replace q318 := eq_true q318
                   have p319 : 0 ≤ (x11_2 : Int) := of_decide_eq_true (by first | (with_reducible assumption) | assumption)
                   have q319 : x11_2 < (t310.length : Int) := of_decide_eq_true (by first | (with_reducible assumption) | assumption)
                   obtain ⟨ad319, e319, hx319_0⟩ := Kd.at_string (Kd.R_reads' HO_6.out).2.2 x11_2 p319 q319
                   obtain rfl : ad318 = ad319 := (by injection e319)
                   replace p319 := eq_true p319
                   replace q319 := eq_true q319
                   go_wp2_with (first | ((with_reducible refine gate_callee (f := 10) rfl ?_); refine goesL_ (some 91) rfl rfl Tryz.func10 (by kernel_rfl) rfl #[.slice (some ad318) t310.length co11, .string (((rdOf ByteArray.empty t310 x11_2).extract 0 (x12_4 : Int).toNat) ++ t313)] rfl (by (try simp only [List.map_toArray, List.map_cons, List.map_nil]); first | done | rfl | (simp only [List.length_drop, List.length_take]; rfl)) ?_; (with_reducible refine (spec_ParsesOf.calls k4 _ _ t310 (((rdOf ByteArray.empty t310 x11_2).extract 0 (x12_4 : Int).toNat) ++ t313) t320 false _ ?side1 ?side2 A31.out).mono ?_); (case side1 => repeat (first | exact (Kd.R_reads' HO_6.out).2.2 | (with_reducible refine Kd.C_alloc ?_ _) | (with_reducible refine Kd.C_drewN ?_ _) | (with_reducible refine Kd.C_drew ?_))); (case side2 => exact (Kd.R_reads' HO_6.out).2.1); rintro e w36 ⟨rfl, hb⟩; refine ⟨_, rfl, ?_⟩; have n0_ := Aside0.mk (Kd.R_below (by (with_reducible repeat (first | apply Kd.R_alloc | apply Kd.R_drewN | apply Kd.R_drew)); exact HO_6.out) hb); have n1_ := Aside0.mk (below_step (by repeat (first | (with_reducible first | exact HB.out | apply below_alloc | apply pw_below_drewN | apply below_drew1) | exact HB.out)) hb); clear HO_6; clear HB; have HO_6 := n0_; have HB := n1_; clear n0_ n1_; (try clear hb); (try clear hb2); (try clear hk); (try clear hi)))
                   go_ret
                   exact ⟨by first | rfl | (simp [errW_none, errW_some] <;> rfl) | (simp [*, errW_none, errW_some] <;> rfl), by repeat (first | (with_reducible first | exact HB.out | apply below_alloc | apply pw_below_drewN | apply below_drew1) | exact HB.out)⟩
                 ·rw [if_neg c30] at H
                  exact absurd H (by simp)
                ·rw [if_neg c29] at H
                 exact absurd H (by simp)
               ·rw [if_neg c28] at H
                exact absurd H (by simp)
              ·rw [if_neg c27] at H
               have c27b0 : decide (x12_4 < ((rdOf ByteArray.empty t310 x11_2).size : Int)) = false := decide_eq_false c27
               clear c27
               have H' := Aside0.mk H
               clear H
               have p318 : 0 ≤ (x11_2 : Int) := of_decide_eq_true (by first | (with_reducible assumption) | assumption)
               have q318 : x11_2 < (t310.length : Int) := of_decide_eq_true (by first | (with_reducible assumption) | assumption)
               obtain ⟨ad318, e318, hx318_0⟩ := Kd.at_string (Kd.R_reads' HO_6.out).2.2 x11_2 p318 q318
               cases e318
               replace p318 := eq_true p318
               replace q318 := eq_true q318
               go_wp2
               go_roundg k4
               case measure => have := HJ8.out; have := HK2.out; have := HJ21.out; have := HK4.out; omega
               case rel => exact ⟨(wrap64 (x11_2 + 1)), (by first | rfl | (simp; done) | (simp [*]; done)), H', ⟨by have := HJ8.out; have := HK2.out; have := HJ21.out; have := HK4.out; omega⟩, ⟨by (with_reducible repeat (first | apply Kd.R_alloc | apply Kd.R_drewN | apply Kd.R_drew)); exact HO_6.out⟩, ⟨by repeat (first | (with_reducible first | exact HB.out | apply below_alloc | apply pw_below_drewN | apply below_drew1) | exact HB.out)⟩⟩
             ·rw [if_neg c26] at H
              exact absurd H (by simp)
            ·rw [if_neg c25] at H
             exact absurd H (by simp)
         ·replace c24 := Bool.eq_false_iff.mpr c24
          subst c24
          have H1 : ((spec_B10Symbols.f kj21 l1 (wrap64 (2 + t309))).bind fun t322 => (laws_FnSynchronised.l2 kj21 l1 t310 t322 (⟨#[]⟩ : ByteArray) (([] : List Int)) 0)) = some r := by rw [if_neg (show ¬ (false = true) by decide)] at H; exact H
          clear H
          have H := H1
          clear H1
          replace H := Option.bind_eq_some_iff.mp H
          obtain ⟨t322, A370, H⟩ := H
          replace H : (laws_FnSynchronised.l2 kj21 l1 t310 t322 (⟨#[]⟩ : ByteArray) (([] : List Int)) 0) = some r := H
          have A37 := Aside0.mk A370
          clear A370
          obtain ⟨y325, hy325⟩ : ∃ y_ : List Int, y_ = (([] : List Int)) := ⟨_, rfl⟩
          replace H : (laws_FnSynchronised.l2 kj21 l1 t310 t322 (⟨#[]⟩ : ByteArray) y325 0) = some r := by first | (rw [hy325]; with_reducible exact H) | (have H2_ := (Option.bind_some _ _).symm.trans H; rw [hy325]; with_reducible exact H2_) | (have H2_ := (Option.bind_some _ _).symm.trans H; with_reducible exact H2_) | with_reducible exact H | (rw [hy325]; exact H) | exact H
          have Ny325 := Aside0.mk hy325
          clear hy325
          have H' := Aside0.mk H
          clear H
          go_wp2_with (first | ((with_reducible refine gate_callee (f := 11) rfl ?_); refine goesL_ (some 102) rfl rfl Tryz.func11 (by kernel_rfl) rfl #[.slice A1 l1.length c1, .int .i64 (wrap64 (2 + t309))] rfl (by (try simp only [List.map_toArray, List.map_cons, List.map_nil]); first | done | rfl | (simp only [List.length_drop, List.length_take]; rfl)) ?_; (with_reducible refine (spec_B10Symbols.calls kj21 _ _ l1 (wrap64 (2 + t309)) t322 _ ?side1 ?side2 A37.out).mono ?_); (case side1 => repeat (first | exact (Kd.C_below HR1.out HB.out) | (with_reducible refine Kd.C_alloc ?_ _) | (with_reducible refine Kd.C_drewN ?_ _) | (with_reducible refine Kd.C_drew ?_))); (case side2 => exact HC1.out); rintro e w38 ⟨v323, rfl, ho0, hb⟩; refine ⟨_, rfl, ?_⟩; have n0_ := Aside0.mk (Kd.R_below (by (with_reducible repeat (first | apply Kd.R_alloc | apply Kd.R_drewN | apply Kd.R_drew)); exact HO_6.out) hb); have n1_ := Aside0.mk (Kd.R_lower ho0 (below_size (by repeat (first | (with_reducible first | exact HB.out | apply below_alloc | apply pw_below_drewN | apply below_drew1) | exact HB.out)))); have n2_ := Aside0.mk (below_step (by repeat (first | (with_reducible first | exact HB.out | apply below_alloc | apply pw_below_drewN | apply below_drew1) | exact HB.out)) hb); clear HO_6; clear HB; have HO_6 := n0_; have HO324 := n1_; have HB := n2_; clear n0_ n1_ n2_; (try clear hb); (try clear hb2); (try clear hk); (try clear hi); (try clear ho0)) | ((with_reducible refine gate_dst (N := 103) rfl ?_); (try (refine gate_guard (by rfl) ?_; dsimp only)); refine Kd.R_lit (Kd.int .i64) _ 2 ?hg (N := 103) ?hd (xs := ([] : List Int)) (inner := []) (ok := fun _ => True) (okp := fun _ => True) ?hr ?hp (fun _ hk => hk) trivial (Below.refl _ _) (Nat.le_refl _) (by simp) ?_; (case hd => rfl); (case hg => rfl); (case hr => first | (go_simp; done) | (go_simp; rfl)); (case hp => exact (Reps.none _ _)); intro v326 w39 ho40 hb hg_ hnew_; clear hg_ hnew_; (first | rw [← Ny325.out] at ho40 | (simp only [Int.reduceToNat] at ho40; rw [← Ny325.out] at ho40)); have n0_ := Aside0.mk (Kd.R_below (by (with_reducible repeat (first | apply Kd.R_alloc | apply Kd.R_drewN | apply Kd.R_drew)); exact HO_6.out) hb); have n1_ := Aside0.mk (Kd.R_elder' (by (with_reducible repeat (first | apply Kd.R_alloc | apply Kd.R_drewN | apply Kd.R_drew)); exact HO324.out) (Kd.R_base ho40) hb); have n2_ := Aside0.mk (Kd.R_lower (Kd.R_new' ho40 (Kd.R_lt (by (with_reducible repeat (first | apply Kd.R_alloc | apply Kd.R_drewN | apply Kd.R_drew)); exact HO324.out))) (below_size (by repeat (first | (with_reducible first | exact HB.out | apply below_alloc | apply pw_below_drewN | apply below_drew1) | exact HB.out)))); have n3_ := Aside0.mk (below_step (by repeat (first | (with_reducible first | exact HB.out | apply below_alloc | apply pw_below_drewN | apply below_drew1) | exact HB.out)) hb); clear HO_6; clear HO324; clear HB; have HO_6 := n0_; have HO324 := n1_; have HO327 := n2_; have HB := n3_; clear n0_ n1_ n2_ n3_; clear hb ho40))
          go_loopg [16, 17, 18] kj21 (fun kq v16 v17 v18 w' => ∃ (x16_4 : ByteArray) (x17_4 : List Int) (x18_4 : Int), v16 = .string x16_4 ∧ v18 = .int .i64 x18_4 ∧ Aside0 (laws_FnSynchronised.l2 kq l1 t310 t322 x16_4 x17_4 x18_4 = some r) ∧ Aside0 (kq ≤ kj21) ∧ Aside0 (Kd.R Kd.string 9 w' w.heap.size (fun _ => True) (.slice Ao11 t310.length co11) t310) ∧ Aside0 (Kd.R (Kd.int .i64) 2 w' w.heap.size (fun k_ => some k_ ≠ (v17 : Value).ownBlock) v323 t322) ∧ Aside0 (Kd.R (Kd.int .i64) 2 w' w.heap.size (fun k_ => some k_ ≠ (v323 : Value).ownBlock) v17 x17_4) ∧ Aside0 (Below w.heap.size w w'))
          case atStart => exact ⟨((⟨#[]⟩ : ByteArray)), (y325), (0), (by first | rfl | (simp; done) | (simp [*]; done)), (by first | rfl | (simp; done) | (simp [*]; done)), H', ⟨Nat.le_refl _⟩, ⟨by (with_reducible repeat (first | apply Kd.R_alloc | apply Kd.R_drewN | apply Kd.R_drew)); exact HO_6.out⟩, ⟨by (with_reducible repeat (first | apply Kd.R_alloc | apply Kd.R_drewN | apply Kd.R_drew)); exact Kd.R_mono HO324.out (fun _ hk => hk.2)⟩, ⟨by (with_reducible repeat (first | apply Kd.R_alloc | apply Kd.R_drewN | apply Kd.R_drew)); exact Kd.R_mono HO327.out (fun _ hk => hk.2)⟩, ⟨by repeat (first | (with_reducible first | exact HB.out | apply below_alloc | apply pw_below_drewN | apply below_drew1) | exact HB.out)⟩⟩
          case round =>
           clear H'
           try clear c1
           try clear c2
           try clear p2
           try clear c3
           try clear p3
           try clear q3
           try clear hx3
           try clear c4
           try clear c5
           try clear c6
           try clear p6
           try clear c7
           try clear c8
           try clear c10
           try clear c11
           try clear c14
           try clear c14b0
           try clear c14b1
           try clear c14b2
           try clear c16
           try clear c17
           try clear c21
           try clear c23
           try clear c24
           try clear c25
           try clear c25b0
           try clear c26
           try clear c26b0
           try clear c27
           try clear c27b0
           try clear c28
           try clear c28b0
           try clear c28b1
           try clear c29
           try clear c29b0
           try clear c29b1
           try clear c30
           try clear c30b0
           try clear c30b1
           try clear c30b2
           try clear p31
           try clear q31
           try clear hx31
           try clear c32
           try clear c33
           try clear c33b0
           try clear c33b1
           try clear hx318_0
           try clear hx319_0
           try clear p2
           try clear p318
           try clear p319
           try clear p6
           try clear q318
           try clear q319
           obtain ⟨x16_4, x17_4, x18_4, rfl, rfl, HA, HK4, HO_6, HO_15, HO_17, HB⟩ := hrel
           cases gk with
           | zero => exact absurd HA.out (by simp [laws_FnSynchronised.l2])
           | succ k4 =>
            have H := HA.out
            clear HA
            simp only [laws_FnSynchronised.l2] at H
            by_cases c41 : x18_4 < (t322.length : Int)
            ·rw [if_pos c41] at H
             have c41b0 : decide (x18_4 < (t322.length : Int)) = true := decide_eq_true c41
             clear c41
             by_cases c42 : 0 ≤ x18_4
             ·rw [if_pos c42] at H
              have c42b0 : decide (0 ≤ x18_4) = true := decide_eq_true c42
              clear c42
              by_cases c43 : 0 ≤ (rd t322 x18_4)
              ·rw [if_pos c43] at H
               have c43b0 : decide (0 ≤ (rd t322 x18_4)) = true := decide_eq_true c43
               clear c43
               by_cases c44 : (rd t322 x18_4) < (t310.length : Int)
               ·rw [if_pos c44] at H
                have c44b0 : decide ((rd t322 x18_4) < (t310.length : Int)) = true := decide_eq_true c44
                clear c44
                by_cases c45 : x16_4.size + (rdOf ByteArray.empty t310 (rd t322 x18_4)).size ≤ 9223372036854775807
                ·rw [if_pos c45] at H
                 have c45b0 := eq_true c45
                 have c45b1 : decide (x16_4.size + (rdOf ByteArray.empty t310 (rd t322 x18_4)).size ≤ 9223372036854775807) = true := decide_eq_true c45
                 try have c45b2 : (9223372036854775807 < x16_4.size + (rdOf ByteArray.empty t310 (rd t322 x18_4)).size) = False := eq_false (Nat.not_lt.2 c45)
                 by_cases c46 : x17_4.length < 17592186044416
                 ·rw [if_pos c46] at H
                  have LMc46 := Aside0.mk c46
                  clear c46
                  obtain ⟨y330, hy330⟩ : ∃ y_ : List Int, y_ = (x17_4 ++ [((x16_4 ++ (rdOf ByteArray.empty t310 (rd t322 x18_4))).size : Int)]) := ⟨_, rfl⟩
                  replace H : (laws_FnSynchronised.l2 k4 l1 t310 t322 (x16_4 ++ (rdOf ByteArray.empty t310 (rd t322 x18_4))) y330 (wrap64 (x18_4 + 1))) = some r := by first | (rw [hy330]; with_reducible exact H) | (have H2_ := (Option.bind_some _ _).symm.trans H; rw [hy330]; with_reducible exact H2_) | (have H2_ := (Option.bind_some _ _).symm.trans H; with_reducible exact H2_) | with_reducible exact H | (rw [hy330]; exact H) | exact H
                  have ey330_ : ((x16_4 ++ (rdOf ByteArray.empty t310 (rd t322 x18_4))).size : Int) = ((x16_4.size : Int) + ((rdOf ByteArray.empty t310 (rd t322 x18_4)).size : Int)) := by rw [ByteArray.size_append, Int.natCast_add]
                  rw [ey330_] at hy330
                  clear ey330_
                  have Ny330 := Aside0.mk hy330
                  clear hy330
                  have H' := Aside0.mk H
                  clear H
                  obtain ⟨Ao47, co47, eo47⟩ := Kd.R_slice HO_15.out
                  subst eo47
                  have p328 : 0 ≤ (x18_4 : Int) := of_decide_eq_true (by first | (with_reducible assumption) | assumption)
                  have q328 : x18_4 < (t322.length : Int) := of_decide_eq_true (by first | (with_reducible assumption) | assumption)
                  obtain ⟨ad328, e328, hx328_0⟩ := Kd.at_int (Kd.R_reads' HO_15.out).2.2 x18_4 p328 q328
                  cases e328
                  replace p328 := eq_true p328
                  replace q328 := eq_true q328
                  have p329 : 0 ≤ ((rd t322 x18_4) : Int) := of_decide_eq_true (by first | (with_reducible assumption) | assumption)
                  have q329 : (rd t322 x18_4) < (t310.length : Int) := of_decide_eq_true (by first | (with_reducible assumption) | assumption)
                  obtain ⟨ad329, e329, hx329_0⟩ := Kd.at_string (Kd.R_reads' HO_6.out).2.2 (rd t322 x18_4) p329 q329
                  cases e329
                  replace p329 := eq_true p329
                  replace q329 := eq_true q329
                  go_wp2_with (first | ((with_reducible refine gate_builtin (b := .append) (xs := #[.tmp 119, .tmp 122]) rfl ?_); (try (refine gate_guard (by rfl) ?_; dsimp only)); at_builtin; refine Kd.R_append (Kd.int .i64) (w0 := w) w.heap.size rfl (.tmp 119) (.tmp 122) 32 2 (.int .i64 0) 8 rfl Tryz.underlying32 info2 rfl (by decide) (by omega) u17 x17_4 ((x16_4.size : Int) + ((rdOf ByteArray.empty t310 (rd t322 x18_4)).size : Int)) [.int .i64 ((x16_4.size : Int) + ((rdOf ByteArray.empty t310 (rd t322 x18_4)).size : Int))] (fun k_ => some k_ ≠ (.slice (some ad328) t322.length co47 : Value).ownBlock) (fun _ => False) rfl rfl ?aP (fun _ hk => hk.elim) ?aF ?aO ?aB ?aS ?aL ?_; (case aP => exact rfl); (case aB => exact (by repeat (first | (with_reducible first | exact HB.out | apply below_alloc | apply pw_below_drewN | apply below_drew1) | exact HB.out))); (case aF => exact (fun k_ hk => Kd.fresh' (Kd.R_lt (by (with_reducible repeat (first | apply Kd.R_alloc | apply Kd.R_drewN | apply Kd.R_drew)); exact HO_15.out)) k_ hk)); (case aO => exact (by (with_reducible repeat (first | apply Kd.R_alloc | apply Kd.R_drewN | apply Kd.R_drew)); exact HO_17.out)); (case aS => exact (below_size (by repeat (first | (with_reducible first | exact HB.out | apply below_alloc | apply pw_below_drewN | apply below_drew1) | exact HB.out)))); (case aL => have := LMc46.out; omega); intro v331 w48 ho hb hg hat; rw [← Ny330.out] at ho; have n0_ := Aside0.mk (Kd.R_over' (by (with_reducible repeat (first | apply Kd.R_alloc | apply Kd.R_drewN | apply Kd.R_drew)); exact HO_6.out) (Kd.R_typed (by (with_reducible repeat (first | apply Kd.R_alloc | apply Kd.R_drewN | apply Kd.R_drew)); exact HO_17.out)) (by decide) hg); have n1_ := Aside0.mk (Kd.R_after (ok := (fun _ => True)) (by (with_reducible repeat (first | apply Kd.R_alloc | apply Kd.R_drewN | apply Kd.R_drew)); exact Kd.R_mono HO_15.out (fun _ hk => ⟨trivial, hk⟩)) hg hat); have n2_ := Aside0.mk (hb); have n3_ := Aside0.mk (ho); clear HO_6; clear HO_15; clear HB; clear HO_17; have HO_6 := n0_; have HO_15 := n1_; have HB := n2_; have HO332 := n3_; clear n0_ n1_ n2_ n3_; clear ho hb hg hat))
                  go_roundg k4
                  case measure => have := HJ8.out; have := HK2.out; have := HJ21.out; have := HK4.out; omega
                  case rel => exact ⟨(x16_4 ++ (rdOf ByteArray.empty t310 (rd t322 x18_4))), (y330), (wrap64 (x18_4 + 1)), (by first | rfl | (simp; done) | (simp [*]; done)), (by first | rfl | (simp; done) | (simp [*]; done)), H', ⟨by have := HJ8.out; have := HK2.out; have := HJ21.out; have := HK4.out; omega⟩, ⟨by (with_reducible repeat (first | apply Kd.R_alloc | apply Kd.R_drewN | apply Kd.R_drew)); exact HO_6.out⟩, ⟨by (with_reducible repeat (first | apply Kd.R_alloc | apply Kd.R_drewN | apply Kd.R_drew)); exact Kd.R_mono HO_15.out (fun _ hk => hk.2)⟩, ⟨by (with_reducible repeat (first | apply Kd.R_alloc | apply Kd.R_drewN | apply Kd.R_drew)); exact HO332.out⟩, ⟨by repeat (first | (with_reducible first | exact HB.out | apply below_alloc | apply pw_below_drewN | apply below_drew1) | exact HB.out)⟩⟩
                 ·rw [if_neg c46] at H
                  exact absurd H (by simp)
                ·rw [if_neg c45] at H
                 exact absurd H (by simp)
               ·rw [if_neg c44] at H
                exact absurd H (by simp)
              ·rw [if_neg c43] at H
               exact absurd H (by simp)
             ·rw [if_neg c42] at H
              exact absurd H (by simp)
            ·rw [if_neg c41] at H
             have c41b0 : decide (x18_4 < (t322.length : Int)) = false := decide_eq_false c41
             clear c41
             by_cases c49 : x16_4.toList = ([] : List UInt8)
             ·rw [if_pos c49] at H
              have c49b0 : (x16_4.toList == ([] : List UInt8)) = true := beq_iff_eq.mpr c49
              have c49b1 : (x16_4.toList != ([] : List UInt8)) = false := bne_eq_false_iff_eq.mpr c49
              clear c49
              obtain rfl := Option.some.inj H
              obtain ⟨Ao50, co50, eo50⟩ := Kd.R_slice HO_15.out
              subst eo50
              go_wp2
              go_ret
              exact ⟨by first | rfl | (simp [errW_none, errW_some] <;> rfl) | (simp [*, errW_none, errW_some] <;> rfl), by repeat (first | (with_reducible first | exact HB.out | apply below_alloc | apply pw_below_drewN | apply below_drew1) | exact HB.out)⟩
             ·rw [if_neg c49] at H
              have c49b0 : (x16_4.toList == ([] : List UInt8)) = false := beq_eq_false_iff_ne.mpr c49
              have c49b1 : (x16_4.toList != ([] : List UInt8)) = true := bne_iff_ne.mpr c49
              replace H := Option.bind_eq_some_iff.mp H
              obtain ⟨t333, A510, H⟩ := H
              replace H : ((impl_FlipLoss.f k4 t310 t322 t333).bind fun bt334 => ((spec_FlipLoss.f k4 t310 t322 t333).bind fun bt337 => (if (bt334.2.2 != bt337.2.2) = true then (some false) else (if bt334.2.2 = true then (laws_FnSynchronised.l3 k4 x16_4 x17_4 t333 bt334.1 bt334.2.1 0 0) else (some true))))) = some r := H
              have A51 := Aside0.mk A510
              clear A510
              replace H := Option.bind_eq_some_iff.mp H
              obtain ⟨⟨t334, t335, t336⟩, A520, H⟩ := H
              replace H : ((spec_FlipLoss.f k4 t310 t322 t333).bind fun bt337 => (if (t336 != bt337.2.2) = true then (some false) else (if t336 = true then (laws_FnSynchronised.l3 k4 x16_4 x17_4 t333 t334 t335 0 0) else (some true)))) = some r := H
              have A52 := Aside0.mk A520
              clear A520
              replace H := Option.bind_eq_some_iff.mp H
              obtain ⟨⟨t337, t338, t339⟩, A530, H⟩ := H
              replace H : (if (t336 != t339) = true then (some false) else (if t336 = true then (laws_FnSynchronised.l3 k4 x16_4 x17_4 t333 t334 t335 0 0) else (some true))) = some r := H
              have A53 := Aside0.mk A530
              clear A530
              by_cases c54 : (t336 != t339) = true
              ·rw [if_pos c54] at H
               have c54b0 : (t336 != t339) = true := c54
               (try (have c54b1 : decide (t336 = t339) = false := by simpa using c54))
               (try (have c54b2 : (t336 == t339) = false := by simpa using c54))
               (try (have c54b3 : ¬ (t336 = t339) := by simpa using c54))
               clear c54
               obtain rfl := Option.some.inj H
               obtain ⟨Ao55, co55, eo55⟩ := Kd.R_slice HO_15.out
               subst eo55
               go_wp2_with (first | ((with_reducible refine gate_callee (f := 5) rfl ?_); refine goesL_ (some 129) rfl rfl Tryz.func5 (by kernel_rfl) rfl #[.slice A1 l1.length c1, .int .i64 1, .int .i64 (x16_4.size : Int)] rfl (by (try simp only [List.map_toArray, List.map_cons, List.map_nil]); first | done | rfl | (simp only [List.length_drop, List.length_take]; rfl)) ?_; (with_reducible refine (laws_b10At.calls _ _ l1 1 (x16_4.size : Int) t333 _ ?side1 ?side2 A51.out).mono ?_); (case side1 => repeat (first | exact (Kd.C_below HR1.out HB.out) | (with_reducible refine Kd.C_alloc ?_ _) | (with_reducible refine Kd.C_drewN ?_ _) | (with_reducible refine Kd.C_drew ?_))); (case side2 => exact HC1.out); rintro e w' ⟨rfl, ⟨nd, rfl⟩⟩; refine ⟨_, rfl, ?_⟩) | ((with_reducible refine gate_callee (f := 12) rfl ?_); refine goesL_ (some 134) rfl rfl Tryz.func12 (by kernel_rfl) rfl #[.slice Ao11 t310.length co11, .slice Ao55 t322.length co55, .int .i64 t333] rfl (by (try simp only [List.map_toArray, List.map_cons, List.map_nil]); first | done | rfl | (simp only [List.length_drop, List.length_take]; rfl)) ?_; (with_reducible refine (impl_FlipLoss.calls k4 _ _ t310 _ _ t322 t333 t334 t335 t336 _ ?side1 ?side2 ?side3 ?side4 A52.out).mono ?_); (case side1 => repeat (first | exact (Kd.R_reads' HO_6.out).2.2 | (with_reducible refine Kd.C_alloc ?_ _) | (with_reducible refine Kd.C_drewN ?_ _) | (with_reducible refine Kd.C_drew ?_))); (case side2 => exact (Kd.R_reads' HO_6.out).2.1); (case side3 => repeat (first | exact (Kd.R_reads' HO_15.out).2.2 | (with_reducible refine Kd.C_alloc ?_ _) | (with_reducible refine Kd.C_drewN ?_ _) | (with_reducible refine Kd.C_drew ?_))); (case side4 => exact (Kd.R_reads' HO_15.out).2.1); rintro e w56 ⟨rfl, hb⟩; refine ⟨_, rfl, ?_⟩; have n0_ := Aside0.mk (Kd.R_below (by (with_reducible repeat (first | apply Kd.R_alloc | apply Kd.R_drewN | apply Kd.R_drew)); exact HO_6.out) hb); have n1_ := Aside0.mk (Kd.R_below (by (with_reducible repeat (first | apply Kd.R_alloc | apply Kd.R_drewN | apply Kd.R_drew)); exact HO_15.out) hb); have n2_ := Aside0.mk (Kd.R_below (by (with_reducible repeat (first | apply Kd.R_alloc | apply Kd.R_drewN | apply Kd.R_drew)); exact HO_17.out) hb); have n3_ := Aside0.mk (below_step (by repeat (first | (with_reducible first | exact HB.out | apply below_alloc | apply pw_below_drewN | apply below_drew1) | exact HB.out)) hb); clear HO_6; clear HO_15; clear HO_17; clear HB; have HO_6 := n0_; have HO_15 := n1_; have HO_17 := n2_; have HB := n3_; clear n0_ n1_ n2_ n3_; (try clear hb); (try clear hb2); (try clear hk); (try clear hi)) | ((with_reducible refine gate_callee (f := 13) rfl ?_); refine goesL_ (some 142) rfl rfl Tryz.func13 (by kernel_rfl) rfl #[.slice Ao11 t310.length co11, .slice Ao55 t322.length co55, .int .i64 t333] rfl (by (try simp only [List.map_toArray, List.map_cons, List.map_nil]); first | done | rfl | (simp only [List.length_drop, List.length_take]; rfl)) ?_; (with_reducible refine (spec_FlipLoss.calls k4 _ _ t310 _ _ t322 t333 t337 t338 t339 _ ?side1 ?side2 ?side3 ?side4 A53.out).mono ?_); (case side1 => repeat (first | exact (Kd.R_reads' HO_6.out).2.2 | (with_reducible refine Kd.C_alloc ?_ _) | (with_reducible refine Kd.C_drewN ?_ _) | (with_reducible refine Kd.C_drew ?_))); (case side2 => exact (Kd.R_reads' HO_6.out).2.1); (case side3 => repeat (first | exact (Kd.R_reads' HO_15.out).2.2 | (with_reducible refine Kd.C_alloc ?_ _) | (with_reducible refine Kd.C_drewN ?_ _) | (with_reducible refine Kd.C_drew ?_))); (case side4 => exact (Kd.R_reads' HO_15.out).2.1); rintro e w57 ⟨rfl, hb⟩; refine ⟨_, rfl, ?_⟩; have n0_ := Aside0.mk (Kd.R_below (by (with_reducible repeat (first | apply Kd.R_alloc | apply Kd.R_drewN | apply Kd.R_drew)); exact HO_6.out) hb); have n1_ := Aside0.mk (Kd.R_below (by (with_reducible repeat (first | apply Kd.R_alloc | apply Kd.R_drewN | apply Kd.R_drew)); exact HO_15.out) hb); have n2_ := Aside0.mk (Kd.R_below (by (with_reducible repeat (first | apply Kd.R_alloc | apply Kd.R_drewN | apply Kd.R_drew)); exact HO_17.out) hb); have n3_ := Aside0.mk (below_step (by repeat (first | (with_reducible first | exact HB.out | apply below_alloc | apply pw_below_drewN | apply below_drew1) | exact HB.out)) hb); clear HO_6; clear HO_15; clear HO_17; clear HB; have HO_6 := n0_; have HO_15 := n1_; have HO_17 := n2_; have HB := n3_; clear n0_ n1_ n2_ n3_; (try clear hb); (try clear hb2); (try clear hk); (try clear hi)))
               go_ret
               exact ⟨by first | rfl | (simp [errW_none, errW_some] <;> rfl) | (simp [*, errW_none, errW_some] <;> rfl), by repeat (first | (with_reducible first | exact HB.out | apply below_alloc | apply pw_below_drewN | apply below_drew1) | exact HB.out)⟩
              ·rw [if_neg c54] at H
               have c54b0 : (t336 != t339) = false := by simpa using c54
               (try (have c54b1 : decide (t336 = t339) = true := by simpa using c54))
               (try (have c54b2 : (t336 == t339) = true := by simpa using c54))
               clear c54
               by_cases c58 : t336 = true
               ·subst c58
                have H1 : (laws_FnSynchronised.l3 k4 x16_4 x17_4 t333 t334 t335 0 0) = some r := by rw [if_pos rfl] at H; exact H
                clear H
                have H := H1
                clear H1
                have H' := Aside0.mk H
                clear H
                obtain ⟨Ao59, co59, eo59⟩ := Kd.R_slice HO_15.out
                subst eo59
                go_wp2_with (first | ((with_reducible refine gate_callee (f := 5) rfl ?_); refine goesL_ (some 129) rfl rfl Tryz.func5 (by kernel_rfl) rfl #[.slice A1 l1.length c1, .int .i64 1, .int .i64 (x16_4.size : Int)] rfl (by (try simp only [List.map_toArray, List.map_cons, List.map_nil]); first | done | rfl | (simp only [List.length_drop, List.length_take]; rfl)) ?_; (with_reducible refine (laws_b10At.calls _ _ l1 1 (x16_4.size : Int) t333 _ ?side1 ?side2 A51.out).mono ?_); (case side1 => repeat (first | exact (Kd.C_below HR1.out HB.out) | (with_reducible refine Kd.C_alloc ?_ _) | (with_reducible refine Kd.C_drewN ?_ _) | (with_reducible refine Kd.C_drew ?_))); (case side2 => exact HC1.out); rintro e w' ⟨rfl, ⟨nd, rfl⟩⟩; refine ⟨_, rfl, ?_⟩) | ((with_reducible refine gate_callee (f := 12) rfl ?_); refine goesL_ (some 134) rfl rfl Tryz.func12 (by kernel_rfl) rfl #[.slice Ao11 t310.length co11, .slice Ao59 t322.length co59, .int .i64 t333] rfl (by (try simp only [List.map_toArray, List.map_cons, List.map_nil]); first | done | rfl | (simp only [List.length_drop, List.length_take]; rfl)) ?_; (with_reducible refine (impl_FlipLoss.calls k4 _ _ t310 _ _ t322 t333 t334 t335 true _ ?side1 ?side2 ?side3 ?side4 A52.out).mono ?_); (case side1 => repeat (first | exact (Kd.R_reads' HO_6.out).2.2 | (with_reducible refine Kd.C_alloc ?_ _) | (with_reducible refine Kd.C_drewN ?_ _) | (with_reducible refine Kd.C_drew ?_))); (case side2 => exact (Kd.R_reads' HO_6.out).2.1); (case side3 => repeat (first | exact (Kd.R_reads' HO_15.out).2.2 | (with_reducible refine Kd.C_alloc ?_ _) | (with_reducible refine Kd.C_drewN ?_ _) | (with_reducible refine Kd.C_drew ?_))); (case side4 => exact (Kd.R_reads' HO_15.out).2.1); rintro e w60 ⟨rfl, hb⟩; refine ⟨_, rfl, ?_⟩; have n0_ := Aside0.mk (Kd.R_below (by (with_reducible repeat (first | apply Kd.R_alloc | apply Kd.R_drewN | apply Kd.R_drew)); exact HO_6.out) hb); have n1_ := Aside0.mk (Kd.R_below (by (with_reducible repeat (first | apply Kd.R_alloc | apply Kd.R_drewN | apply Kd.R_drew)); exact HO_15.out) hb); have n2_ := Aside0.mk (Kd.R_below (by (with_reducible repeat (first | apply Kd.R_alloc | apply Kd.R_drewN | apply Kd.R_drew)); exact HO_17.out) hb); have n3_ := Aside0.mk (below_step (by repeat (first | (with_reducible first | exact HB.out | apply below_alloc | apply pw_below_drewN | apply below_drew1) | exact HB.out)) hb); clear HO_6; clear HO_15; clear HO_17; clear HB; have HO_6 := n0_; have HO_15 := n1_; have HO_17 := n2_; have HB := n3_; clear n0_ n1_ n2_ n3_; (try clear hb); (try clear hb2); (try clear hk); (try clear hi)) | ((with_reducible refine gate_callee (f := 13) rfl ?_); refine goesL_ (some 142) rfl rfl Tryz.func13 (by kernel_rfl) rfl #[.slice Ao11 t310.length co11, .slice Ao59 t322.length co59, .int .i64 t333] rfl (by (try simp only [List.map_toArray, List.map_cons, List.map_nil]); first | done | rfl | (simp only [List.length_drop, List.length_take]; rfl)) ?_; (with_reducible refine (spec_FlipLoss.calls k4 _ _ t310 _ _ t322 t333 t337 t338 t339 _ ?side1 ?side2 ?side3 ?side4 A53.out).mono ?_); (case side1 => repeat (first | exact (Kd.R_reads' HO_6.out).2.2 | (with_reducible refine Kd.C_alloc ?_ _) | (with_reducible refine Kd.C_drewN ?_ _) | (with_reducible refine Kd.C_drew ?_))); (case side2 => exact (Kd.R_reads' HO_6.out).2.1); (case side3 => repeat (first | exact (Kd.R_reads' HO_15.out).2.2 | (with_reducible refine Kd.C_alloc ?_ _) | (with_reducible refine Kd.C_drewN ?_ _) | (with_reducible refine Kd.C_drew ?_))); (case side4 => exact (Kd.R_reads' HO_15.out).2.1); rintro e w61 ⟨rfl, hb⟩; refine ⟨_, rfl, ?_⟩; have n0_ := Aside0.mk (Kd.R_below (by (with_reducible repeat (first | apply Kd.R_alloc | apply Kd.R_drewN | apply Kd.R_drew)); exact HO_6.out) hb); have n1_ := Aside0.mk (Kd.R_below (by (with_reducible repeat (first | apply Kd.R_alloc | apply Kd.R_drewN | apply Kd.R_drew)); exact HO_15.out) hb); have n2_ := Aside0.mk (Kd.R_below (by (with_reducible repeat (first | apply Kd.R_alloc | apply Kd.R_drewN | apply Kd.R_drew)); exact HO_17.out) hb); have n3_ := Aside0.mk (below_step (by repeat (first | (with_reducible first | exact HB.out | apply below_alloc | apply pw_below_drewN | apply below_drew1) | exact HB.out)) hb); clear HO_6; clear HO_15; clear HO_17; clear HB; have HO_6 := n0_; have HO_15 := n1_; have HO_17 := n2_; have HB := n3_; clear n0_ n1_ n2_ n3_; (try clear hb); (try clear hb2); (try clear hk); (try clear hi)))
                go_loopg [26, 27] k4 (fun kq v26 v27 w' => ∃ (x26_5 : Int) (x27_5 : Int), v26 = .int .i64 x26_5 ∧ v27 = .int .i64 x27_5 ∧ Aside0 (laws_FnSynchronised.l3 kq x16_4 x17_4 t333 t334 t335 x26_5 x27_5 = some r) ∧ Aside0 (kq ≤ k4) ∧ Aside0 (Kd.R (Kd.int .i64) 2 w' w.heap.size (fun _ => True) u17 x17_4) ∧ Aside0 (Below w.heap.size w w'))
                case atStart => exact ⟨(0), (0), (by first | rfl | (simp; done) | (simp [*]; done)), (by first | rfl | (simp; done) | (simp [*]; done)), H', ⟨Nat.le_refl _⟩, ⟨by (with_reducible repeat (first | apply Kd.R_alloc | apply Kd.R_drewN | apply Kd.R_drew)); exact Kd.R_mono HO_17.out (fun _ hk => trivial)⟩, ⟨by repeat (first | (with_reducible first | exact HB.out | apply below_alloc | apply pw_below_drewN | apply below_drew1) | exact HB.out)⟩⟩
                case round =>
                 clear H'
                 try clear c1
                 try clear c2
                 try clear p2
                 try clear c3
                 try clear p3
                 try clear q3
                 try clear hx3
                 try clear c4
                 try clear c5
                 try clear c6
                 try clear p6
                 try clear c7
                 try clear c8
                 try clear c10
                 try clear c11
                 try clear c12
                 try clear c13
                 try clear c14
                 try clear c14b0
                 try clear c14b1
                 try clear c14b2
                 try clear c16
                 try clear c17
                 try clear c21
                 try clear c23
                 try clear c24
                 try clear c25
                 try clear c25b0
                 try clear c26
                 try clear c26b0
                 try clear c27
                 try clear c27b0
                 try clear c28
                 try clear c28b0
                 try clear c28b1
                 try clear c29
                 try clear c29b0
                 try clear c29b1
                 try clear c30
                 try clear c30b0
                 try clear c30b1
                 try clear c30b2
                 try clear p31
                 try clear q31
                 try clear hx31
                 try clear c32
                 try clear p32
                 try clear q32
                 try clear hx32
                 try clear c33
                 try clear c33b0
                 try clear c33b1
                 try clear c41
                 try clear c41b0
                 try clear c42
                 try clear c42b0
                 try clear c43
                 try clear c43b0
                 try clear c44
                 try clear c44b0
                 try clear c45
                 try clear c45b0
                 try clear c45b1
                 try clear c45b2
                 try clear c46
                 try clear c49
                 try clear c49b0
                 try clear c49b1
                 try clear c54
                 try clear c54b0
                 try clear c54b1
                 try clear c54b2
                 try clear c58
                 try clear hx318_0
                 try clear hx319_0
                 try clear hx328_0
                 try clear hx329_0
                 try clear p2
                 try clear p3
                 try clear p31
                 try clear p318
                 try clear p319
                 try clear p328
                 try clear p329
                 try clear p6
                 try clear q3
                 try clear q31
                 try clear q318
                 try clear q319
                 try clear q328
                 try clear q329
                 obtain ⟨x26_5, x27_5, rfl, rfl, HA, HK5, HO_17, HB⟩ := hrel
                 cases gk with
                 | zero => exact absurd HA.out (by simp [laws_FnSynchronised.l3])
                 | succ k5 =>
                  have H := HA.out
                  clear HA
                  simp only [laws_FnSynchronised.l3] at H
                  by_cases c62 : x27_5 < (x17_4.length : Int)
                  ·rw [if_pos c62] at H
                   have c62b0 : decide (x27_5 < (x17_4.length : Int)) = true := decide_eq_true c62
                   clear c62
                   by_cases c63 : 0 ≤ x27_5
                   ·rw [if_pos c63] at H
                    have c63b0 : decide (0 ≤ x27_5) = true := decide_eq_true c63
                    clear c63
                    by_cases c64 : (rd x17_4 x27_5) > t333
                    ·rw [if_pos c64] at H
                     have c64b0 : decide (t333 < (rd x17_4 x27_5)) = true := decide_eq_true c64
                     clear c64
                     by_cases c65 : (rd x17_4 x27_5) ≤ t335
                     ·rw [if_pos c65] at H
                      have c65b0 : decide ((rd x17_4 x27_5) ≤ t335) = true := decide_eq_true c65
                      clear c65
                      have H' := Aside0.mk H
                      clear H
                      obtain ⟨Ao66, co66, eo66⟩ := Kd.R_slice HO_17.out
                      subst eo66
                      have p340 : 0 ≤ (x27_5 : Int) := of_decide_eq_true (by first | (with_reducible assumption) | assumption)
                      have q340 : x27_5 < (x17_4.length : Int) := of_decide_eq_true (by first | (with_reducible assumption) | assumption)
                      obtain ⟨ad340, e340, hx340_0⟩ := Kd.at_int (Kd.R_reads' HO_17.out).2.2 x27_5 p340 q340
                      cases e340
                      replace p340 := eq_true p340
                      replace q340 := eq_true q340
                      have p341 : 0 ≤ (x27_5 : Int) := of_decide_eq_true (by first | (with_reducible assumption) | assumption)
                      have q341 : x27_5 < (x17_4.length : Int) := of_decide_eq_true (by first | (with_reducible assumption) | assumption)
                      obtain ⟨ad341, e341, hx341_0⟩ := Kd.at_int (Kd.R_reads' HO_17.out).2.2 x27_5 p341 q341
                      obtain rfl : ad340 = ad341 := (by injection e341)
                      replace p341 := eq_true p341
                      replace q341 := eq_true q341
                      go_wp2
                      go_roundg k5
                      case measure => have := HJ8.out; have := HK2.out; have := HJ21.out; have := HK4.out; have := HK5.out; omega
                      case rel => exact ⟨(wrap64 (x26_5 + 1)), (wrap64 (x27_5 + 1)), (by first | rfl | (simp; done) | (simp [*]; done)), (by first | rfl | (simp; done) | (simp [*]; done)), H', ⟨by have := HJ8.out; have := HK2.out; have := HJ21.out; have := HK4.out; have := HK5.out; omega⟩, ⟨by (with_reducible repeat (first | apply Kd.R_alloc | apply Kd.R_drewN | apply Kd.R_drew)); exact HO_17.out⟩, ⟨by repeat (first | (with_reducible first | exact HB.out | apply below_alloc | apply pw_below_drewN | apply below_drew1) | exact HB.out)⟩⟩
                     ·rw [if_neg c65] at H
                      have c65b0 : decide ((rd x17_4 x27_5) ≤ t335) = false := decide_eq_false c65
                      clear c65
                      have H' := Aside0.mk H
                      clear H
                      obtain ⟨Ao67, co67, eo67⟩ := Kd.R_slice HO_17.out
                      subst eo67
                      have p340 : 0 ≤ (x27_5 : Int) := of_decide_eq_true (by first | (with_reducible assumption) | assumption)
                      have q340 : x27_5 < (x17_4.length : Int) := of_decide_eq_true (by first | (with_reducible assumption) | assumption)
                      obtain ⟨ad340, e340, hx340_0⟩ := Kd.at_int (Kd.R_reads' HO_17.out).2.2 x27_5 p340 q340
                      cases e340
                      replace p340 := eq_true p340
                      replace q340 := eq_true q340
                      have p341 : 0 ≤ (x27_5 : Int) := of_decide_eq_true (by first | (with_reducible assumption) | assumption)
                      have q341 : x27_5 < (x17_4.length : Int) := of_decide_eq_true (by first | (with_reducible assumption) | assumption)
                      obtain ⟨ad341, e341, hx341_0⟩ := Kd.at_int (Kd.R_reads' HO_17.out).2.2 x27_5 p341 q341
                      obtain rfl : ad340 = ad341 := (by injection e341)
                      replace p341 := eq_true p341
                      replace q341 := eq_true q341
                      go_wp2
                      go_roundg k5
                      case measure => have := HJ8.out; have := HK2.out; have := HJ21.out; have := HK4.out; have := HK5.out; omega
                      case rel => exact ⟨(x26_5), (wrap64 (x27_5 + 1)), (by first | rfl | (simp; done) | (simp [*]; done)), (by first | rfl | (simp; done) | (simp [*]; done)), H', ⟨by have := HJ8.out; have := HK2.out; have := HJ21.out; have := HK4.out; have := HK5.out; omega⟩, ⟨by (with_reducible repeat (first | apply Kd.R_alloc | apply Kd.R_drewN | apply Kd.R_drew)); exact HO_17.out⟩, ⟨by repeat (first | (with_reducible first | exact HB.out | apply below_alloc | apply pw_below_drewN | apply below_drew1) | exact HB.out)⟩⟩
                    ·rw [if_neg c64] at H
                     have c64b0 : decide (t333 < (rd x17_4 x27_5)) = false := decide_eq_false c64
                     clear c64
                     have H' := Aside0.mk H
                     clear H
                     obtain ⟨Ao68, co68, eo68⟩ := Kd.R_slice HO_17.out
                     subst eo68
                     have p340 : 0 ≤ (x27_5 : Int) := of_decide_eq_true (by first | (with_reducible assumption) | assumption)
                     have q340 : x27_5 < (x17_4.length : Int) := of_decide_eq_true (by first | (with_reducible assumption) | assumption)
                     obtain ⟨ad340, e340, hx340_0⟩ := Kd.at_int (Kd.R_reads' HO_17.out).2.2 x27_5 p340 q340
                     cases e340
                     replace p340 := eq_true p340
                     replace q340 := eq_true q340
                     go_wp2
                     go_roundg k5
                     case measure => have := HJ8.out; have := HK2.out; have := HJ21.out; have := HK4.out; have := HK5.out; omega
                     case rel => exact ⟨(x26_5), (wrap64 (x27_5 + 1)), (by first | rfl | (simp; done) | (simp [*]; done)), (by first | rfl | (simp; done) | (simp [*]; done)), H', ⟨by have := HJ8.out; have := HK2.out; have := HJ21.out; have := HK4.out; have := HK5.out; omega⟩, ⟨by (with_reducible repeat (first | apply Kd.R_alloc | apply Kd.R_drewN | apply Kd.R_drew)); exact HO_17.out⟩, ⟨by repeat (first | (with_reducible first | exact HB.out | apply below_alloc | apply pw_below_drewN | apply below_drew1) | exact HB.out)⟩⟩
                   ·rw [if_neg c63] at H
                    exact absurd H (by simp)
                  ·rw [if_neg c62] at H
                   have c62b0 : decide (x27_5 < (x17_4.length : Int)) = false := decide_eq_false c62
                   clear c62
                   by_cases c69 : t335 > t333
                   ·rw [if_pos c69] at H
                    have c69b0 : decide (t333 < t335) = true := decide_eq_true c69
                    clear c69
                    by_cases c70 : t335 ≤ (x16_4.size : Int)
                    ·rw [if_pos c70] at H
                     have c70b0 : decide (t335 ≤ (x16_4.size : Int)) = true := decide_eq_true c70
                     clear c70
                     replace H := Option.bind_eq_some_iff.mp H
                     obtain ⟨t342, A710, H⟩ := H
                     replace H : (if t342 = true then (if x26_5 = t334 then (some (decide (t334 ≥ 1))) else (some false)) else (some false)) = some r := H
                     have A71 := Aside0.mk A710
                     clear A710
                     by_cases c72 : t342 = true
                     ·subst c72
                      have H1 : (if x26_5 = t334 then (some (decide (t334 ≥ 1))) else (some false)) = some r := by rw [if_pos rfl] at H; exact H
                      clear H
                      have H := H1
                      clear H1
                      by_cases c73 : x26_5 = t334
                      ·rw [if_pos c73] at H
                       have c73b0 : (x26_5 == t334) = true := beq_iff_eq.mpr c73
                       have c73b1 : (x26_5 != t334) = false := bne_eq_false_iff_eq.mpr c73
                       clear c73
                       obtain rfl := Option.some.inj H
                       obtain ⟨Ao74, co74, eo74⟩ := Kd.R_slice HO_17.out
                       subst eo74
                       go_wp2_with (first | (go_at_call 14; (with_reducible refine (laws_b10Has.calls k5 _ _ x17_4 t335 true _ ?side1 ?side2 A71.out).mono ?_); (case side1 => repeat (first | exact (Kd.R_reads' HO_17.out).2.2 | (with_reducible refine Kd.C_alloc ?_ _) | (with_reducible refine Kd.C_drewN ?_ _) | (with_reducible refine Kd.C_drew ?_))); (case side2 => exact (Kd.R_reads' HO_17.out).2.1); rintro e w' ⟨rfl, ⟨nd, rfl⟩⟩))
                       go_ret
                       exact ⟨by first | rfl | (simp [errW_none, errW_some] <;> rfl) | (simp [*, errW_none, errW_some] <;> rfl), by repeat (first | (with_reducible first | exact HB.out | apply below_alloc | apply pw_below_drewN | apply below_drew1) | exact HB.out)⟩
                      ·rw [if_neg c73] at H
                       have c73b0 : (x26_5 == t334) = false := beq_eq_false_iff_ne.mpr c73
                       have c73b1 : (x26_5 != t334) = true := bne_iff_ne.mpr c73
                       obtain rfl := Option.some.inj H
                       obtain ⟨Ao75, co75, eo75⟩ := Kd.R_slice HO_17.out
                       subst eo75
                       go_wp2_with (first | (go_at_call 14; (with_reducible refine (laws_b10Has.calls k5 _ _ x17_4 t335 true _ ?side1 ?side2 A71.out).mono ?_); (case side1 => repeat (first | exact (Kd.R_reads' HO_17.out).2.2 | (with_reducible refine Kd.C_alloc ?_ _) | (with_reducible refine Kd.C_drewN ?_ _) | (with_reducible refine Kd.C_drew ?_))); (case side2 => exact (Kd.R_reads' HO_17.out).2.1); rintro e w' ⟨rfl, ⟨nd, rfl⟩⟩))
                       go_ret
                       exact ⟨by first | rfl | (simp [errW_none, errW_some] <;> rfl) | (simp [*, errW_none, errW_some] <;> rfl), by repeat (first | (with_reducible first | exact HB.out | apply below_alloc | apply pw_below_drewN | apply below_drew1) | exact HB.out)⟩
                     ·replace c72 := Bool.eq_false_iff.mpr c72
                      subst c72
                      have H1 : (some false) = some r := by rw [if_neg (show ¬ (false = true) by decide)] at H; exact H
                      clear H
                      have H := H1
                      clear H1
                      obtain rfl := Option.some.inj H
                      obtain ⟨Ao76, co76, eo76⟩ := Kd.R_slice HO_17.out
                      subst eo76
                      go_wp2_with (first | (go_at_call 14; (with_reducible refine (laws_b10Has.calls k5 _ _ x17_4 t335 false _ ?side1 ?side2 A71.out).mono ?_); (case side1 => repeat (first | exact (Kd.R_reads' HO_17.out).2.2 | (with_reducible refine Kd.C_alloc ?_ _) | (with_reducible refine Kd.C_drewN ?_ _) | (with_reducible refine Kd.C_drew ?_))); (case side2 => exact (Kd.R_reads' HO_17.out).2.1); rintro e w' ⟨rfl, ⟨nd, rfl⟩⟩))
                      go_ret
                      exact ⟨by first | rfl | (simp [errW_none, errW_some] <;> rfl) | (simp [*, errW_none, errW_some] <;> rfl), by repeat (first | (with_reducible first | exact HB.out | apply below_alloc | apply pw_below_drewN | apply below_drew1) | exact HB.out)⟩
                    ·rw [if_neg c70] at H
                     have c70b0 : decide (t335 ≤ (x16_4.size : Int)) = false := decide_eq_false c70
                     clear c70
                     obtain rfl := Option.some.inj H
                     obtain ⟨Ao77, co77, eo77⟩ := Kd.R_slice HO_17.out
                     subst eo77
                     go_wp2
                     go_ret
                     exact ⟨by first | rfl | (simp [errW_none, errW_some] <;> rfl) | (simp [*, errW_none, errW_some] <;> rfl), by repeat (first | (with_reducible first | exact HB.out | apply below_alloc | apply pw_below_drewN | apply below_drew1) | exact HB.out)⟩
                   ·rw [if_neg c69] at H
                    have c69b0 : decide (t333 < t335) = false := decide_eq_false c69
                    clear c69
                    obtain rfl := Option.some.inj H
                    obtain ⟨Ao78, co78, eo78⟩ := Kd.R_slice HO_17.out
                    subst eo78
                    go_wp2
                    go_ret
                    exact ⟨by first | rfl | (simp [errW_none, errW_some] <;> rfl) | (simp [*, errW_none, errW_some] <;> rfl), by repeat (first | (with_reducible first | exact HB.out | apply below_alloc | apply pw_below_drewN | apply below_drew1) | exact HB.out)⟩
               ·replace c58 := Bool.eq_false_iff.mpr c58
                subst c58
                have H1 : (some true) = some r := by rw [if_neg (show ¬ (false = true) by decide)] at H; exact H
                clear H
                have H := H1
                clear H1
                obtain rfl := Option.some.inj H
                obtain ⟨Ao79, co79, eo79⟩ := Kd.R_slice HO_15.out
                subst eo79
                go_wp2_with (first | ((with_reducible refine gate_callee (f := 5) rfl ?_); refine goesL_ (some 129) rfl rfl Tryz.func5 (by kernel_rfl) rfl #[.slice A1 l1.length c1, .int .i64 1, .int .i64 (x16_4.size : Int)] rfl (by (try simp only [List.map_toArray, List.map_cons, List.map_nil]); first | done | rfl | (simp only [List.length_drop, List.length_take]; rfl)) ?_; (with_reducible refine (laws_b10At.calls _ _ l1 1 (x16_4.size : Int) t333 _ ?side1 ?side2 A51.out).mono ?_); (case side1 => repeat (first | exact (Kd.C_below HR1.out HB.out) | (with_reducible refine Kd.C_alloc ?_ _) | (with_reducible refine Kd.C_drewN ?_ _) | (with_reducible refine Kd.C_drew ?_))); (case side2 => exact HC1.out); rintro e w' ⟨rfl, ⟨nd, rfl⟩⟩; refine ⟨_, rfl, ?_⟩) | ((with_reducible refine gate_callee (f := 12) rfl ?_); refine goesL_ (some 134) rfl rfl Tryz.func12 (by kernel_rfl) rfl #[.slice Ao11 t310.length co11, .slice Ao79 t322.length co79, .int .i64 t333] rfl (by (try simp only [List.map_toArray, List.map_cons, List.map_nil]); first | done | rfl | (simp only [List.length_drop, List.length_take]; rfl)) ?_; (with_reducible refine (impl_FlipLoss.calls k4 _ _ t310 _ _ t322 t333 t334 t335 false _ ?side1 ?side2 ?side3 ?side4 A52.out).mono ?_); (case side1 => repeat (first | exact (Kd.R_reads' HO_6.out).2.2 | (with_reducible refine Kd.C_alloc ?_ _) | (with_reducible refine Kd.C_drewN ?_ _) | (with_reducible refine Kd.C_drew ?_))); (case side2 => exact (Kd.R_reads' HO_6.out).2.1); (case side3 => repeat (first | exact (Kd.R_reads' HO_15.out).2.2 | (with_reducible refine Kd.C_alloc ?_ _) | (with_reducible refine Kd.C_drewN ?_ _) | (with_reducible refine Kd.C_drew ?_))); (case side4 => exact (Kd.R_reads' HO_15.out).2.1); rintro e w80 ⟨rfl, hb⟩; refine ⟨_, rfl, ?_⟩; have n0_ := Aside0.mk (Kd.R_below (by (with_reducible repeat (first | apply Kd.R_alloc | apply Kd.R_drewN | apply Kd.R_drew)); exact HO_6.out) hb); have n1_ := Aside0.mk (Kd.R_below (by (with_reducible repeat (first | apply Kd.R_alloc | apply Kd.R_drewN | apply Kd.R_drew)); exact HO_15.out) hb); have n2_ := Aside0.mk (Kd.R_below (by (with_reducible repeat (first | apply Kd.R_alloc | apply Kd.R_drewN | apply Kd.R_drew)); exact HO_17.out) hb); have n3_ := Aside0.mk (below_step (by repeat (first | (with_reducible first | exact HB.out | apply below_alloc | apply pw_below_drewN | apply below_drew1) | exact HB.out)) hb); clear HO_6; clear HO_15; clear HO_17; clear HB; have HO_6 := n0_; have HO_15 := n1_; have HO_17 := n2_; have HB := n3_; clear n0_ n1_ n2_ n3_; (try clear hb); (try clear hb2); (try clear hk); (try clear hi)) | ((with_reducible refine gate_callee (f := 13) rfl ?_); refine goesL_ (some 142) rfl rfl Tryz.func13 (by kernel_rfl) rfl #[.slice Ao11 t310.length co11, .slice Ao79 t322.length co79, .int .i64 t333] rfl (by (try simp only [List.map_toArray, List.map_cons, List.map_nil]); first | done | rfl | (simp only [List.length_drop, List.length_take]; rfl)) ?_; (with_reducible refine (spec_FlipLoss.calls k4 _ _ t310 _ _ t322 t333 t337 t338 t339 _ ?side1 ?side2 ?side3 ?side4 A53.out).mono ?_); (case side1 => repeat (first | exact (Kd.R_reads' HO_6.out).2.2 | (with_reducible refine Kd.C_alloc ?_ _) | (with_reducible refine Kd.C_drewN ?_ _) | (with_reducible refine Kd.C_drew ?_))); (case side2 => exact (Kd.R_reads' HO_6.out).2.1); (case side3 => repeat (first | exact (Kd.R_reads' HO_15.out).2.2 | (with_reducible refine Kd.C_alloc ?_ _) | (with_reducible refine Kd.C_drewN ?_ _) | (with_reducible refine Kd.C_drew ?_))); (case side4 => exact (Kd.R_reads' HO_15.out).2.1); rintro e w81 ⟨rfl, hb⟩; refine ⟨_, rfl, ?_⟩; have n0_ := Aside0.mk (Kd.R_below (by (with_reducible repeat (first | apply Kd.R_alloc | apply Kd.R_drewN | apply Kd.R_drew)); exact HO_6.out) hb); have n1_ := Aside0.mk (Kd.R_below (by (with_reducible repeat (first | apply Kd.R_alloc | apply Kd.R_drewN | apply Kd.R_drew)); exact HO_15.out) hb); have n2_ := Aside0.mk (Kd.R_below (by (with_reducible repeat (first | apply Kd.R_alloc | apply Kd.R_drewN | apply Kd.R_drew)); exact HO_17.out) hb); have n3_ := Aside0.mk (below_step (by repeat (first | (with_reducible first | exact HB.out | apply below_alloc | apply pw_below_drewN | apply below_drew1) | exact HB.out)) hb); clear HO_6; clear HO_15; clear HO_17; clear HB; have HO_6 := n0_; have HO_15 := n1_; have HO_17 := n2_; have HB := n3_; clear n0_ n1_ n2_ n3_; (try clear hb); (try clear hb2); (try clear hk); (try clear hi)))
                go_ret
                exact ⟨by first | rfl | (simp [errW_none, errW_some] <;> rfl) | (simp [*, errW_none, errW_some] <;> rfl), by repeat (first | (with_reducible first | exact HB.out | apply below_alloc | apply pw_below_drewN | apply below_drew1) | exact HB.out)⟩
def laws_FnSynchronised.Pure : Prop := ∀ (l0 : List Int) (l1 : List Int), l0.length ≤ maxLen → l0.length * 1 ≤ 140737488351232 → (∀ x ∈ l0, (Lit.int .u8 x).wf = true) → l1.length ≤ maxLen → l1.length * 1 ≤ 140737488351232 → (∀ x ∈ l1, (Lit.int .u8 x).wf = true) → ∃ k, laws_FnSynchronised.f k l0 l1 = some true
theorem laws_FnSynchronised.walk (P : laws_FnSynchronised.Pure) (a0 : Option Addr) (len0 cap0 : Nat) (z0 : List Int) (a1 : Option Addr) (len1 cap1 : Nat) (z1 : List Int) (w : World) (w0 : (a0 = none ∧ len0 = 0 ∧ cap0 = 0 ∧ z0 = []) ∨ ∃ x, a0 = some x ∧ len0 ≤ cap0 ∧ cap0 ≤ maxLen ∧ z0.length = cap0 ∧ (∀ i, i < z0.length → w.cell? (x.add i) = some (.int .u8 (z0.getD i 0))) ∧ ∀ n ∈ z0, (Lit.int .u8 n).wf = true) (y0 : len0 * 1 ≤ 140737488351232) (w1 : (a1 = none ∧ len1 = 0 ∧ cap1 = 0 ∧ z1 = []) ∨ ∃ x, a1 = some x ∧ len1 ≤ cap1 ∧ cap1 ≤ maxLen ∧ z1.length = cap1 ∧ (∀ i, i < z1.length → w.cell? (x.add i) = some (.int .u8 (z1.getD i 0))) ∧ ∀ n ∈ z1, (Lit.int .u8 n).wf = true) (y1 : len1 * 1 ≤ 140737488351232) :
 Calls Tryz.prog 3 #[.slice a0 len0 cap0, .slice a1 len1 cap1] w fun e w' => e = .returned (.bool true) ∧ Below w.heap.size w w' := by
 obtain ⟨l0, rfl, hr0, hm0, hw0, hc0⟩ := ReadsInt.ofRowC w0
 obtain ⟨l1, rfl, hr1, hm1, hw1, hc1⟩ := ReadsInt.ofRowC w1
 obtain ⟨k, h⟩ := P l0 l1 hm0 y0 hw0 hm1 y1 hw1
 refine (laws_FnSynchronised.calls k _ _ l0 _ _ l1 true w (Kd.C_of_reads (d := (0 : Int)) (h1 := fun _ => rfl) hr0) hc0 (Kd.C_of_reads (d := (0 : Int)) (h1 := fun _ => rfl) hr1) hc1 h).mono ?_
 rintro e w' ⟨rfl, hd⟩
 exact ⟨rfl, hd⟩
end Go.Proofs.YtabppnjmdlaohaaGreatDoor.QFnSynchronised
