/- FnExactReadLevels: functions that it reaches, with what they compute and the proof that they do; written by a program of this session (wip/myprint.py). -/
import Derived.Test.YtbgiddnffchnpaaQFnExactReadLevelsx0
import Derived.Test.YtbgiddnffchnpaaQFnExactReadLevelsx2
namespace Go.Proofs.Ytbgiddnffchnpaa.QFnExactReadLevels
open Go.RowKit Go.Proofs.YtbgiddnffchnpaaW.PrintWords Go.Proofs.YtbgiddnffchnpaaW.PrintLast Go.Proofs.YtbgiddnffchnpaaW.PrintMore
attribute [local go_sem] max2_int min2_int max_two min_two max_three min_three max_four min_four   -- for this text's walks alone
set_option linter.unusedVariables false
set_option linter.unusedSimpArgs false

/-! ### impl_canRead: function 70 -/
def impl_canRead.f (k : Nat) (a0 : Int) (l1 : List Int) : Option (Bool) := (impl_isLine.f a0).bind fun t151 => (if t151 = true then ((impl_areLevels.f k l1).bind fun t152 => (if t152 = true then ((impl_perBit.f a0).bind fun t153 => (if t153 = 0 then (none) else (if ((l1.length : Int) % t153) = 0 then ((impl_perBit.f a0).bind fun t154 => (if t154 = 0 then (none) else (some (decide ((wrap64 ((l1.length : Int) / t154)) ≤ 400))))) else (some false)))) else (some false))) else (some false))
theorem impl_canRead.mono : ∀ a0 a1 k, LeO (impl_canRead.f k a0 a1) (impl_canRead.f (k + 1) a0 a1) := by
  intro a0 a1 k
  unfold impl_canRead.f
  repeat' first
      | (with_reducible exact impl_areLevels.mono _ _)
      | (with_reducible exact LeO.refl _)
      | (with_reducible exact LeO.none _)
      | (with_reducible refine LeO.ite ?_ ?_)
      | (with_reducible refine LeO.bind ?_ (fun _ => ?_))
      | exact impl_areLevels.mono _ _
      | exact LeO.none _
      | refine LeO.ite ?_ ?_
      | refine LeO.bind ?_ (fun _ => ?_)
set_option maxHeartbeats 8000000 in
set_option maxRecDepth 100000 in
theorem impl_canRead.calls (k : Nat) (a0 : Int) (A1 : Option Addr) (c1 : Nat) (l1 : List Int) (r : Bool) (w : World) (hr1 : Kd.C (Kd.int .i64) w A1 l1.length l1) (hc1 : l1.length ≤ c1) (h : impl_canRead.f k a0 l1 = some r) :
    Calls Try.prog 70 #[.int .i64 a0, .slice A1 l1.length c1] w fun e w' => e = .returned (.bool r) ∧ Drawn0 w w' := by
  have HR1 := Aside0.mk hr1
  have HC1 := Aside0.mk hc1
  clear hr1 hc1
  have H : ((impl_isLine.f a0).bind fun t151 => (if t151 = true then ((impl_areLevels.f k l1).bind fun t152 => (if t152 = true then ((impl_perBit.f a0).bind fun t153 => (if t153 = 0 then (none) else (if ((l1.length : Int) % t153) = 0 then ((impl_perBit.f a0).bind fun t154 => (if t154 = 0 then (none) else (some (decide ((wrap64 ((l1.length : Int) / t154)) ≤ 400))))) else (some false)))) else (some false))) else (some false))) = some r := h
  clear h
  replace H := Option.bind_eq_some_iff.mp H
  obtain ⟨t151, A30, H⟩ := H
  replace H : (if t151 = true then ((impl_areLevels.f k l1).bind fun t152 => (if t152 = true then ((impl_perBit.f a0).bind fun t153 => (if t153 = 0 then (none) else (if ((l1.length : Int) % t153) = 0 then ((impl_perBit.f a0).bind fun t154 => (if t154 = 0 then (none) else (some (decide ((wrap64 ((l1.length : Int) / t154)) ≤ 400))))) else (some false)))) else (some false))) else (some false)) = some r := H
  have A3 := Aside0.mk A30
  clear A30
  by_cases c4 : t151 = true
  · subst c4
    have H1 : ((impl_areLevels.f k l1).bind fun t152 => (if t152 = true then ((impl_perBit.f a0).bind fun t153 => (if t153 = 0 then (none) else (if ((l1.length : Int) % t153) = 0 then ((impl_perBit.f a0).bind fun t154 => (if t154 = 0 then (none) else (some (decide ((wrap64 ((l1.length : Int) / t154)) ≤ 400))))) else (some false)))) else (some false))) = some r := by rw [if_pos rfl] at H; exact H
    clear H
    have H := H1
    clear H1
    replace H := Option.bind_eq_some_iff.mp H
    obtain ⟨t152, A50, H⟩ := H
    replace H : (if t152 = true then ((impl_perBit.f a0).bind fun t153 => (if t153 = 0 then (none) else (if ((l1.length : Int) % t153) = 0 then ((impl_perBit.f a0).bind fun t154 => (if t154 = 0 then (none) else (some (decide ((wrap64 ((l1.length : Int) / t154)) ≤ 400))))) else (some false)))) else (some false)) = some r := H
    have A5 := Aside0.mk A50
    clear A50
    by_cases c6 : t152 = true
    · subst c6
      have H1 : ((impl_perBit.f a0).bind fun t153 => (if t153 = 0 then (none) else (if ((l1.length : Int) % t153) = 0 then ((impl_perBit.f a0).bind fun t154 => (if t154 = 0 then (none) else (some (decide ((wrap64 ((l1.length : Int) / t154)) ≤ 400))))) else (some false)))) = some r := by rw [if_pos rfl] at H; exact H
      clear H
      have H := H1
      clear H1
      replace H := Option.bind_eq_some_iff.mp H
      obtain ⟨t153, A70, H⟩ := H
      replace H : (if t153 = 0 then (none) else (if ((l1.length : Int) % t153) = 0 then ((impl_perBit.f a0).bind fun t154 => (if t154 = 0 then (none) else (some (decide ((wrap64 ((l1.length : Int) / t154)) ≤ 400))))) else (some false))) = some r := H
      have A7 := Aside0.mk A70
      clear A70
      by_cases c8 : t153 = 0
      · rw [if_pos c8] at H
        exact absurd H (by simp)
      · rw [if_neg c8] at H
        have c8b0 : (t153 == 0) = false := beq_eq_false_iff_ne.mpr c8
        have c8b1 : (t153 != 0) = true := bne_iff_ne.mpr c8
        by_cases c9 : ((l1.length : Int) % t153) = 0
        · rw [if_pos c9] at H
          have c9b0 : (((l1.length : Int) % t153) == 0) = true := beq_iff_eq.mpr c9
          have c9b1 : (((l1.length : Int) % t153) != 0) = false := bne_eq_false_iff_eq.mpr c9
          clear c9
          replace H := Option.bind_eq_some_iff.mp H
          obtain ⟨t154, A100, H⟩ := H
          replace H : (if t154 = 0 then (none) else (some (decide ((wrap64 ((l1.length : Int) / t154)) ≤ 400)))) = some r := H
          have A10 := Aside0.mk A100
          clear A100
          by_cases c11 : t154 = 0
          · rw [if_pos c11] at H
            exact absurd H (by simp)
          · rw [if_neg c11] at H
            have c11b0 : (t154 == 0) = false := beq_eq_false_iff_ne.mpr c11
            have c11b1 : (t154 != 0) = true := bne_iff_ne.mpr c11
            obtain rfl := Option.some.inj H
            go_enter Try.func70, Try.ntmps70
            go_wp2_with (first | ((with_reducible refine gate_callee (f := 60) rfl ?_); refine goesL_ (some 6) rfl rfl Try.func60 (by kernel_rfl) rfl #[.int .i64 a0] rfl (by (try simp only [List.map_toArray, List.map_cons, List.map_nil]); first | done | rfl | (simp only [List.length_drop, List.length_take]; rfl)) ?_; (with_reducible refine (impl_isLine.calls a0 true _ A3.out).mono ?_); rintro e w' ⟨rfl, ⟨nd, rfl⟩⟩; refine ⟨_, rfl, ?_⟩) | (go_at_call 82; (with_reducible refine (impl_areLevels.calls k _ _ l1 true _ ?side1 ?side2 A5.out).mono ?_); (case side1 => repeat (first | exact HR1.out | (with_reducible refine Kd.C_alloc ?_ _) | (with_reducible refine Kd.C_drewN ?_ _) | (with_reducible refine Kd.C_drew ?_))); (case side2 => exact HC1.out); rintro e w' ⟨rfl, ⟨nd, rfl⟩⟩) | (go_at_call 83; (with_reducible refine (impl_perBit.calls a0 t153 _ A7.out).mono ?_); rintro e w' ⟨rfl, ⟨nd, rfl⟩⟩) | (go_at_call 83; (with_reducible refine (impl_perBit.calls a0 t154 _ A10.out).mono ?_); rintro e w' ⟨rfl, ⟨nd, rfl⟩⟩))
            go_ret
            exact ⟨by first | rfl | (simp; done) | (simp [*]; done) | (simp [Option.some.inj (A7.out.symm.trans A10.out)]; done), by repeat (first | exact Drawn0.refl _ | apply Drawn0.step)⟩
        · rw [if_neg c9] at H
          have c9b0 : (((l1.length : Int) % t153) == 0) = false := beq_eq_false_iff_ne.mpr c9
          have c9b1 : (((l1.length : Int) % t153) != 0) = true := bne_iff_ne.mpr c9
          obtain rfl := Option.some.inj H
          go_enter Try.func70, Try.ntmps70
          go_wp2_with (first | ((with_reducible refine gate_callee (f := 60) rfl ?_); refine goesL_ (some 6) rfl rfl Try.func60 (by kernel_rfl) rfl #[.int .i64 a0] rfl (by (try simp only [List.map_toArray, List.map_cons, List.map_nil]); first | done | rfl | (simp only [List.length_drop, List.length_take]; rfl)) ?_; (with_reducible refine (impl_isLine.calls a0 true _ A3.out).mono ?_); rintro e w' ⟨rfl, ⟨nd, rfl⟩⟩; refine ⟨_, rfl, ?_⟩) | (go_at_call 82; (with_reducible refine (impl_areLevels.calls k _ _ l1 true _ ?side1 ?side2 A5.out).mono ?_); (case side1 => repeat (first | exact HR1.out | (with_reducible refine Kd.C_alloc ?_ _) | (with_reducible refine Kd.C_drewN ?_ _) | (with_reducible refine Kd.C_drew ?_))); (case side2 => exact HC1.out); rintro e w' ⟨rfl, ⟨nd, rfl⟩⟩) | (go_at_call 83; (with_reducible refine (impl_perBit.calls a0 t153 _ A7.out).mono ?_); rintro e w' ⟨rfl, ⟨nd, rfl⟩⟩))
          go_ret
          exact ⟨by first | rfl | (simp; done) | (simp [*]; done) | (simp [Option.some.inj (A7.out.symm.trans A10.out)]; done), by repeat (first | exact Drawn0.refl _ | apply Drawn0.step)⟩
    · replace c6 := Bool.eq_false_iff.mpr c6
      subst c6
      have H1 : (some false) = some r := by rw [if_neg (show ¬ (false = true) by decide)] at H; exact H
      clear H
      have H := H1
      clear H1
      obtain rfl := Option.some.inj H
      go_enter Try.func70, Try.ntmps70
      go_wp2_with (first | ((with_reducible refine gate_callee (f := 60) rfl ?_); refine goesL_ (some 6) rfl rfl Try.func60 (by kernel_rfl) rfl #[.int .i64 a0] rfl (by (try simp only [List.map_toArray, List.map_cons, List.map_nil]); first | done | rfl | (simp only [List.length_drop, List.length_take]; rfl)) ?_; (with_reducible refine (impl_isLine.calls a0 true _ A3.out).mono ?_); rintro e w' ⟨rfl, ⟨nd, rfl⟩⟩; refine ⟨_, rfl, ?_⟩) | (go_at_call 82; (with_reducible refine (impl_areLevels.calls k _ _ l1 false _ ?side1 ?side2 A5.out).mono ?_); (case side1 => repeat (first | exact HR1.out | (with_reducible refine Kd.C_alloc ?_ _) | (with_reducible refine Kd.C_drewN ?_ _) | (with_reducible refine Kd.C_drew ?_))); (case side2 => exact HC1.out); rintro e w' ⟨rfl, ⟨nd, rfl⟩⟩))
      go_ret
      exact ⟨by first | rfl | (simp; done) | (simp [*]; done) | (simp [Option.some.inj (A7.out.symm.trans A10.out)]; done), by repeat (first | exact Drawn0.refl _ | apply Drawn0.step)⟩
  · replace c4 := Bool.eq_false_iff.mpr c4
    subst c4
    have H1 : (some false) = some r := by rw [if_neg (show ¬ (false = true) by decide)] at H; exact H
    clear H
    have H := H1
    clear H1
    obtain rfl := Option.some.inj H
    go_enter Try.func70, Try.ntmps70
    go_wp2_with (first | ((with_reducible refine gate_callee (f := 60) rfl ?_); refine goesL_ (some 6) rfl rfl Try.func60 (by kernel_rfl) rfl #[.int .i64 a0] rfl (by (try simp only [List.map_toArray, List.map_cons, List.map_nil]); first | done | rfl | (simp only [List.length_drop, List.length_take]; rfl)) ?_; (with_reducible refine (impl_isLine.calls a0 false _ A3.out).mono ?_); rintro e w' ⟨rfl, ⟨nd, rfl⟩⟩; refine ⟨_, rfl, ?_⟩))
    go_ret
    exact ⟨by first | rfl | (simp; done) | (simp [*]; done) | (simp [Option.some.inj (A7.out.symm.trans A10.out)]; done), by repeat (first | exact Drawn0.refl _ | apply Drawn0.step)⟩

/-! ### impl_newWire: function 84 -/
def impl_newWire.f (a0 : Int) : Option (Int × Int × Int × Int) := if a0 = 1 then (some (a0, (-1), 1, (-1))) else (if a0 = 3 then (some (a0, (-1), 1, (-1))) else (some (a0, 0, 1, (-1))))
set_option maxHeartbeats 1000000 in
theorem impl_newWire.one (w : World) : Calls Try.prog 84 #[.int .i64 1] w fun e w' => e = .returned (.agg #[.int .i64 1, .int .i64 (-1), .int .i64 1, .int .i64 (-1)]) ∧ Below w.heap.size w w' := by
  have hu := Try.underlying70
  go_enter Try.func84, Try.ntmps84
  go_wp2
  refine bodyPost_ret (v := .agg #[.int .i64 1, .int .i64 (-1), .int .i64 1, .int .i64 (-1)]) (by simp [results, Try.results84, go_sem]) rfl ⟨rfl, ?_⟩
  repeat (first | exact Below.refl _ _ | refine Below.alloc ?_ (by simp) _ | refine Below.setCell ?_ (by simp) _)
set_option maxHeartbeats 1000000 in
theorem impl_newWire.three (w : World) : Calls Try.prog 84 #[.int .i64 3] w fun e w' => e = .returned (.agg #[.int .i64 3, .int .i64 (-1), .int .i64 1, .int .i64 (-1)]) ∧ Below w.heap.size w w' := by
  have hu := Try.underlying70
  go_enter Try.func84, Try.ntmps84
  go_wp2
  refine bodyPost_ret (v := .agg #[.int .i64 3, .int .i64 (-1), .int .i64 1, .int .i64 (-1)]) (by simp [results, Try.results84, go_sem]) rfl ⟨rfl, ?_⟩
  repeat (first | exact Below.refl _ _ | refine Below.alloc ?_ (by simp) _ | refine Below.setCell ?_ (by simp) _)
set_option maxHeartbeats 1000000 in
theorem impl_newWire.other (a0 : Int) (h1 : (a0 == 1) = false) (h3 : (a0 == 3) = false) (w : World) : Calls Try.prog 84 #[.int .i64 a0] w fun e w' => e = .returned (.agg #[.int .i64 a0, .int .i64 0, .int .i64 1, .int .i64 (-1)]) ∧ Below w.heap.size w w' := by
  have hu := Try.underlying70
  go_enter Try.func84, Try.ntmps84
  go_wp2
  refine bodyPost_ret (v := .agg #[.int .i64 a0, .int .i64 0, .int .i64 1, .int .i64 (-1)]) (by simp [results, Try.results84, go_sem]) rfl ⟨rfl, ?_⟩
  repeat (first | exact Below.refl _ _ | refine Below.alloc ?_ (by simp) _ | refine Below.setCell ?_ (by simp) _)
theorem impl_newWire.calls (a0 : Int) (r1 : Int) (r2 : Int) (r3 : Int) (r4 : Int) (w : World) (h : impl_newWire.f a0 = some (r1, r2, r3, r4)) :
    Calls Try.prog 84 #[.int .i64 a0] w fun e w' => e = .returned (.agg #[.int .i64 r1, .int .i64 r2, .int .i64 r3, .int .i64 r4]) ∧ Below w.heap.size w w' := by
  unfold impl_newWire.f at h
  by_cases c1 : a0 = 1
  · rw [if_pos c1] at h
    cases h; subst c1
    exact impl_newWire.one w
  · rw [if_neg c1] at h
    by_cases c3 : a0 = 3
    · rw [if_pos c3] at h
      cases h; subst c3
      exact impl_newWire.three w
    · rw [if_neg c3] at h
      cases h
      exact impl_newWire.other a0 (beq_eq_false_iff_ne.2 c1) (beq_eq_false_iff_ne.2 c3) w

/-! ### impl_bitOf: function 97 -/
def impl_bitOf.f (a0 : Bool) : Option (ByteArray) := if a0 = true then (some (⟨#[49]⟩ : ByteArray)) else (some (⟨#[48]⟩ : ByteArray))
set_option maxHeartbeats 8000000 in
set_option maxRecDepth 100000 in
theorem impl_bitOf.calls (a0 : Bool) (r : ByteArray) (w : World) (h : impl_bitOf.f a0 = some r) :
    Calls Try.prog 97 #[.bool a0] w fun e w' => e = .returned (.string r) ∧ Drawn0 w w' := by
  have H : (if a0 = true then (some (⟨#[49]⟩ : ByteArray)) else (some (⟨#[48]⟩ : ByteArray))) = some r := h
  clear h
  by_cases c2 : a0 = true
  · subst c2
    have H1 : (some (⟨#[49]⟩ : ByteArray)) = some r := by rw [if_pos rfl] at H; exact H
    clear H
    have H := H1
    clear H1
    obtain rfl := Option.some.inj H
    go_enter Try.func97, Try.ntmps97
    go_wp2
    go_ret
    exact ⟨by first | rfl | (simp; done) | (simp [*]; done), by repeat (first | exact Drawn0.refl _ | apply Drawn0.step)⟩
  · replace c2 := Bool.eq_false_iff.mpr c2
    subst c2
    have H1 : (some (⟨#[48]⟩ : ByteArray)) = some r := by rw [if_neg (show ¬ (false = true) by decide)] at H; exact H
    clear H
    have H := H1
    clear H1
    obtain rfl := Option.some.inj H
    go_enter Try.func97, Try.ntmps97
    go_wp2
    go_ret
    exact ⟨by first | rfl | (simp; done) | (simp [*]; done), by repeat (first | exact Drawn0.refl _ | apply Drawn0.step)⟩

/-! ### impl_readLevels: function 71 -/
mutual
def impl_readLevels.l0 : Nat → Int → List Int → List Int → Int → Int → Option (ByteArray)
  | 0, _, _, _, _, _ => none
  | k + 1, x0, x1, x5, x6, x7 => if x7 < (x1.length : Int) then (if 0 ≤ x7 then (if x0 = 0 then ((impl_perBit.f x0).bind fun t163 => (if 0 ≤ (wrap64 ((wrap64 (x7 + t163)) - 1)) then (if (wrap64 ((wrap64 (x7 + t163)) - 1)) < (x1.length : Int) then ((impl_bitOf.f ((rd x1 x7) == 1)).bind fun t165 => (if x5.length + t165.size < 140737488355328 then ((impl_perBit.f x0).bind fun t169 => (impl_readLevels.l0 k x0 x1 (x5 ++ bytesOf t165) (rd x1 (wrap64 ((wrap64 (x7 + t163)) - 1))) (wrap64 (x7 + t169)))) else (none))) else (none)) else (none))) else (if x0 = 1 then (impl_readLevels.j1 k x0 x1 x5 x6 x7 (rd x1 x7) false x0 (x0 == 1)) else (impl_readLevels.j1 k x0 x1 x5 x6 x7 (rd x1 x7) false x0 (x0 == 5)))) else (none)) else (some (strOfNums x5))
def impl_readLevels.j1 : Nat → Int → List Int → List Int → Int → Int → Int → Bool → Int → Bool → Option (ByteArray)
  | 0, _, _, _, _, _, _, _, _, _ => none
  | k + 1, x0, x1, x5, x6, x7, x8, x9, x26, x31 => if x31 = true then ((impl_perBit.f x0).bind fun t170 => (if 0 ≤ (wrap64 ((wrap64 (x7 + t170)) - 1)) then (if (wrap64 ((wrap64 (x7 + t170)) - 1)) < (x1.length : Int) then ((impl_bitOf.f (x8 != x6)).bind fun t172 => (if x5.length + t172.size < 140737488355328 then ((impl_perBit.f x0).bind fun t176 => (impl_readLevels.l0 k x0 x1 (x5 ++ bytesOf t172) (rd x1 (wrap64 ((wrap64 (x7 + t170)) - 1))) (wrap64 (x7 + t176)))) else (none))) else (none)) else (none))) else (if x26 = 2 then (if 0 ≤ (wrap64 (x7 + 1)) then (if (wrap64 (x7 + 1)) < (x1.length : Int) then ((impl_perBit.f x0).bind fun t178 => (if 0 ≤ (wrap64 ((wrap64 (x7 + t178)) - 1)) then (if (wrap64 ((wrap64 (x7 + t178)) - 1)) < (x1.length : Int) then ((impl_bitOf.f (decide (x8 < (rd x1 (wrap64 (x7 + 1)))))).bind fun t180 => (if x5.length + t180.size < 140737488355328 then ((impl_perBit.f x0).bind fun t184 => (impl_readLevels.l0 k x0 x1 (x5 ++ bytesOf t180) (rd x1 (wrap64 ((wrap64 (x7 + t178)) - 1))) (wrap64 (x7 + t184)))) else (none))) else (none)) else (none))) else (none)) else (none)) else (if x26 = 3 then ((impl_perBit.f x0).bind fun t185 => (if 0 ≤ (wrap64 ((wrap64 (x7 + t185)) - 1)) then (if (wrap64 ((wrap64 (x7 + t185)) - 1)) < (x1.length : Int) then ((impl_bitOf.f (x8 == x6)).bind fun t187 => (if x5.length + t187.size < 140737488355328 then ((impl_perBit.f x0).bind fun t191 => (impl_readLevels.l0 k x0 x1 (x5 ++ bytesOf t187) (rd x1 (wrap64 ((wrap64 (x7 + t185)) - 1))) (wrap64 (x7 + t191)))) else (none))) else (none)) else (none))) else (if x26 = 4 then ((impl_perBit.f x0).bind fun t192 => (if 0 ≤ (wrap64 ((wrap64 (x7 + t192)) - 1)) then (if (wrap64 ((wrap64 (x7 + t192)) - 1)) < (x1.length : Int) then ((impl_bitOf.f (x8 != 0)).bind fun t194 => (if x5.length + t194.size < 140737488355328 then ((impl_perBit.f x0).bind fun t198 => (impl_readLevels.l0 k x0 x1 (x5 ++ bytesOf t194) (rd x1 (wrap64 ((wrap64 (x7 + t192)) - 1))) (wrap64 (x7 + t198)))) else (none))) else (none)) else (none))) else ((impl_perBit.f x0).bind fun t199 => (if 0 ≤ (wrap64 ((wrap64 (x7 + t199)) - 1)) then (if (wrap64 ((wrap64 (x7 + t199)) - 1)) < (x1.length : Int) then ((impl_bitOf.f x9).bind fun t201 => (if x5.length + t201.size < 140737488355328 then ((impl_perBit.f x0).bind fun t205 => (impl_readLevels.l0 k x0 x1 (x5 ++ bytesOf t201) (rd x1 (wrap64 ((wrap64 (x7 + t199)) - 1))) (wrap64 (x7 + t205)))) else (none))) else (none)) else (none))))))
end
def impl_readLevels.f (k : Nat) (a0 : Int) (l1 : List Int) : Option (ByteArray) := (impl_newWire.f a0).bind fun bt158 => (impl_readLevels.l0 k a0 l1 (([] : List Int)) bt158.2.1 0)
theorem impl_readLevels.mono_l : ∀ k, (∀ y0 y1 y2 y3 y4, LeO (impl_readLevels.l0 k y0 y1 y2 y3 y4) (impl_readLevels.l0 (k + 1) y0 y1 y2 y3 y4)) ∧ (∀ y0 y1 y2 y3 y4 y5 y6 y7 y8, LeO (impl_readLevels.j1 k y0 y1 y2 y3 y4 y5 y6 y7 y8) (impl_readLevels.j1 (k + 1) y0 y1 y2 y3 y4 y5 y6 y7 y8))
  | 0 => ⟨fun _ _ _ _ _ r h => by simp [impl_readLevels.l0] at h, fun _ _ _ _ _ _ _ _ _ r h => by simp [impl_readLevels.j1] at h⟩
  | k + 1 => by
    obtain ⟨ih0, ih1⟩ := impl_readLevels.mono_l k
    refine ⟨?_, ?_⟩
    · intro y0 y1 y2 y3 y4
      unfold impl_readLevels.l0
      repeat' first
      | (with_reducible exact ih0 _ _ _ _ _)
      | (with_reducible exact ih1 _ _ _ _ _ _ _ _ _)
      | (with_reducible exact LeO.refl _)
      | (with_reducible exact LeO.none _)
      | (with_reducible refine LeO.ite ?_ ?_)
      | (with_reducible refine LeO.bind ?_ (fun _ => ?_))
      | exact ih0 _ _ _ _ _
      | exact ih1 _ _ _ _ _ _ _ _ _
      | exact LeO.none _
      | refine LeO.ite ?_ ?_
      | refine LeO.bind ?_ (fun _ => ?_)
    · intro y0 y1 y2 y3 y4 y5 y6 y7 y8
      unfold impl_readLevels.j1
      repeat' first
      | (with_reducible exact ih0 _ _ _ _ _)
      | (with_reducible exact ih1 _ _ _ _ _ _ _ _ _)
      | (with_reducible exact LeO.refl _)
      | (with_reducible exact LeO.none _)
      | (with_reducible refine LeO.ite ?_ ?_)
      | (with_reducible refine LeO.bind ?_ (fun _ => ?_))
      | exact ih0 _ _ _ _ _
      | exact ih1 _ _ _ _ _ _ _ _ _
      | exact LeO.none _
      | refine LeO.ite ?_ ?_
      | refine LeO.bind ?_ (fun _ => ?_)
theorem impl_readLevels.mono : ∀ a0 a1 k, LeO (impl_readLevels.f k a0 a1) (impl_readLevels.f (k + 1) a0 a1) := by
  intro a0 a1 k
  obtain ⟨ih0, ih1⟩ := impl_readLevels.mono_l k
  unfold impl_readLevels.f
  repeat' first
      | (with_reducible exact ih0 _ _ _ _ _)
      | (with_reducible exact ih1 _ _ _ _ _ _ _ _ _)
      | (with_reducible exact LeO.refl _)
      | (with_reducible exact LeO.none _)
      | (with_reducible refine LeO.ite ?_ ?_)
      | (with_reducible refine LeO.bind ?_ (fun _ => ?_))
      | exact ih0 _ _ _ _ _
      | exact ih1 _ _ _ _ _ _ _ _ _
      | exact LeO.none _
      | refine LeO.ite ?_ ?_
      | refine LeO.bind ?_ (fun _ => ?_)
set_option maxHeartbeats 8000000 in
set_option maxRecDepth 100000 in
theorem impl_readLevels.calls (k : Nat) (a0 : Int) (A1 : Option Addr) (c1 : Nat) (l1 : List Int) (r : ByteArray) (w : World) (hr1 : Kd.C (Kd.int .i64) w A1 l1.length l1) (hc1 : l1.length ≤ c1) (h : impl_readLevels.f k a0 l1 = some r) :
    Calls Try.prog 71 #[.int .i64 a0, .slice A1 l1.length c1] w fun e w' => e = .returned (.string r) ∧ Below w.heap.size w w' := by
  have hu70 := Try.underlying70
  have hfd70_1 : ∀ (q0_ q1_ q2_ q3_ : Value) (w_ : World), (Instr.field 70 (.agg #[q0_, q1_, q2_, q3_]) 1).run Try.prog w_ = .ok q1_ w_ := fun q0_ q1_ q2_ q3_ _ => by kernel_rfl
  have HR1 := Aside0.mk hr1
  have HC1 := Aside0.mk hc1
  clear hr1 hc1
  have HB := Aside0.mk (Below.refl w.heap.size w)
  have H : ((impl_newWire.f a0).bind fun bt158 => (impl_readLevels.l0 k a0 l1 (([] : List Int)) bt158.2.1 0)) = some r := h
  clear h
  obtain ⟨y155, hy155⟩ : ∃ y_ : List Int, y_ = (([] : List Int)) := ⟨_, rfl⟩
  replace H : ((impl_newWire.f a0).bind fun bt158 => (impl_readLevels.l0 k a0 l1 y155 bt158.2.1 0)) = some r := by first | (rw [hy155]; with_reducible exact H) | (have H2_ := (Option.bind_some _ _).symm.trans H; rw [hy155]; with_reducible exact H2_) | (have H2_ := (Option.bind_some _ _).symm.trans H; with_reducible exact H2_) | with_reducible exact H | (rw [hy155]; exact H) | exact H
  have Ny155 := Aside0.mk hy155
  clear hy155
  replace H := Option.bind_eq_some_iff.mp H
  obtain ⟨⟨t158, t159, t160, t161⟩, A30, H⟩ := H
  replace H : (impl_readLevels.l0 k a0 l1 y155 t159 0) = some r := H
  have A3 := Aside0.mk A30
  clear A30
  have H' := Aside0.mk H
  clear H
  go_enter Try.func71, Try.ntmps71
  go_wp2_with (first | ((with_reducible refine gate_dst (N := 10) rfl ?_); refine Kd.R_lit (Kd.int .u8) _ 5 ?hg (N := 10) ?hd (xs := ([] : List Int)) (inner := []) (ok := fun _ => True) (okp := fun _ => True) ?hr ?hp (fun _ hk => hk) trivial (Below.refl _ _) (Nat.le_refl _) (by simp) ?_; (case hd => rfl); (case hg => rfl); (case hr => first | (go_simp; done) | (go_simp; rfl)); (case hp => exact (Reps.none _ _)); intro v156 w4 ho5 hb hg_ hnew_; clear hg_ hnew_; (first | rw [← Ny155.out] at ho5 | (simp only [Int.reduceToNat] at ho5; rw [← Ny155.out] at ho5)); have n0_ := Aside0.mk (Kd.R_lower ho5 (below_size (by repeat (first | (with_reducible first | exact HB.out | apply below_alloc | apply pw_below_drewN | apply below_drew1) | exact HB.out)))); have n1_ := Aside0.mk (below_step (by repeat (first | (with_reducible first | exact HB.out | apply below_alloc | apply pw_below_drewN | apply below_drew1) | exact HB.out)) hb); clear HB; have HO157 := n0_; have HB := n1_; clear n0_ n1_; clear hb ho5) | ((with_reducible refine gate_callee (f := 84) rfl ?_); refine goesL_ (some 12) rfl rfl Try.func84 (by kernel_rfl) rfl #[.int .i64 a0] rfl (by (try simp only [List.map_toArray, List.map_cons, List.map_nil]); first | done | rfl | (simp only [List.length_drop, List.length_take]; rfl)) ?_; (with_reducible refine (impl_newWire.calls a0 t158 t159 t160 t161 _ A3.out).mono ?_); rintro e w6 ⟨rfl, hb⟩; refine ⟨_, rfl, ?_⟩; have n0_ := Aside0.mk (Kd.R_below (by (with_reducible repeat (first | apply Kd.R_alloc | apply Kd.R_drewN | apply Kd.R_drew)); exact HO157.out) hb); have n1_ := Aside0.mk (below_step (by repeat (first | (with_reducible first | exact HB.out | apply below_alloc | apply pw_below_drewN | apply below_drew1) | exact HB.out)) hb); clear HO157; clear HB; have HO157 := n0_; have HB := n1_; clear n0_ n1_; (try clear hb); (try clear hb2); (try clear hk); (try clear hi)))
  go_loopg [5, 6, 7] k (fun kq v5 v6 v7 w' => ∃ (x5_1 : List Int) (x6_1 : Int) (x7_1 : Int), v6 = .int .i64 x6_1 ∧ v7 = .int .i64 x7_1 ∧ Aside0 (impl_readLevels.l0 kq a0 l1 x5_1 x6_1 x7_1 = some r) ∧ Aside0 (kq ≤ k) ∧ Aside0 (Kd.R (Kd.int .u8) 5 w' w.heap.size (fun _ => True) v5 x5_1) ∧ Aside0 (Below w.heap.size w w'))
  case atStart => exact ⟨(y155), (t159), (0), (by first | rfl | (simp; done) | (simp [*]; done)), (by first | rfl | (simp; done) | (simp [*]; done)), H', ⟨Nat.le_refl _⟩, ⟨by (with_reducible repeat (first | apply Kd.R_alloc | apply Kd.R_drewN | apply Kd.R_drew)); exact HO157.out⟩, ⟨by repeat (first | (with_reducible first | exact HB.out | apply below_alloc | apply pw_below_drewN | apply below_drew1) | exact HB.out)⟩⟩
  case round =>
    clear H'
    try clear c1
    try clear p2
    obtain ⟨x5_1, x6_1, x7_1, rfl, rfl, HA, HK1, HO_5, HB⟩ := hrel
    cases gk with
    | zero => exact absurd HA.out (by simp [impl_readLevels.l0])
    | succ k1 =>
      have H := HA.out
      clear HA
      simp only [impl_readLevels.l0] at H
      by_cases c7 : x7_1 < (l1.length : Int)
      · rw [if_pos c7] at H
        have c7b0 : decide (x7_1 < (l1.length : Int)) = true := decide_eq_true c7
        clear c7
        by_cases c8 : 0 ≤ x7_1
        · rw [if_pos c8] at H
          have c8b0 : decide (0 ≤ x7_1) = true := decide_eq_true c8
          clear c8
          by_cases c9 : a0 = 0
          · rw [if_pos c9] at H
            have c9b0 : (a0 == 0) = true := beq_iff_eq.mpr c9
            have c9b1 : (a0 != 0) = false := bne_eq_false_iff_eq.mpr c9
            clear c9
            replace H := Option.bind_eq_some_iff.mp H
            obtain ⟨t163, A100, H⟩ := H
            replace H : (if 0 ≤ (wrap64 ((wrap64 (x7_1 + t163)) - 1)) then (if (wrap64 ((wrap64 (x7_1 + t163)) - 1)) < (l1.length : Int) then ((impl_bitOf.f ((rd l1 x7_1) == 1)).bind fun t165 => (if x5_1.length + t165.size < 140737488355328 then ((impl_perBit.f a0).bind fun t169 => (impl_readLevels.l0 k1 a0 l1 (x5_1 ++ bytesOf t165) (rd l1 (wrap64 ((wrap64 (x7_1 + t163)) - 1))) (wrap64 (x7_1 + t169)))) else (none))) else (none)) else (none)) = some r := H
            have A10 := Aside0.mk A100
            clear A100
            obtain ⟨ji11, hji11⟩ : ∃ j_ : Int, (wrap64 ((wrap64 (x7_1 + t163)) - 1)) = j_ := ⟨_, rfl⟩
            replace H : (if 0 ≤ (ji11) then (if (ji11) < (l1.length : Int) then ((impl_bitOf.f ((rd l1 x7_1) == 1)).bind fun t165 => (if x5_1.length + t165.size < 140737488355328 then ((impl_perBit.f a0).bind fun t169 => (impl_readLevels.l0 k1 a0 l1 (x5_1 ++ bytesOf t165) (rd l1 (ji11)) (wrap64 (x7_1 + t169)))) else (none))) else (none)) else (none)) = some r := by first | (rw [hji11] at H; exact H) | (simp only [hji11] at H ⊢; exact H)
            (try rw [hji11] at A10)
            have hji11w : (IntKind.i64.wrap ((wrap64 (x7_1 + t163)) - 1)) = ji11 := (i64_w _).trans hji11
            by_cases c12 : 0 ≤ (ji11)
            · rw [if_pos c12] at H
              have c12b0 : decide (0 ≤ (ji11)) = true := decide_eq_true c12
              clear c12
              by_cases c13 : (ji11) < (l1.length : Int)
              · rw [if_pos c13] at H
                have c13b0 : decide ((ji11) < (l1.length : Int)) = true := decide_eq_true c13
                clear c13
                replace H := Option.bind_eq_some_iff.mp H
                obtain ⟨t165, A140, H⟩ := H
                replace H : (if x5_1.length + t165.size < 140737488355328 then ((impl_perBit.f a0).bind fun t169 => (impl_readLevels.l0 k1 a0 l1 (x5_1 ++ bytesOf t165) (rd l1 (ji11)) (wrap64 (x7_1 + t169)))) else (none)) = some r := H
                have A14 := Aside0.mk A140
                clear A140
                by_cases c15 : x5_1.length + t165.size < 140737488355328
                · rw [if_pos c15] at H
                  have LMc15 := Aside0.mk c15
                  clear c15
                  obtain ⟨y166, hy166⟩ : ∃ y_ : List Int, y_ = (x5_1 ++ bytesOf t165) := ⟨_, rfl⟩
                  replace H : ((impl_perBit.f a0).bind fun t169 => (impl_readLevels.l0 k1 a0 l1 y166 (rd l1 (ji11)) (wrap64 (x7_1 + t169)))) = some r := by first | (rw [hy166]; with_reducible exact H) | (have H2_ := (Option.bind_some _ _).symm.trans H; rw [hy166]; with_reducible exact H2_) | (have H2_ := (Option.bind_some _ _).symm.trans H; with_reducible exact H2_) | with_reducible exact H | (rw [hy166]; exact H) | exact H
                  have Ny166 := Aside0.mk hy166
                  clear hy166
                  replace H := Option.bind_eq_some_iff.mp H
                  obtain ⟨t169, A160, H⟩ := H
                  replace H : (impl_readLevels.l0 k1 a0 l1 y166 (rd l1 (ji11)) (wrap64 (x7_1 + t169))) = some r := H
                  have A16 := Aside0.mk A160
                  clear A160
                  have H' := Aside0.mk H
                  clear H
                  have p162 : 0 ≤ (x7_1 : Int) := of_decide_eq_true (by first | (with_reducible assumption) | assumption)
                  have q162 : x7_1 < (l1.length : Int) := of_decide_eq_true (by first | (with_reducible assumption) | assumption)
                  obtain ⟨ad162, e162, hx162_0⟩ := Kd.at_int HR1.out x7_1 p162 q162
                  cases e162
                  replace hx162_0 := (HB.out.cell (World.block_lt_of_cell? w _ hx162_0)).trans hx162_0
                  replace p162 := eq_true p162
                  replace q162 := eq_true q162
                  go_wp2_with (first | ((with_reducible refine gate_callee (f := 83) rfl ?_); refine goesL_ (some 58) rfl rfl Try.func83 (by kernel_rfl) rfl #[.int .i64 a0] rfl (by (try simp only [List.map_toArray, List.map_cons, List.map_nil]); first | done | rfl | (simp only [List.length_drop, List.length_take]; rfl)) ?_; (with_reducible refine (impl_perBit.calls a0 t163 _ A10.out).mono ?_); rintro e w' ⟨rfl, ⟨nd, rfl⟩⟩; refine ⟨_, rfl, ?_⟩; have p164 : 0 ≤ ((ji11) : Int) := of_decide_eq_true (by first | (with_reducible assumption) | assumption); have q164 : (ji11) < (l1.length : Int) := of_decide_eq_true (by first | (with_reducible assumption) | assumption); obtain ⟨ad164, e164, hx164_0⟩ := Kd.at_int HR1.out (ji11) p164 q164; obtain rfl : ad162 = ad164 := (by injection e164); replace hx164_0 := (HB.out.cell (World.block_lt_of_cell? w _ hx164_0)).trans hx164_0; replace p164 := eq_true p164; replace q164 := eq_true q164) | ((with_reducible refine gate_callee (f := 97) rfl ?_); refine goesL_ (some 65) rfl rfl Try.func97 (by kernel_rfl) rfl #[.bool ((rd l1 x7_1) == 1)] rfl (by (try simp only [List.map_toArray, List.map_cons, List.map_nil]); first | done | rfl | (simp only [List.length_drop, List.length_take]; rfl)) ?_; (with_reducible refine (impl_bitOf.calls ((rd l1 x7_1) == 1) t165 _ A14.out).mono ?_); rintro e w' ⟨rfl, ⟨nd, rfl⟩⟩; refine ⟨_, rfl, ?_⟩) | (at_builtin; refine print_append_str (w0 := w) w.heap.size rfl (.tmp 63) _ 37 9 5 rfl Try.underlying37 Try.underlying9 info5 u5 x5_1 t165 rfl rfl ?aO ?aB ?aS ?aL ?_; (case aB => exact (by repeat (first | (with_reducible first | exact HB.out | apply below_alloc | apply pw_below_drewN | apply below_drew1) | exact HB.out))); (case aO => exact (Kd.own_of_R (by (with_reducible repeat (first | apply Kd.R_alloc | apply Kd.R_drewN | apply Kd.R_drew)); exact HO_5.out))); (case aS => exact (below_size (by repeat (first | (with_reducible first | exact HB.out | apply below_alloc | apply pw_below_drewN | apply below_drew1) | exact HB.out)))); (case aL => have := LMc15.out; omega); intro v167 w17 ho0 hb hg; have ho := Kd.R_of_own (h1 := fun _ => rfl) (ok := fun _ => True) ho0 (fun _ _ => trivial); clear ho0; have hat := True.intro; rw [← Ny166.out] at ho; change Kd.R (Kd.int .u8) 5 w17 w.heap.size (fun _ => True) v167 y166 at ho; have n0_ := Aside0.mk (hb); have n1_ := Aside0.mk (ho); clear HB; clear HO_5; have HB := n0_; have HO168 := n1_; clear n0_ n1_; clear ho hb hg hat) | ((with_reducible refine gate_callee (f := 83) rfl ?_); refine goesL_ (some 20) rfl rfl Try.func83 (by kernel_rfl) rfl #[.int .i64 a0] rfl (by (try simp only [List.map_toArray, List.map_cons, List.map_nil]); first | done | rfl | (simp only [List.length_drop, List.length_take]; rfl)) ?_; (with_reducible refine (impl_perBit.calls a0 t169 _ A16.out).mono ?_); rintro e w' ⟨rfl, ⟨nd, rfl⟩⟩; refine ⟨_, rfl, ?_⟩))
                  go_roundg k1
                  case measure => have := HK1.out; omega
                  case rel => exact ⟨(y166), (rd l1 (ji11)), (wrap64 (x7_1 + t169)), (by first | rfl | (simp; done) | (simp only [← hji11] <;> (first | rfl | simp)) | (simp [*]; done)), (by first | rfl | (simp; done) | (simp [*]; done)), H', ⟨by have := HK1.out; omega⟩, ⟨by (with_reducible repeat (first | apply Kd.R_alloc | apply Kd.R_drewN | apply Kd.R_drew)); exact HO168.out⟩, ⟨by repeat (first | (with_reducible first | exact HB.out | apply below_alloc | apply pw_below_drewN | apply below_drew1) | exact HB.out)⟩⟩
                · rw [if_neg c15] at H
                  exact absurd H (by simp)
              · rw [if_neg c13] at H
                exact absurd H (by simp)
            · rw [if_neg c12] at H
              exact absurd H (by simp)
          · rw [if_neg c9] at H
            have c9b0 : (a0 == 0) = false := beq_eq_false_iff_ne.mpr c9
            have c9b1 : (a0 != 0) = true := bne_iff_ne.mpr c9
            have HC18 := Aside0.mk H
            clear H
            have p162 : 0 ≤ (x7_1 : Int) := of_decide_eq_true (by first | (with_reducible assumption) | assumption)
            have q162 : x7_1 < (l1.length : Int) := of_decide_eq_true (by first | (with_reducible assumption) | assumption)
            obtain ⟨ad162, e162, hx162_0⟩ := Kd.at_int HR1.out x7_1 p162 q162
            cases e162
            replace hx162_0 := (HB.out.cell (World.block_lt_of_cell? w _ hx162_0)).trans hx162_0
            replace p162 := eq_true p162
            replace q162 := eq_true q162
            go_upto_if 31 with (fail)
            go_cut [31] (fun v31 wc => ∃ (kq : Nat) (x31_17 : Bool), v31 = .bool x31_17 ∧ Aside0 (impl_readLevels.j1 kq a0 l1 x5_1 x6_1 x7_1 (rd l1 x7_1) false a0 x31_17 = some r) ∧ Aside0 (kq ≤ k1) ∧ Aside0 (Kd.R (Kd.int .u8) 5 wc w.heap.size (fun _ => True) u5 x5_1) ∧ Aside0 (Below w.heap.size w wc))
            case first =>
              have H := HC18.out
              clear HC18
              by_cases c19 : a0 = 1
              · rw [if_pos c19] at H
                have c19b0 : (a0 == 1) = true := beq_iff_eq.mpr c19
                have c19b1 : (a0 != 1) = false := bne_eq_false_iff_eq.mpr c19
                clear c19
                (first | rw [c19b0] | (simp only [i64_w, i32_w]; rw [c19b0]) | skip)
                have H' := Aside0.mk H
                clear H
                go_wp2
                go_meet
                case rel => exact ⟨_, ((a0 == 1)), (by first | rfl | (simp; done) | (simp [*]; done)), H', ⟨by have := HK1.out; first | omega | exact Nat.le_refl _⟩, ⟨by (with_reducible repeat (first | apply Kd.R_alloc | apply Kd.R_drewN | apply Kd.R_drew)); exact HO_5.out⟩, ⟨by repeat (first | (with_reducible first | exact HB.out | apply below_alloc | apply pw_below_drewN | apply below_drew1) | exact HB.out)⟩⟩
              · rw [if_neg c19] at H
                have c19b0 : (a0 == 1) = false := beq_eq_false_iff_ne.mpr c19
                have c19b1 : (a0 != 1) = true := bne_iff_ne.mpr c19
                (first | rw [c19b0] | (simp only [i64_w, i32_w]; rw [c19b0]) | skip)
                have H' := Aside0.mk H
                clear H
                go_wp2
                go_meet
                case rel => exact ⟨_, ((a0 == 5)), (by first | rfl | (simp; done) | (simp [*]; done)), H', ⟨by have := HK1.out; first | omega | exact Nat.le_refl _⟩, ⟨by (with_reducible repeat (first | apply Kd.R_alloc | apply Kd.R_drewN | apply Kd.R_drew)); exact HO_5.out⟩, ⟨by repeat (first | (with_reducible first | exact HB.out | apply below_alloc | apply pw_below_drewN | apply below_drew1) | exact HB.out)⟩⟩
            case rest =>
              clear HC18
              try clear c1
              try clear p1
              try clear q1
              try clear hx1
              try clear p2
              try clear p6
              try clear c7
              try clear c7b0
              try clear c8
              try clear c8b0
              try clear c9
              try clear c9b0
              try clear c9b1
              try clear c12
              try clear c12b0
              try clear c13
              try clear c13b0
              try clear c15
              try clear p16
              try clear q16
              try clear hx16
              try clear c19
              try clear c19b0
              try clear c19b1
              try clear hx162_0
              try clear hx164_0
              try clear p162
              try clear p164
              try clear p2
              try clear q162
              try clear q164
              obtain ⟨kq, x31_17, rfl, HA, HJ17, HO_5, HB⟩ := hcut
              cases kq with
              | zero => exact absurd HA.out (by simp [impl_readLevels.j1])
              | succ kj17 =>
                have H := HA.out
                clear HA
                simp only [impl_readLevels.j1] at H
                by_cases c20 : x31_17 = true
                · subst c20
                  have H1 : ((impl_perBit.f a0).bind fun t170 => (if 0 ≤ (wrap64 ((wrap64 (x7_1 + t170)) - 1)) then (if (wrap64 ((wrap64 (x7_1 + t170)) - 1)) < (l1.length : Int) then ((impl_bitOf.f ((rd l1 x7_1) != x6_1)).bind fun t172 => (if x5_1.length + t172.size < 140737488355328 then ((impl_perBit.f a0).bind fun t176 => (impl_readLevels.l0 kj17 a0 l1 (x5_1 ++ bytesOf t172) (rd l1 (wrap64 ((wrap64 (x7_1 + t170)) - 1))) (wrap64 (x7_1 + t176)))) else (none))) else (none)) else (none))) = some r := by rw [if_pos rfl] at H; exact H
                  clear H
                  have H := H1
                  clear H1
                  replace H := Option.bind_eq_some_iff.mp H
                  obtain ⟨t170, A210, H⟩ := H
                  replace H : (if 0 ≤ (wrap64 ((wrap64 (x7_1 + t170)) - 1)) then (if (wrap64 ((wrap64 (x7_1 + t170)) - 1)) < (l1.length : Int) then ((impl_bitOf.f ((rd l1 x7_1) != x6_1)).bind fun t172 => (if x5_1.length + t172.size < 140737488355328 then ((impl_perBit.f a0).bind fun t176 => (impl_readLevels.l0 kj17 a0 l1 (x5_1 ++ bytesOf t172) (rd l1 (wrap64 ((wrap64 (x7_1 + t170)) - 1))) (wrap64 (x7_1 + t176)))) else (none))) else (none)) else (none)) = some r := H
                  have A21 := Aside0.mk A210
                  clear A210
                  obtain ⟨ji22, hji22⟩ : ∃ j_ : Int, (wrap64 ((wrap64 (x7_1 + t170)) - 1)) = j_ := ⟨_, rfl⟩
                  replace H : (if 0 ≤ (ji22) then (if (ji22) < (l1.length : Int) then ((impl_bitOf.f ((rd l1 x7_1) != x6_1)).bind fun t172 => (if x5_1.length + t172.size < 140737488355328 then ((impl_perBit.f a0).bind fun t176 => (impl_readLevels.l0 kj17 a0 l1 (x5_1 ++ bytesOf t172) (rd l1 (ji22)) (wrap64 (x7_1 + t176)))) else (none))) else (none)) else (none)) = some r := by first | (rw [hji22] at H; exact H) | (simp only [hji22] at H ⊢; exact H)
                  (try rw [hji22] at A21)
                  have hji22w : (IntKind.i64.wrap ((wrap64 (x7_1 + t170)) - 1)) = ji22 := (i64_w _).trans hji22
                  by_cases c23 : 0 ≤ (ji22)
                  · rw [if_pos c23] at H
                    have c23b0 : decide (0 ≤ (ji22)) = true := decide_eq_true c23
                    clear c23
                    by_cases c24 : (ji22) < (l1.length : Int)
                    · rw [if_pos c24] at H
                      have c24b0 : decide ((ji22) < (l1.length : Int)) = true := decide_eq_true c24
                      clear c24
                      replace H := Option.bind_eq_some_iff.mp H
                      obtain ⟨t172, A250, H⟩ := H
                      replace H : (if x5_1.length + t172.size < 140737488355328 then ((impl_perBit.f a0).bind fun t176 => (impl_readLevels.l0 kj17 a0 l1 (x5_1 ++ bytesOf t172) (rd l1 (ji22)) (wrap64 (x7_1 + t176)))) else (none)) = some r := H
                      have A25 := Aside0.mk A250
                      clear A250
                      by_cases c26 : x5_1.length + t172.size < 140737488355328
                      · rw [if_pos c26] at H
                        have LMc26 := Aside0.mk c26
                        clear c26
                        obtain ⟨y173, hy173⟩ : ∃ y_ : List Int, y_ = (x5_1 ++ bytesOf t172) := ⟨_, rfl⟩
                        replace H : ((impl_perBit.f a0).bind fun t176 => (impl_readLevels.l0 kj17 a0 l1 y173 (rd l1 (ji22)) (wrap64 (x7_1 + t176)))) = some r := by first | (rw [hy173]; with_reducible exact H) | (have H2_ := (Option.bind_some _ _).symm.trans H; rw [hy173]; with_reducible exact H2_) | (have H2_ := (Option.bind_some _ _).symm.trans H; with_reducible exact H2_) | with_reducible exact H | (rw [hy173]; exact H) | exact H
                        have Ny173 := Aside0.mk hy173
                        clear hy173
                        replace H := Option.bind_eq_some_iff.mp H
                        obtain ⟨t176, A270, H⟩ := H
                        replace H : (impl_readLevels.l0 kj17 a0 l1 y173 (rd l1 (ji22)) (wrap64 (x7_1 + t176))) = some r := H
                        have A27 := Aside0.mk A270
                        clear A270
                        have H' := Aside0.mk H
                        clear H
                        go_wp2_with (first | ((with_reducible refine gate_callee (f := 83) rfl ?_); refine goesL_ (some 58) rfl rfl Try.func83 (by kernel_rfl) rfl #[.int .i64 a0] rfl (by (try simp only [List.map_toArray, List.map_cons, List.map_nil]); first | done | rfl | (simp only [List.length_drop, List.length_take]; rfl)) ?_; (with_reducible refine (impl_perBit.calls a0 t170 _ A21.out).mono ?_); rintro e w' ⟨rfl, ⟨nd, rfl⟩⟩; refine ⟨_, rfl, ?_⟩; have p171 : 0 ≤ ((ji22) : Int) := of_decide_eq_true (by first | (with_reducible assumption) | assumption); have q171 : (ji22) < (l1.length : Int) := of_decide_eq_true (by first | (with_reducible assumption) | assumption); obtain ⟨ad171, e171, hx171_0⟩ := Kd.at_int HR1.out (ji22) p171 q171; obtain rfl : ad162 = ad171 := (by injection e171); replace hx171_0 := (HB.out.cell (World.block_lt_of_cell? w _ hx171_0)).trans hx171_0; replace p171 := eq_true p171; replace q171 := eq_true q171) | ((with_reducible refine gate_callee (f := 97) rfl ?_); refine goesL_ (some 65) rfl rfl Try.func97 (by kernel_rfl) rfl #[.bool ((rd l1 x7_1) != x6_1)] rfl (by (try simp only [List.map_toArray, List.map_cons, List.map_nil]); first | done | rfl | (simp only [List.length_drop, List.length_take]; rfl)) ?_; (with_reducible refine (impl_bitOf.calls ((rd l1 x7_1) != x6_1) t172 _ A25.out).mono ?_); rintro e w' ⟨rfl, ⟨nd, rfl⟩⟩; refine ⟨_, rfl, ?_⟩) | (at_builtin; refine print_append_str (w0 := w) w.heap.size rfl (.tmp 63) _ 37 9 5 rfl Try.underlying37 Try.underlying9 info5 u5 x5_1 t172 rfl rfl ?aO ?aB ?aS ?aL ?_; (case aB => exact (by repeat (first | (with_reducible first | exact HB.out | apply below_alloc | apply pw_below_drewN | apply below_drew1) | exact HB.out))); (case aO => exact (Kd.own_of_R (by (with_reducible repeat (first | apply Kd.R_alloc | apply Kd.R_drewN | apply Kd.R_drew)); exact HO_5.out))); (case aS => exact (below_size (by repeat (first | (with_reducible first | exact HB.out | apply below_alloc | apply pw_below_drewN | apply below_drew1) | exact HB.out)))); (case aL => have := LMc26.out; omega); intro v174 w28 ho0 hb hg; have ho := Kd.R_of_own (h1 := fun _ => rfl) (ok := fun _ => True) ho0 (fun _ _ => trivial); clear ho0; have hat := True.intro; rw [← Ny173.out] at ho; change Kd.R (Kd.int .u8) 5 w28 w.heap.size (fun _ => True) v174 y173 at ho; have n0_ := Aside0.mk (hb); have n1_ := Aside0.mk (ho); clear HB; clear HO_5; have HB := n0_; have HO175 := n1_; clear n0_ n1_; clear ho hb hg hat) | ((with_reducible refine gate_callee (f := 83) rfl ?_); refine goesL_ (some 20) rfl rfl Try.func83 (by kernel_rfl) rfl #[.int .i64 a0] rfl (by (try simp only [List.map_toArray, List.map_cons, List.map_nil]); first | done | rfl | (simp only [List.length_drop, List.length_take]; rfl)) ?_; (with_reducible refine (impl_perBit.calls a0 t176 _ A27.out).mono ?_); rintro e w' ⟨rfl, ⟨nd, rfl⟩⟩; refine ⟨_, rfl, ?_⟩))
                        go_roundg kj17
                        case measure => have := HK1.out; have := HJ17.out; omega
                        case rel => exact ⟨(y173), (rd l1 (ji22)), (wrap64 (x7_1 + t176)), (by first | rfl | (simp; done) | (simp only [← hji22] <;> (first | rfl | simp)) | (simp [*]; done)), (by first | rfl | (simp; done) | (simp [*]; done)), H', ⟨by have := HK1.out; have := HJ17.out; omega⟩, ⟨by (with_reducible repeat (first | apply Kd.R_alloc | apply Kd.R_drewN | apply Kd.R_drew)); exact HO175.out⟩, ⟨by repeat (first | (with_reducible first | exact HB.out | apply below_alloc | apply pw_below_drewN | apply below_drew1) | exact HB.out)⟩⟩
                      · rw [if_neg c26] at H
                        exact absurd H (by simp)
                    · rw [if_neg c24] at H
                      exact absurd H (by simp)
                  · rw [if_neg c23] at H
                    exact absurd H (by simp)
                · replace c20 := Bool.eq_false_iff.mpr c20
                  subst c20
                  have H1 : (if a0 = 2 then (if 0 ≤ (wrap64 (x7_1 + 1)) then (if (wrap64 (x7_1 + 1)) < (l1.length : Int) then ((impl_perBit.f a0).bind fun t178 => (if 0 ≤ (wrap64 ((wrap64 (x7_1 + t178)) - 1)) then (if (wrap64 ((wrap64 (x7_1 + t178)) - 1)) < (l1.length : Int) then ((impl_bitOf.f (decide ((rd l1 x7_1) < (rd l1 (wrap64 (x7_1 + 1)))))).bind fun t180 => (if x5_1.length + t180.size < 140737488355328 then ((impl_perBit.f a0).bind fun t184 => (impl_readLevels.l0 kj17 a0 l1 (x5_1 ++ bytesOf t180) (rd l1 (wrap64 ((wrap64 (x7_1 + t178)) - 1))) (wrap64 (x7_1 + t184)))) else (none))) else (none)) else (none))) else (none)) else (none)) else (if a0 = 3 then ((impl_perBit.f a0).bind fun t185 => (if 0 ≤ (wrap64 ((wrap64 (x7_1 + t185)) - 1)) then (if (wrap64 ((wrap64 (x7_1 + t185)) - 1)) < (l1.length : Int) then ((impl_bitOf.f ((rd l1 x7_1) == x6_1)).bind fun t187 => (if x5_1.length + t187.size < 140737488355328 then ((impl_perBit.f a0).bind fun t191 => (impl_readLevels.l0 kj17 a0 l1 (x5_1 ++ bytesOf t187) (rd l1 (wrap64 ((wrap64 (x7_1 + t185)) - 1))) (wrap64 (x7_1 + t191)))) else (none))) else (none)) else (none))) else (if a0 = 4 then ((impl_perBit.f a0).bind fun t192 => (if 0 ≤ (wrap64 ((wrap64 (x7_1 + t192)) - 1)) then (if (wrap64 ((wrap64 (x7_1 + t192)) - 1)) < (l1.length : Int) then ((impl_bitOf.f ((rd l1 x7_1) != 0)).bind fun t194 => (if x5_1.length + t194.size < 140737488355328 then ((impl_perBit.f a0).bind fun t198 => (impl_readLevels.l0 kj17 a0 l1 (x5_1 ++ bytesOf t194) (rd l1 (wrap64 ((wrap64 (x7_1 + t192)) - 1))) (wrap64 (x7_1 + t198)))) else (none))) else (none)) else (none))) else ((impl_perBit.f a0).bind fun t199 => (if 0 ≤ (wrap64 ((wrap64 (x7_1 + t199)) - 1)) then (if (wrap64 ((wrap64 (x7_1 + t199)) - 1)) < (l1.length : Int) then ((impl_bitOf.f false).bind fun t201 => (if x5_1.length + t201.size < 140737488355328 then ((impl_perBit.f a0).bind fun t205 => (impl_readLevels.l0 kj17 a0 l1 (x5_1 ++ bytesOf t201) (rd l1 (wrap64 ((wrap64 (x7_1 + t199)) - 1))) (wrap64 (x7_1 + t205)))) else (none))) else (none)) else (none)))))) = some r := by rw [if_neg (show ¬ (false = true) by decide)] at H; exact H
                  clear H
                  have H := H1
                  clear H1
                  by_cases c29 : a0 = 2
                  · rw [if_pos c29] at H
                    have c29b0 : (a0 == 2) = true := beq_iff_eq.mpr c29
                    have c29b1 : (a0 != 2) = false := bne_eq_false_iff_eq.mpr c29
                    clear c29
                    obtain ⟨ji30, hji30⟩ : ∃ j_ : Int, (wrap64 (x7_1 + 1)) = j_ := ⟨_, rfl⟩
                    replace H : (if 0 ≤ (ji30) then (if (ji30) < (l1.length : Int) then ((impl_perBit.f a0).bind fun t178 => (if 0 ≤ (wrap64 ((wrap64 (x7_1 + t178)) - 1)) then (if (wrap64 ((wrap64 (x7_1 + t178)) - 1)) < (l1.length : Int) then ((impl_bitOf.f (decide ((rd l1 x7_1) < (rd l1 (ji30))))).bind fun t180 => (if x5_1.length + t180.size < 140737488355328 then ((impl_perBit.f a0).bind fun t184 => (impl_readLevels.l0 kj17 a0 l1 (x5_1 ++ bytesOf t180) (rd l1 (wrap64 ((wrap64 (x7_1 + t178)) - 1))) (wrap64 (x7_1 + t184)))) else (none))) else (none)) else (none))) else (none)) else (none)) = some r := by first | (rw [hji30] at H; exact H) | (simp only [hji30] at H ⊢; exact H)
                    have hji30w : (IntKind.i64.wrap (x7_1 + 1)) = ji30 := (i64_w _).trans hji30
                    by_cases c31 : 0 ≤ (ji30)
                    · rw [if_pos c31] at H
                      have c31b0 : decide (0 ≤ (ji30)) = true := decide_eq_true c31
                      clear c31
                      by_cases c32 : (ji30) < (l1.length : Int)
                      · rw [if_pos c32] at H
                        have c32b0 : decide ((ji30) < (l1.length : Int)) = true := decide_eq_true c32
                        clear c32
                        replace H := Option.bind_eq_some_iff.mp H
                        obtain ⟨t178, A330, H⟩ := H
                        replace H : (if 0 ≤ (wrap64 ((wrap64 (x7_1 + t178)) - 1)) then (if (wrap64 ((wrap64 (x7_1 + t178)) - 1)) < (l1.length : Int) then ((impl_bitOf.f (decide ((rd l1 x7_1) < (rd l1 (ji30))))).bind fun t180 => (if x5_1.length + t180.size < 140737488355328 then ((impl_perBit.f a0).bind fun t184 => (impl_readLevels.l0 kj17 a0 l1 (x5_1 ++ bytesOf t180) (rd l1 (wrap64 ((wrap64 (x7_1 + t178)) - 1))) (wrap64 (x7_1 + t184)))) else (none))) else (none)) else (none)) = some r := H
                        have A33 := Aside0.mk A330
                        clear A330
                        obtain ⟨ji34, hji34⟩ : ∃ j_ : Int, (wrap64 ((wrap64 (x7_1 + t178)) - 1)) = j_ := ⟨_, rfl⟩
                        replace H : (if 0 ≤ (ji34) then (if (ji34) < (l1.length : Int) then ((impl_bitOf.f (decide ((rd l1 x7_1) < (rd l1 (ji30))))).bind fun t180 => (if x5_1.length + t180.size < 140737488355328 then ((impl_perBit.f a0).bind fun t184 => (impl_readLevels.l0 kj17 a0 l1 (x5_1 ++ bytesOf t180) (rd l1 (ji34)) (wrap64 (x7_1 + t184)))) else (none))) else (none)) else (none)) = some r := by first | (rw [hji34] at H; exact H) | (simp only [hji34] at H ⊢; exact H)
                        (try rw [hji34] at A33)
                        have hji34w : (IntKind.i64.wrap ((wrap64 (x7_1 + t178)) - 1)) = ji34 := (i64_w _).trans hji34
                        by_cases c35 : 0 ≤ (ji34)
                        · rw [if_pos c35] at H
                          have c35b0 : decide (0 ≤ (ji34)) = true := decide_eq_true c35
                          clear c35
                          by_cases c36 : (ji34) < (l1.length : Int)
                          · rw [if_pos c36] at H
                            have c36b0 : decide ((ji34) < (l1.length : Int)) = true := decide_eq_true c36
                            clear c36
                            replace H := Option.bind_eq_some_iff.mp H
                            obtain ⟨t180, A370, H⟩ := H
                            replace H : (if x5_1.length + t180.size < 140737488355328 then ((impl_perBit.f a0).bind fun t184 => (impl_readLevels.l0 kj17 a0 l1 (x5_1 ++ bytesOf t180) (rd l1 (ji34)) (wrap64 (x7_1 + t184)))) else (none)) = some r := H
                            have A37 := Aside0.mk A370
                            clear A370
                            by_cases c38 : x5_1.length + t180.size < 140737488355328
                            · rw [if_pos c38] at H
                              have LMc38 := Aside0.mk c38
                              clear c38
                              obtain ⟨y181, hy181⟩ : ∃ y_ : List Int, y_ = (x5_1 ++ bytesOf t180) := ⟨_, rfl⟩
                              replace H : ((impl_perBit.f a0).bind fun t184 => (impl_readLevels.l0 kj17 a0 l1 y181 (rd l1 (ji34)) (wrap64 (x7_1 + t184)))) = some r := by first | (rw [hy181]; with_reducible exact H) | (have H2_ := (Option.bind_some _ _).symm.trans H; rw [hy181]; with_reducible exact H2_) | (have H2_ := (Option.bind_some _ _).symm.trans H; with_reducible exact H2_) | with_reducible exact H | (rw [hy181]; exact H) | exact H
                              have Ny181 := Aside0.mk hy181
                              clear hy181
                              replace H := Option.bind_eq_some_iff.mp H
                              obtain ⟨t184, A390, H⟩ := H
                              replace H : (impl_readLevels.l0 kj17 a0 l1 y181 (rd l1 (ji34)) (wrap64 (x7_1 + t184))) = some r := H
                              have A39 := Aside0.mk A390
                              clear A390
                              have H' := Aside0.mk H
                              clear H
                              have p177 : 0 ≤ ((ji30) : Int) := of_decide_eq_true (by first | (with_reducible assumption) | assumption)
                              have q177 : (ji30) < (l1.length : Int) := of_decide_eq_true (by first | (with_reducible assumption) | assumption)
                              obtain ⟨ad177, e177, hx177_0⟩ := Kd.at_int HR1.out (ji30) p177 q177
                              obtain rfl : ad162 = ad177 := (by injection e177)
                              replace hx177_0 := (HB.out.cell (World.block_lt_of_cell? w _ hx177_0)).trans hx177_0
                              replace p177 := eq_true p177
                              replace q177 := eq_true q177
                              go_wp2_with (first | ((with_reducible refine gate_callee (f := 83) rfl ?_); refine goesL_ (some 58) rfl rfl Try.func83 (by kernel_rfl) rfl #[.int .i64 a0] rfl (by (try simp only [List.map_toArray, List.map_cons, List.map_nil]); first | done | rfl | (simp only [List.length_drop, List.length_take]; rfl)) ?_; (with_reducible refine (impl_perBit.calls a0 t178 _ A33.out).mono ?_); rintro e w' ⟨rfl, ⟨nd, rfl⟩⟩; refine ⟨_, rfl, ?_⟩; have p179 : 0 ≤ ((ji34) : Int) := of_decide_eq_true (by first | (with_reducible assumption) | assumption); have q179 : (ji34) < (l1.length : Int) := of_decide_eq_true (by first | (with_reducible assumption) | assumption); obtain ⟨ad179, e179, hx179_0⟩ := Kd.at_int HR1.out (ji34) p179 q179; obtain rfl : ad162 = ad179 := (by injection e179); replace hx179_0 := (HB.out.cell (World.block_lt_of_cell? w _ hx179_0)).trans hx179_0; replace p179 := eq_true p179; replace q179 := eq_true q179) | ((with_reducible refine gate_callee (f := 97) rfl ?_); refine goesL_ (some 65) rfl rfl Try.func97 (by kernel_rfl) rfl #[.bool (decide ((rd l1 x7_1) < (rd l1 (ji30))))] rfl (by (try simp only [List.map_toArray, List.map_cons, List.map_nil]); first | done | (simp only [hji30]; rfl) | rfl | (simp only [List.length_drop, List.length_take]; rfl)) ?_; (with_reducible refine (impl_bitOf.calls (decide ((rd l1 x7_1) < (rd l1 (ji30)))) t180 _ A37.out).mono ?_); rintro e w' ⟨rfl, ⟨nd, rfl⟩⟩; refine ⟨_, rfl, ?_⟩) | (at_builtin; refine print_append_str (w0 := w) w.heap.size rfl (.tmp 63) _ 37 9 5 rfl Try.underlying37 Try.underlying9 info5 u5 x5_1 t180 rfl rfl ?aO ?aB ?aS ?aL ?_; (case aB => exact (by repeat (first | (with_reducible first | exact HB.out | apply below_alloc | apply pw_below_drewN | apply below_drew1) | exact HB.out))); (case aO => exact (Kd.own_of_R (by (with_reducible repeat (first | apply Kd.R_alloc | apply Kd.R_drewN | apply Kd.R_drew)); exact HO_5.out))); (case aS => exact (below_size (by repeat (first | (with_reducible first | exact HB.out | apply below_alloc | apply pw_below_drewN | apply below_drew1) | exact HB.out)))); (case aL => have := LMc38.out; omega); intro v182 w40 ho0 hb hg; have ho := Kd.R_of_own (h1 := fun _ => rfl) (ok := fun _ => True) ho0 (fun _ _ => trivial); clear ho0; have hat := True.intro; rw [← Ny181.out] at ho; change Kd.R (Kd.int .u8) 5 w40 w.heap.size (fun _ => True) v182 y181 at ho; have n0_ := Aside0.mk (hb); have n1_ := Aside0.mk (ho); clear HB; clear HO_5; have HB := n0_; have HO183 := n1_; clear n0_ n1_; clear ho hb hg hat) | ((with_reducible refine gate_callee (f := 83) rfl ?_); refine goesL_ (some 20) rfl rfl Try.func83 (by kernel_rfl) rfl #[.int .i64 a0] rfl (by (try simp only [List.map_toArray, List.map_cons, List.map_nil]); first | done | rfl | (simp only [List.length_drop, List.length_take]; rfl)) ?_; (with_reducible refine (impl_perBit.calls a0 t184 _ A39.out).mono ?_); rintro e w' ⟨rfl, ⟨nd, rfl⟩⟩; refine ⟨_, rfl, ?_⟩))
                              go_roundg kj17
                              case measure => have := HK1.out; have := HJ17.out; omega
                              case rel => exact ⟨(y181), (rd l1 (ji34)), (wrap64 (x7_1 + t184)), (by first | rfl | (simp; done) | (simp only [← hji34] <;> (first | rfl | simp)) | (simp [*]; done)), (by first | rfl | (simp; done) | (simp [*]; done)), H', ⟨by have := HK1.out; have := HJ17.out; omega⟩, ⟨by (with_reducible repeat (first | apply Kd.R_alloc | apply Kd.R_drewN | apply Kd.R_drew)); exact HO183.out⟩, ⟨by repeat (first | (with_reducible first | exact HB.out | apply below_alloc | apply pw_below_drewN | apply below_drew1) | exact HB.out)⟩⟩
                            · rw [if_neg c38] at H
                              exact absurd H (by simp)
                          · rw [if_neg c36] at H
                            exact absurd H (by simp)
                        · rw [if_neg c35] at H
                          exact absurd H (by simp)
                      · rw [if_neg c32] at H
                        exact absurd H (by simp)
                    · rw [if_neg c31] at H
                      exact absurd H (by simp)
                  · rw [if_neg c29] at H
                    have c29b0 : (a0 == 2) = false := beq_eq_false_iff_ne.mpr c29
                    have c29b1 : (a0 != 2) = true := bne_iff_ne.mpr c29
                    by_cases c41 : a0 = 3
                    · rw [if_pos c41] at H
                      have c41b0 : (a0 == 3) = true := beq_iff_eq.mpr c41
                      have c41b1 : (a0 != 3) = false := bne_eq_false_iff_eq.mpr c41
                      clear c41
                      replace H := Option.bind_eq_some_iff.mp H
                      obtain ⟨t185, A420, H⟩ := H
                      replace H : (if 0 ≤ (wrap64 ((wrap64 (x7_1 + t185)) - 1)) then (if (wrap64 ((wrap64 (x7_1 + t185)) - 1)) < (l1.length : Int) then ((impl_bitOf.f ((rd l1 x7_1) == x6_1)).bind fun t187 => (if x5_1.length + t187.size < 140737488355328 then ((impl_perBit.f a0).bind fun t191 => (impl_readLevels.l0 kj17 a0 l1 (x5_1 ++ bytesOf t187) (rd l1 (wrap64 ((wrap64 (x7_1 + t185)) - 1))) (wrap64 (x7_1 + t191)))) else (none))) else (none)) else (none)) = some r := H
                      have A42 := Aside0.mk A420
                      clear A420
                      obtain ⟨ji43, hji43⟩ : ∃ j_ : Int, (wrap64 ((wrap64 (x7_1 + t185)) - 1)) = j_ := ⟨_, rfl⟩
                      replace H : (if 0 ≤ (ji43) then (if (ji43) < (l1.length : Int) then ((impl_bitOf.f ((rd l1 x7_1) == x6_1)).bind fun t187 => (if x5_1.length + t187.size < 140737488355328 then ((impl_perBit.f a0).bind fun t191 => (impl_readLevels.l0 kj17 a0 l1 (x5_1 ++ bytesOf t187) (rd l1 (ji43)) (wrap64 (x7_1 + t191)))) else (none))) else (none)) else (none)) = some r := by first | (rw [hji43] at H; exact H) | (simp only [hji43] at H ⊢; exact H)
                      (try rw [hji43] at A42)
                      have hji43w : (IntKind.i64.wrap ((wrap64 (x7_1 + t185)) - 1)) = ji43 := (i64_w _).trans hji43
                      by_cases c44 : 0 ≤ (ji43)
                      · rw [if_pos c44] at H
                        have c44b0 : decide (0 ≤ (ji43)) = true := decide_eq_true c44
                        clear c44
                        by_cases c45 : (ji43) < (l1.length : Int)
                        · rw [if_pos c45] at H
                          have c45b0 : decide ((ji43) < (l1.length : Int)) = true := decide_eq_true c45
                          clear c45
                          replace H := Option.bind_eq_some_iff.mp H
                          obtain ⟨t187, A460, H⟩ := H
                          replace H : (if x5_1.length + t187.size < 140737488355328 then ((impl_perBit.f a0).bind fun t191 => (impl_readLevels.l0 kj17 a0 l1 (x5_1 ++ bytesOf t187) (rd l1 (ji43)) (wrap64 (x7_1 + t191)))) else (none)) = some r := H
                          have A46 := Aside0.mk A460
                          clear A460
                          by_cases c47 : x5_1.length + t187.size < 140737488355328
                          · rw [if_pos c47] at H
                            have LMc47 := Aside0.mk c47
                            clear c47
                            obtain ⟨y188, hy188⟩ : ∃ y_ : List Int, y_ = (x5_1 ++ bytesOf t187) := ⟨_, rfl⟩
                            replace H : ((impl_perBit.f a0).bind fun t191 => (impl_readLevels.l0 kj17 a0 l1 y188 (rd l1 (ji43)) (wrap64 (x7_1 + t191)))) = some r := by first | (rw [hy188]; with_reducible exact H) | (have H2_ := (Option.bind_some _ _).symm.trans H; rw [hy188]; with_reducible exact H2_) | (have H2_ := (Option.bind_some _ _).symm.trans H; with_reducible exact H2_) | with_reducible exact H | (rw [hy188]; exact H) | exact H
                            have Ny188 := Aside0.mk hy188
                            clear hy188
                            replace H := Option.bind_eq_some_iff.mp H
                            obtain ⟨t191, A480, H⟩ := H
                            replace H : (impl_readLevels.l0 kj17 a0 l1 y188 (rd l1 (ji43)) (wrap64 (x7_1 + t191))) = some r := H
                            have A48 := Aside0.mk A480
                            clear A480
                            have H' := Aside0.mk H
                            clear H
                            go_wp2_with (first | ((with_reducible refine gate_callee (f := 83) rfl ?_); refine goesL_ (some 58) rfl rfl Try.func83 (by kernel_rfl) rfl #[.int .i64 a0] rfl (by (try simp only [List.map_toArray, List.map_cons, List.map_nil]); first | done | rfl | (simp only [List.length_drop, List.length_take]; rfl)) ?_; (with_reducible refine (impl_perBit.calls a0 t185 _ A42.out).mono ?_); rintro e w' ⟨rfl, ⟨nd, rfl⟩⟩; refine ⟨_, rfl, ?_⟩; have p186 : 0 ≤ ((ji43) : Int) := of_decide_eq_true (by first | (with_reducible assumption) | assumption); have q186 : (ji43) < (l1.length : Int) := of_decide_eq_true (by first | (with_reducible assumption) | assumption); obtain ⟨ad186, e186, hx186_0⟩ := Kd.at_int HR1.out (ji43) p186 q186; obtain rfl : ad162 = ad186 := (by injection e186); replace hx186_0 := (HB.out.cell (World.block_lt_of_cell? w _ hx186_0)).trans hx186_0; replace p186 := eq_true p186; replace q186 := eq_true q186) | ((with_reducible refine gate_callee (f := 97) rfl ?_); refine goesL_ (some 65) rfl rfl Try.func97 (by kernel_rfl) rfl #[.bool ((rd l1 x7_1) == x6_1)] rfl (by (try simp only [List.map_toArray, List.map_cons, List.map_nil]); first | done | rfl | (simp only [List.length_drop, List.length_take]; rfl)) ?_; (with_reducible refine (impl_bitOf.calls ((rd l1 x7_1) == x6_1) t187 _ A46.out).mono ?_); rintro e w' ⟨rfl, ⟨nd, rfl⟩⟩; refine ⟨_, rfl, ?_⟩) | (at_builtin; refine print_append_str (w0 := w) w.heap.size rfl (.tmp 63) _ 37 9 5 rfl Try.underlying37 Try.underlying9 info5 u5 x5_1 t187 rfl rfl ?aO ?aB ?aS ?aL ?_; (case aB => exact (by repeat (first | (with_reducible first | exact HB.out | apply below_alloc | apply pw_below_drewN | apply below_drew1) | exact HB.out))); (case aO => exact (Kd.own_of_R (by (with_reducible repeat (first | apply Kd.R_alloc | apply Kd.R_drewN | apply Kd.R_drew)); exact HO_5.out))); (case aS => exact (below_size (by repeat (first | (with_reducible first | exact HB.out | apply below_alloc | apply pw_below_drewN | apply below_drew1) | exact HB.out)))); (case aL => have := LMc47.out; omega); intro v189 w49 ho0 hb hg; have ho := Kd.R_of_own (h1 := fun _ => rfl) (ok := fun _ => True) ho0 (fun _ _ => trivial); clear ho0; have hat := True.intro; rw [← Ny188.out] at ho; change Kd.R (Kd.int .u8) 5 w49 w.heap.size (fun _ => True) v189 y188 at ho; have n0_ := Aside0.mk (hb); have n1_ := Aside0.mk (ho); clear HB; clear HO_5; have HB := n0_; have HO190 := n1_; clear n0_ n1_; clear ho hb hg hat) | ((with_reducible refine gate_callee (f := 83) rfl ?_); refine goesL_ (some 20) rfl rfl Try.func83 (by kernel_rfl) rfl #[.int .i64 a0] rfl (by (try simp only [List.map_toArray, List.map_cons, List.map_nil]); first | done | rfl | (simp only [List.length_drop, List.length_take]; rfl)) ?_; (with_reducible refine (impl_perBit.calls a0 t191 _ A48.out).mono ?_); rintro e w' ⟨rfl, ⟨nd, rfl⟩⟩; refine ⟨_, rfl, ?_⟩))
                            go_roundg kj17
                            case measure => have := HK1.out; have := HJ17.out; omega
                            case rel => exact ⟨(y188), (rd l1 (ji43)), (wrap64 (x7_1 + t191)), (by first | rfl | (simp; done) | (simp only [← hji43] <;> (first | rfl | simp)) | (simp [*]; done)), (by first | rfl | (simp; done) | (simp [*]; done)), H', ⟨by have := HK1.out; have := HJ17.out; omega⟩, ⟨by (with_reducible repeat (first | apply Kd.R_alloc | apply Kd.R_drewN | apply Kd.R_drew)); exact HO190.out⟩, ⟨by repeat (first | (with_reducible first | exact HB.out | apply below_alloc | apply pw_below_drewN | apply below_drew1) | exact HB.out)⟩⟩
                          · rw [if_neg c47] at H
                            exact absurd H (by simp)
                        · rw [if_neg c45] at H
                          exact absurd H (by simp)
                      · rw [if_neg c44] at H
                        exact absurd H (by simp)
                    · rw [if_neg c41] at H
                      have c41b0 : (a0 == 3) = false := beq_eq_false_iff_ne.mpr c41
                      have c41b1 : (a0 != 3) = true := bne_iff_ne.mpr c41
                      by_cases c50 : a0 = 4
                      · rw [if_pos c50] at H
                        have c50b0 : (a0 == 4) = true := beq_iff_eq.mpr c50
                        have c50b1 : (a0 != 4) = false := bne_eq_false_iff_eq.mpr c50
                        clear c50
                        replace H := Option.bind_eq_some_iff.mp H
                        obtain ⟨t192, A510, H⟩ := H
                        replace H : (if 0 ≤ (wrap64 ((wrap64 (x7_1 + t192)) - 1)) then (if (wrap64 ((wrap64 (x7_1 + t192)) - 1)) < (l1.length : Int) then ((impl_bitOf.f ((rd l1 x7_1) != 0)).bind fun t194 => (if x5_1.length + t194.size < 140737488355328 then ((impl_perBit.f a0).bind fun t198 => (impl_readLevels.l0 kj17 a0 l1 (x5_1 ++ bytesOf t194) (rd l1 (wrap64 ((wrap64 (x7_1 + t192)) - 1))) (wrap64 (x7_1 + t198)))) else (none))) else (none)) else (none)) = some r := H
                        have A51 := Aside0.mk A510
                        clear A510
                        obtain ⟨ji52, hji52⟩ : ∃ j_ : Int, (wrap64 ((wrap64 (x7_1 + t192)) - 1)) = j_ := ⟨_, rfl⟩
                        replace H : (if 0 ≤ (ji52) then (if (ji52) < (l1.length : Int) then ((impl_bitOf.f ((rd l1 x7_1) != 0)).bind fun t194 => (if x5_1.length + t194.size < 140737488355328 then ((impl_perBit.f a0).bind fun t198 => (impl_readLevels.l0 kj17 a0 l1 (x5_1 ++ bytesOf t194) (rd l1 (ji52)) (wrap64 (x7_1 + t198)))) else (none))) else (none)) else (none)) = some r := by first | (rw [hji52] at H; exact H) | (simp only [hji52] at H ⊢; exact H)
                        (try rw [hji52] at A51)
                        have hji52w : (IntKind.i64.wrap ((wrap64 (x7_1 + t192)) - 1)) = ji52 := (i64_w _).trans hji52
                        by_cases c53 : 0 ≤ (ji52)
                        · rw [if_pos c53] at H
                          have c53b0 : decide (0 ≤ (ji52)) = true := decide_eq_true c53
                          clear c53
                          by_cases c54 : (ji52) < (l1.length : Int)
                          · rw [if_pos c54] at H
                            have c54b0 : decide ((ji52) < (l1.length : Int)) = true := decide_eq_true c54
                            clear c54
                            replace H := Option.bind_eq_some_iff.mp H
                            obtain ⟨t194, A550, H⟩ := H
                            replace H : (if x5_1.length + t194.size < 140737488355328 then ((impl_perBit.f a0).bind fun t198 => (impl_readLevels.l0 kj17 a0 l1 (x5_1 ++ bytesOf t194) (rd l1 (ji52)) (wrap64 (x7_1 + t198)))) else (none)) = some r := H
                            have A55 := Aside0.mk A550
                            clear A550
                            by_cases c56 : x5_1.length + t194.size < 140737488355328
                            · rw [if_pos c56] at H
                              have LMc56 := Aside0.mk c56
                              clear c56
                              obtain ⟨y195, hy195⟩ : ∃ y_ : List Int, y_ = (x5_1 ++ bytesOf t194) := ⟨_, rfl⟩
                              replace H : ((impl_perBit.f a0).bind fun t198 => (impl_readLevels.l0 kj17 a0 l1 y195 (rd l1 (ji52)) (wrap64 (x7_1 + t198)))) = some r := by first | (rw [hy195]; with_reducible exact H) | (have H2_ := (Option.bind_some _ _).symm.trans H; rw [hy195]; with_reducible exact H2_) | (have H2_ := (Option.bind_some _ _).symm.trans H; with_reducible exact H2_) | with_reducible exact H | (rw [hy195]; exact H) | exact H
                              have Ny195 := Aside0.mk hy195
                              clear hy195
                              replace H := Option.bind_eq_some_iff.mp H
                              obtain ⟨t198, A570, H⟩ := H
                              replace H : (impl_readLevels.l0 kj17 a0 l1 y195 (rd l1 (ji52)) (wrap64 (x7_1 + t198))) = some r := H
                              have A57 := Aside0.mk A570
                              clear A570
                              have H' := Aside0.mk H
                              clear H
                              go_wp2_with (first | ((with_reducible refine gate_callee (f := 83) rfl ?_); refine goesL_ (some 58) rfl rfl Try.func83 (by kernel_rfl) rfl #[.int .i64 a0] rfl (by (try simp only [List.map_toArray, List.map_cons, List.map_nil]); first | done | rfl | (simp only [List.length_drop, List.length_take]; rfl)) ?_; (with_reducible refine (impl_perBit.calls a0 t192 _ A51.out).mono ?_); rintro e w' ⟨rfl, ⟨nd, rfl⟩⟩; refine ⟨_, rfl, ?_⟩; have p193 : 0 ≤ ((ji52) : Int) := of_decide_eq_true (by first | (with_reducible assumption) | assumption); have q193 : (ji52) < (l1.length : Int) := of_decide_eq_true (by first | (with_reducible assumption) | assumption); obtain ⟨ad193, e193, hx193_0⟩ := Kd.at_int HR1.out (ji52) p193 q193; obtain rfl : ad162 = ad193 := (by injection e193); replace hx193_0 := (HB.out.cell (World.block_lt_of_cell? w _ hx193_0)).trans hx193_0; replace p193 := eq_true p193; replace q193 := eq_true q193) | ((with_reducible refine gate_callee (f := 97) rfl ?_); refine goesL_ (some 65) rfl rfl Try.func97 (by kernel_rfl) rfl #[.bool ((rd l1 x7_1) != 0)] rfl (by (try simp only [List.map_toArray, List.map_cons, List.map_nil]); first | done | rfl | (simp only [List.length_drop, List.length_take]; rfl)) ?_; (with_reducible refine (impl_bitOf.calls ((rd l1 x7_1) != 0) t194 _ A55.out).mono ?_); rintro e w' ⟨rfl, ⟨nd, rfl⟩⟩; refine ⟨_, rfl, ?_⟩) | (at_builtin; refine print_append_str (w0 := w) w.heap.size rfl (.tmp 63) _ 37 9 5 rfl Try.underlying37 Try.underlying9 info5 u5 x5_1 t194 rfl rfl ?aO ?aB ?aS ?aL ?_; (case aB => exact (by repeat (first | (with_reducible first | exact HB.out | apply below_alloc | apply pw_below_drewN | apply below_drew1) | exact HB.out))); (case aO => exact (Kd.own_of_R (by (with_reducible repeat (first | apply Kd.R_alloc | apply Kd.R_drewN | apply Kd.R_drew)); exact HO_5.out))); (case aS => exact (below_size (by repeat (first | (with_reducible first | exact HB.out | apply below_alloc | apply pw_below_drewN | apply below_drew1) | exact HB.out)))); (case aL => have := LMc56.out; omega); intro v196 w58 ho0 hb hg; have ho := Kd.R_of_own (h1 := fun _ => rfl) (ok := fun _ => True) ho0 (fun _ _ => trivial); clear ho0; have hat := True.intro; rw [← Ny195.out] at ho; change Kd.R (Kd.int .u8) 5 w58 w.heap.size (fun _ => True) v196 y195 at ho; have n0_ := Aside0.mk (hb); have n1_ := Aside0.mk (ho); clear HB; clear HO_5; have HB := n0_; have HO197 := n1_; clear n0_ n1_; clear ho hb hg hat) | ((with_reducible refine gate_callee (f := 83) rfl ?_); refine goesL_ (some 20) rfl rfl Try.func83 (by kernel_rfl) rfl #[.int .i64 a0] rfl (by (try simp only [List.map_toArray, List.map_cons, List.map_nil]); first | done | rfl | (simp only [List.length_drop, List.length_take]; rfl)) ?_; (with_reducible refine (impl_perBit.calls a0 t198 _ A57.out).mono ?_); rintro e w' ⟨rfl, ⟨nd, rfl⟩⟩; refine ⟨_, rfl, ?_⟩))
                              go_roundg kj17
                              case measure => have := HK1.out; have := HJ17.out; omega
                              case rel => exact ⟨(y195), (rd l1 (ji52)), (wrap64 (x7_1 + t198)), (by first | rfl | (simp; done) | (simp only [← hji52] <;> (first | rfl | simp)) | (simp [*]; done)), (by first | rfl | (simp; done) | (simp [*]; done)), H', ⟨by have := HK1.out; have := HJ17.out; omega⟩, ⟨by (with_reducible repeat (first | apply Kd.R_alloc | apply Kd.R_drewN | apply Kd.R_drew)); exact HO197.out⟩, ⟨by repeat (first | (with_reducible first | exact HB.out | apply below_alloc | apply pw_below_drewN | apply below_drew1) | exact HB.out)⟩⟩
                            · rw [if_neg c56] at H
                              exact absurd H (by simp)
                          · rw [if_neg c54] at H
                            exact absurd H (by simp)
                        · rw [if_neg c53] at H
                          exact absurd H (by simp)
                      · rw [if_neg c50] at H
                        have c50b0 : (a0 == 4) = false := beq_eq_false_iff_ne.mpr c50
                        have c50b1 : (a0 != 4) = true := bne_iff_ne.mpr c50
                        replace H := Option.bind_eq_some_iff.mp H
                        obtain ⟨t199, A590, H⟩ := H
                        replace H : (if 0 ≤ (wrap64 ((wrap64 (x7_1 + t199)) - 1)) then (if (wrap64 ((wrap64 (x7_1 + t199)) - 1)) < (l1.length : Int) then ((impl_bitOf.f false).bind fun t201 => (if x5_1.length + t201.size < 140737488355328 then ((impl_perBit.f a0).bind fun t205 => (impl_readLevels.l0 kj17 a0 l1 (x5_1 ++ bytesOf t201) (rd l1 (wrap64 ((wrap64 (x7_1 + t199)) - 1))) (wrap64 (x7_1 + t205)))) else (none))) else (none)) else (none)) = some r := H
                        have A59 := Aside0.mk A590
                        clear A590
                        obtain ⟨ji60, hji60⟩ : ∃ j_ : Int, (wrap64 ((wrap64 (x7_1 + t199)) - 1)) = j_ := ⟨_, rfl⟩
                        replace H : (if 0 ≤ (ji60) then (if (ji60) < (l1.length : Int) then ((impl_bitOf.f false).bind fun t201 => (if x5_1.length + t201.size < 140737488355328 then ((impl_perBit.f a0).bind fun t205 => (impl_readLevels.l0 kj17 a0 l1 (x5_1 ++ bytesOf t201) (rd l1 (ji60)) (wrap64 (x7_1 + t205)))) else (none))) else (none)) else (none)) = some r := by first | (rw [hji60] at H; exact H) | (simp only [hji60] at H ⊢; exact H)
                        (try rw [hji60] at A59)
                        have hji60w : (IntKind.i64.wrap ((wrap64 (x7_1 + t199)) - 1)) = ji60 := (i64_w _).trans hji60
                        by_cases c61 : 0 ≤ (ji60)
                        · rw [if_pos c61] at H
                          have c61b0 : decide (0 ≤ (ji60)) = true := decide_eq_true c61
                          clear c61
                          by_cases c62 : (ji60) < (l1.length : Int)
                          · rw [if_pos c62] at H
                            have c62b0 : decide ((ji60) < (l1.length : Int)) = true := decide_eq_true c62
                            clear c62
                            replace H := Option.bind_eq_some_iff.mp H
                            obtain ⟨t201, A630, H⟩ := H
                            replace H : (if x5_1.length + t201.size < 140737488355328 then ((impl_perBit.f a0).bind fun t205 => (impl_readLevels.l0 kj17 a0 l1 (x5_1 ++ bytesOf t201) (rd l1 (ji60)) (wrap64 (x7_1 + t205)))) else (none)) = some r := H
                            have A63 := Aside0.mk A630
                            clear A630
                            by_cases c64 : x5_1.length + t201.size < 140737488355328
                            · rw [if_pos c64] at H
                              have LMc64 := Aside0.mk c64
                              clear c64
                              obtain ⟨y202, hy202⟩ : ∃ y_ : List Int, y_ = (x5_1 ++ bytesOf t201) := ⟨_, rfl⟩
                              replace H : ((impl_perBit.f a0).bind fun t205 => (impl_readLevels.l0 kj17 a0 l1 y202 (rd l1 (ji60)) (wrap64 (x7_1 + t205)))) = some r := by first | (rw [hy202]; with_reducible exact H) | (have H2_ := (Option.bind_some _ _).symm.trans H; rw [hy202]; with_reducible exact H2_) | (have H2_ := (Option.bind_some _ _).symm.trans H; with_reducible exact H2_) | with_reducible exact H | (rw [hy202]; exact H) | exact H
                              have Ny202 := Aside0.mk hy202
                              clear hy202
                              replace H := Option.bind_eq_some_iff.mp H
                              obtain ⟨t205, A650, H⟩ := H
                              replace H : (impl_readLevels.l0 kj17 a0 l1 y202 (rd l1 (ji60)) (wrap64 (x7_1 + t205))) = some r := H
                              have A65 := Aside0.mk A650
                              clear A650
                              have H' := Aside0.mk H
                              clear H
                              go_wp2_with (first | ((with_reducible refine gate_callee (f := 83) rfl ?_); refine goesL_ (some 58) rfl rfl Try.func83 (by kernel_rfl) rfl #[.int .i64 a0] rfl (by (try simp only [List.map_toArray, List.map_cons, List.map_nil]); first | done | rfl | (simp only [List.length_drop, List.length_take]; rfl)) ?_; (with_reducible refine (impl_perBit.calls a0 t199 _ A59.out).mono ?_); rintro e w' ⟨rfl, ⟨nd, rfl⟩⟩; refine ⟨_, rfl, ?_⟩; have p200 : 0 ≤ ((ji60) : Int) := of_decide_eq_true (by first | (with_reducible assumption) | assumption); have q200 : (ji60) < (l1.length : Int) := of_decide_eq_true (by first | (with_reducible assumption) | assumption); obtain ⟨ad200, e200, hx200_0⟩ := Kd.at_int HR1.out (ji60) p200 q200; obtain rfl : ad162 = ad200 := (by injection e200); replace hx200_0 := (HB.out.cell (World.block_lt_of_cell? w _ hx200_0)).trans hx200_0; replace p200 := eq_true p200; replace q200 := eq_true q200) | ((with_reducible refine gate_callee (f := 97) rfl ?_); refine goesL_ (some 65) rfl rfl Try.func97 (by kernel_rfl) rfl #[.bool false] rfl (by (try simp only [List.map_toArray, List.map_cons, List.map_nil]); first | done | rfl | (simp only [List.length_drop, List.length_take]; rfl)) ?_; (with_reducible refine (impl_bitOf.calls false t201 _ A63.out).mono ?_); rintro e w' ⟨rfl, ⟨nd, rfl⟩⟩; refine ⟨_, rfl, ?_⟩) | (at_builtin; refine print_append_str (w0 := w) w.heap.size rfl (.tmp 63) _ 37 9 5 rfl Try.underlying37 Try.underlying9 info5 u5 x5_1 t201 rfl rfl ?aO ?aB ?aS ?aL ?_; (case aB => exact (by repeat (first | (with_reducible first | exact HB.out | apply below_alloc | apply pw_below_drewN | apply below_drew1) | exact HB.out))); (case aO => exact (Kd.own_of_R (by (with_reducible repeat (first | apply Kd.R_alloc | apply Kd.R_drewN | apply Kd.R_drew)); exact HO_5.out))); (case aS => exact (below_size (by repeat (first | (with_reducible first | exact HB.out | apply below_alloc | apply pw_below_drewN | apply below_drew1) | exact HB.out)))); (case aL => have := LMc64.out; omega); intro v203 w66 ho0 hb hg; have ho := Kd.R_of_own (h1 := fun _ => rfl) (ok := fun _ => True) ho0 (fun _ _ => trivial); clear ho0; have hat := True.intro; rw [← Ny202.out] at ho; change Kd.R (Kd.int .u8) 5 w66 w.heap.size (fun _ => True) v203 y202 at ho; have n0_ := Aside0.mk (hb); have n1_ := Aside0.mk (ho); clear HB; clear HO_5; have HB := n0_; have HO204 := n1_; clear n0_ n1_; clear ho hb hg hat) | ((with_reducible refine gate_callee (f := 83) rfl ?_); refine goesL_ (some 20) rfl rfl Try.func83 (by kernel_rfl) rfl #[.int .i64 a0] rfl (by (try simp only [List.map_toArray, List.map_cons, List.map_nil]); first | done | rfl | (simp only [List.length_drop, List.length_take]; rfl)) ?_; (with_reducible refine (impl_perBit.calls a0 t205 _ A65.out).mono ?_); rintro e w' ⟨rfl, ⟨nd, rfl⟩⟩; refine ⟨_, rfl, ?_⟩))
                              go_roundg kj17
                              case measure => have := HK1.out; have := HJ17.out; omega
                              case rel => exact ⟨(y202), (rd l1 (ji60)), (wrap64 (x7_1 + t205)), (by first | rfl | (simp; done) | (simp only [← hji60] <;> (first | rfl | simp)) | (simp [*]; done)), (by first | rfl | (simp; done) | (simp [*]; done)), H', ⟨by have := HK1.out; have := HJ17.out; omega⟩, ⟨by (with_reducible repeat (first | apply Kd.R_alloc | apply Kd.R_drewN | apply Kd.R_drew)); exact HO204.out⟩, ⟨by repeat (first | (with_reducible first | exact HB.out | apply below_alloc | apply pw_below_drewN | apply below_drew1) | exact HB.out)⟩⟩
                            · rw [if_neg c64] at H
                              exact absurd H (by simp)
                          · rw [if_neg c62] at H
                            exact absurd H (by simp)
                        · rw [if_neg c61] at H
                          exact absurd H (by simp)
        · rw [if_neg c8] at H
          exact absurd H (by simp)
      · rw [if_neg c7] at H
        have c7b0 : decide (x7_1 < (l1.length : Int)) = false := decide_eq_false c7
        clear c7
        obtain rfl := Option.some.inj H
        have hcv67 := own_string (P := Try.prog) Try.underlying37 Try.underlying5 Try.underlying9 (Kd.own_of_R HO_5.out)
        go_wp2
        go_ret
        exact ⟨by first | rfl | (simp [errW_none, errW_some] <;> rfl) | (simp [*, errW_none, errW_some] <;> rfl), by repeat (first | (with_reducible first | exact HB.out | apply below_alloc | apply pw_below_drewN | apply below_drew1) | exact HB.out)⟩

/-! ### impl_ReadLevels: function 27 -/
def impl_ReadLevels.f (k : Nat) (a0 : Int) (l1 : List Int) : Option (ByteArray × Bool) := (impl_canRead.f k a0 l1).bind fun t206 => (if t206 = true then ((impl_readLevels.f k a0 l1).bind fun t207 => (some (t207, true))) else (some ((⟨#[]⟩ : ByteArray), false)))
theorem impl_ReadLevels.mono : ∀ a0 a1 k, LeO (impl_ReadLevels.f k a0 a1) (impl_ReadLevels.f (k + 1) a0 a1) := by
  intro a0 a1 k
  unfold impl_ReadLevels.f
  repeat' first
      | (with_reducible exact impl_canRead.mono _ _ _)
      | (with_reducible exact impl_readLevels.mono _ _ _)
      | (with_reducible exact LeO.refl _)
      | (with_reducible exact LeO.none _)
      | (with_reducible refine LeO.ite ?_ ?_)
      | (with_reducible refine LeO.bind ?_ (fun _ => ?_))
      | exact impl_canRead.mono _ _ _
      | exact impl_readLevels.mono _ _ _
      | exact LeO.none _
      | refine LeO.ite ?_ ?_
      | refine LeO.bind ?_ (fun _ => ?_)
set_option maxHeartbeats 8000000 in
set_option maxRecDepth 100000 in
theorem impl_ReadLevels.calls (k : Nat) (a0 : Int) (A1 : Option Addr) (c1 : Nat) (l1 : List Int) (r1 : ByteArray) (r2 : Bool) (w : World) (hr1 : Kd.C (Kd.int .i64) w A1 l1.length l1) (hc1 : l1.length ≤ c1) (h : impl_ReadLevels.f k a0 l1 = some (r1, r2)) :
    Calls Try.prog 27 #[.int .i64 a0, .slice A1 l1.length c1] w fun e w' => e = .returned (.tuple #[.string r1, .bool r2]) ∧ Below w.heap.size w w' := by
  have HR1 := Aside0.mk hr1
  have HC1 := Aside0.mk hc1
  clear hr1 hc1
  have HB := Aside0.mk (Below.refl w.heap.size w)
  have H : ((impl_canRead.f k a0 l1).bind fun t206 => (if t206 = true then ((impl_readLevels.f k a0 l1).bind fun t207 => (some (t207, true))) else (some ((⟨#[]⟩ : ByteArray), false)))) = some (r1, r2) := h
  clear h
  replace H := Option.bind_eq_some_iff.mp H
  obtain ⟨t206, A30, H⟩ := H
  replace H : (if t206 = true then ((impl_readLevels.f k a0 l1).bind fun t207 => (some (t207, true))) else (some ((⟨#[]⟩ : ByteArray), false))) = some (r1, r2) := H
  have A3 := Aside0.mk A30
  clear A30
  by_cases c4 : t206 = true
  · subst c4
    have H1 : ((impl_readLevels.f k a0 l1).bind fun t207 => (some (t207, true))) = some (r1, r2) := by rw [if_pos rfl] at H; exact H
    clear H
    have H := H1
    clear H1
    replace H := Option.bind_eq_some_iff.mp H
    obtain ⟨t207, A50, H⟩ := H
    replace H : (some (t207, true)) = some (r1, r2) := H
    have A5 := Aside0.mk A50
    clear A50
    simp only [Option.some.injEq, Prod.mk.injEq] at H
    obtain ⟨rfl, rfl⟩ := H
    go_enter Try.func27, Try.ntmps27
    go_wp2_with (first | ((with_reducible refine gate_callee (f := 70) rfl ?_); refine goesL_ (some 8) rfl rfl Try.func70 (by kernel_rfl) rfl #[.int .i64 a0, .slice A1 l1.length c1] rfl (by (try simp only [List.map_toArray, List.map_cons, List.map_nil]); first | done | rfl | (simp only [List.length_drop, List.length_take]; rfl)) ?_; (with_reducible refine (impl_canRead.calls k a0 _ _ l1 true _ ?side1 ?side2 A3.out).mono ?_); (case side1 => repeat (first | exact HR1.out | (with_reducible refine Kd.C_alloc ?_ _) | (with_reducible refine Kd.C_drewN ?_ _) | (with_reducible refine Kd.C_drew ?_))); (case side2 => exact HC1.out); rintro e w' ⟨rfl, ⟨nd, rfl⟩⟩; refine ⟨_, rfl, ?_⟩) | ((with_reducible refine gate_callee (f := 71) rfl ?_); refine goesL_ (some 12) rfl rfl Try.func71 (by kernel_rfl) rfl #[.int .i64 a0, .slice A1 l1.length c1] rfl (by (try simp only [List.map_toArray, List.map_cons, List.map_nil]); first | done | rfl | (simp only [List.length_drop, List.length_take]; rfl)) ?_; (with_reducible refine (impl_readLevels.calls k a0 _ _ l1 t207 _ ?side1 ?side2 A5.out).mono ?_); (case side1 => repeat (first | exact HR1.out | (with_reducible refine Kd.C_alloc ?_ _) | (with_reducible refine Kd.C_drewN ?_ _) | (with_reducible refine Kd.C_drew ?_))); (case side2 => exact HC1.out); rintro e w6 ⟨rfl, hb⟩; refine ⟨_, rfl, ?_⟩; have n0_ := Aside0.mk (below_step (by repeat (first | (with_reducible first | exact HB.out | apply below_alloc | apply pw_below_drewN | apply below_drew1) | exact HB.out)) hb); clear HB; have HB := n0_; clear n0_; (try clear hb); (try clear hb2); (try clear hk); (try clear hi)))
    go_ret2
    exact ⟨by first | rfl | (simp [errW_none, errW_some] <;> rfl) | (simp [*, errW_none, errW_some] <;> rfl), by repeat (first | (with_reducible first | exact HB.out | apply below_alloc | apply pw_below_drewN | apply below_drew1) | exact HB.out)⟩
  · replace c4 := Bool.eq_false_iff.mpr c4
    subst c4
    have H1 : (some ((⟨#[]⟩ : ByteArray), false)) = some (r1, r2) := by rw [if_neg (show ¬ (false = true) by decide)] at H; exact H
    clear H
    have H := H1
    clear H1
    simp only [Option.some.injEq, Prod.mk.injEq] at H
    obtain ⟨rfl, rfl⟩ := H
    go_enter Try.func27, Try.ntmps27
    go_wp2_with (first | ((with_reducible refine gate_callee (f := 70) rfl ?_); refine goesL_ (some 8) rfl rfl Try.func70 (by kernel_rfl) rfl #[.int .i64 a0, .slice A1 l1.length c1] rfl (by (try simp only [List.map_toArray, List.map_cons, List.map_nil]); first | done | rfl | (simp only [List.length_drop, List.length_take]; rfl)) ?_; (with_reducible refine (impl_canRead.calls k a0 _ _ l1 false _ ?side1 ?side2 A3.out).mono ?_); (case side1 => repeat (first | exact HR1.out | (with_reducible refine Kd.C_alloc ?_ _) | (with_reducible refine Kd.C_drewN ?_ _) | (with_reducible refine Kd.C_drew ?_))); (case side2 => exact HC1.out); rintro e w' ⟨rfl, ⟨nd, rfl⟩⟩; refine ⟨_, rfl, ?_⟩))
    go_ret2
    exact ⟨by first | rfl | (simp [errW_none, errW_some] <;> rfl) | (simp [*, errW_none, errW_some] <;> rfl), by repeat (first | (with_reducible first | exact HB.out | apply below_alloc | apply pw_below_drewN | apply below_drew1) | exact HB.out)⟩

end Go.Proofs.Ytbgiddnffchnpaa.QFnExactReadLevels
