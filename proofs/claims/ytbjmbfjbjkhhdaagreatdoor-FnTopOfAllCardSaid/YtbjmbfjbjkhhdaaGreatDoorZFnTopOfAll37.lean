/- Made small by wip/pack.py: lemmas and contracts that the law's row leans on. -/
import Derived.Test.YtbjmbfjbjkhhdaaGreatDoorZFnTopOfAll27
import Derived.Test.YtbjmbfjbjkhhdaaGreatDoorZFnTopOfAll34
import Derived.Test.YtbjmbfjbjkhhdaaGreatDoorZFnTopOfAll35
namespace Go.Proofs.YtbjmbfjbjkhhdaaGreatDoor.QFnTopOfAll
open Go.RowKit Go.Proofs.YtbjmbfjbjkhhdaaGreatDoorW.PrintWords Go.Proofs.YtbjmbfjbjkhhdaaGreatDoorW.PrintLast Go.Proofs.YtbjmbfjbjkhhdaaGreatDoorW.PrintMore
attribute [local go_sem] max2_int min2_int max_two min_two max_three min_three max_four min_four
set_option linter.unusedVariables false
set_option linter.unusedSimpArgs false
theorem bl_asymm10 : ∀ (x y : List UInt8), Op.bytesLess x y = true → Op.bytesLess y x = false
 | _, [], h => by simp [Op.bytesLess] at h
 | [], _ :: _, _ => by simp [Op.bytesLess]
 | a :: x, b :: y, h => by
  simp only [Op.bytesLess, Bool.or_eq_true, Bool.and_eq_true, decide_eq_true_eq, beq_iff_eq, Bool.or_eq_false_iff, Bool.and_eq_false_iff, decide_eq_false_iff_not, beq_eq_false_iff_ne, ne_eq] at h ⊢
  rcases h with h | ⟨rfl, h⟩
  ·exact ⟨fun h2 => UInt8.lt_irrefl _ (UInt8.lt_trans h h2), .inl (fun h2 => UInt8.lt_irrefl _ (h2 ▸ h))⟩
  ·exact ⟨UInt8.lt_irrefl _, .inr (bl_asymm10 x y h)⟩
theorem bl_self10 : ∀ (x : List UInt8), Op.bytesLess x x = false
 | [] => rfl
 | a :: x => by simp [Op.bytesLess, bl_self10 x, UInt8.lt_irrefl]
theorem bl_ne10 (x y : List UInt8) (h : Op.bytesLess x y = true) : (y == x) = false := by
 refine beq_eq_false_iff_ne.2 (fun e => ?_)
 rw [e, bl_self10] at h
 exact absurd h (by decide)
theorem bl_total10 : ∀ (x y : List UInt8), Op.bytesLess x y = false → (Op.bytesLess y x || y == x) = true
 | [], [], _ => by simp [Op.bytesLess]
 | _ :: _, [], _ => by simp [Op.bytesLess]
 | [], _ :: _, h => by simp [Op.bytesLess] at h
 | a :: x, b :: y, h => by
  simp only [Op.bytesLess, Bool.or_eq_false_iff, Bool.and_eq_false_iff, decide_eq_false_iff_not, beq_eq_false_iff_ne, ne_eq] at h
  obtain ⟨h1, h2⟩ := h
  by_cases e : a = b
  ·subst e
   have h3 : Op.bytesLess x y = false := by rcases h2 with h2 | h2 <;> simp_all
   have h4 := bl_total10 x y h3
   simp only [Bool.or_eq_true, beq_iff_eq] at h4
   rcases h4 with h4 | h4 <;> simp [Op.bytesLess, h4, UInt8.lt_irrefl]
  ·have h3 : b < a := UInt8.lt_of_le_of_ne (UInt8.not_lt.1 h1) (fun h => e h.symm)
   simp [Op.bytesLess, h3]
def impl_HasCheck.f (k : Nat) (a0 : Int) (a1 : ByteArray) : Option (Bool) := (impl_IsCheck.f a0).bind fun t272 => (if t272 = true then ((impl_IsBits.f a1).bind fun t273 => (if t273 = true then ((impl_remainder.f k a0 a1).bind fun t274 => (some (t274 == 0))) else (some false))) else (some false))
set_option maxHeartbeats 8000000 in
set_option maxRecDepth 100000 in
theorem impl_HasCheck.calls (k : Nat) (a0 : Int) (a1 : ByteArray) (r : Bool) (w : World) (h : impl_HasCheck.f k a0 a1 = some r) :
 Calls Tryz.prog 17 #[.int .i64 a0, .string a1] w fun e w' => e = .returned (.bool r) ∧ Below w.heap.size w w' := by
 have HB := Aside0.mk (Below.refl w.heap.size w)
 have H : ((impl_IsCheck.f a0).bind fun t272 => (if t272 = true then ((impl_IsBits.f a1).bind fun t273 => (if t273 = true then ((impl_remainder.f k a0 a1).bind fun t274 => (some (t274 == 0))) else (some false))) else (some false))) = some r := h
 clear h
 replace H := Option.bind_eq_some_iff.mp H
 obtain ⟨t272, A30, H⟩ := H
 try dsimp only at H
 have A3 := Aside0.mk A30
 clear A30
 by_cases c4 : t272 = true
 ·subst c4
  rw [if_pos rfl] at H
  have H1 := H
  clear H
  have H := H1
  clear H1
  replace H := Option.bind_eq_some_iff.mp H
  obtain ⟨t273, A50, H⟩ := H
  try dsimp only at H
  have A5 := Aside0.mk A50
  clear A50
  by_cases c6 : t273 = true
  ·subst c6
   rw [if_pos rfl] at H
   have H1 := H
   clear H
   have H := H1
   clear H1
   replace H := Option.bind_eq_some_iff.mp H
   obtain ⟨t274, A70, H⟩ := H
   try dsimp only at H
   have A7 := Aside0.mk A70
   clear A70
   obtain rfl := Option.some.inj H
   go_enter Tryz.func17, Tryz.ntmps17
   go_wp2_with (first | ((with_reducible refine gate_callee (f := 44) rfl ?_); refine goesL_ (some 6) rfl rfl Tryz.func44 Qi0_ rfl #[.int .i64 a0] rfl Qb0_ ?_; (with_reducible refine (impl_IsCheck.calls a0 true _ A3.out).mono ?_); rintro e w' ⟨rfl, ⟨nd, rfl⟩⟩; refine ⟨_, rfl, ?_⟩) | (go_at_call 41; (with_reducible refine (impl_IsBits.calls a1 true _ A5.out).mono ?_); rintro e w8 ⟨rfl, hb⟩; have n0_ := Aside0.mk (below_step Qa0_ hb); clear HB; have HB := n0_; clear n0_; (try clear hb); (try clear hb2); (try clear hk); (try clear hi)) | (go_at_call 52; (with_reducible refine (impl_remainder.calls k a0 a1 t274 _ A7.out).mono ?_); rintro e w' ⟨rfl, ⟨nd, rfl⟩⟩))
   go_ret
   exact ⟨Qe0_, Qa0_⟩
  ·replace c6 := Bool.eq_false_iff.mpr c6
   subst c6
   rw [if_neg (show ¬ (false = true) by decide)] at H
   have H1 := H
   clear H
   have H := H1
   clear H1
   obtain rfl := Option.some.inj H
   go_enter Tryz.func17, Tryz.ntmps17
   go_wp2_with (first | ((with_reducible refine gate_callee (f := 44) rfl ?_); refine goesL_ (some 6) rfl rfl Tryz.func44 Qi0_ rfl #[.int .i64 a0] rfl Qb0_ ?_; (with_reducible refine (impl_IsCheck.calls a0 true _ A3.out).mono ?_); rintro e w' ⟨rfl, ⟨nd, rfl⟩⟩; refine ⟨_, rfl, ?_⟩) | (go_at_call 41; (with_reducible refine (impl_IsBits.calls a1 false _ A5.out).mono ?_); rintro e w9 ⟨rfl, hb⟩; have n0_ := Aside0.mk (below_step Qa0_ hb); clear HB; have HB := n0_; clear n0_; (try clear hb); (try clear hb2); (try clear hk); (try clear hi)))
   go_ret
   exact ⟨Qe0_, Qa0_⟩
 ·replace c4 := Bool.eq_false_iff.mpr c4
  subst c4
  rw [if_neg (show ¬ (false = true) by decide)] at H
  have H1 := H
  clear H
  have H := H1
  clear H1
  obtain rfl := Option.some.inj H
  go_enter Tryz.func17, Tryz.ntmps17
  go_wp2_with (first | ((with_reducible refine gate_callee (f := 44) rfl ?_); refine goesL_ (some 6) rfl rfl Tryz.func44 Qi0_ rfl #[.int .i64 a0] rfl Qb0_ ?_; (with_reducible refine (impl_IsCheck.calls a0 false _ A3.out).mono ?_); rintro e w' ⟨rfl, ⟨nd, rfl⟩⟩; refine ⟨_, rfl, ?_⟩))
  go_ret
  exact ⟨Qe0_, Qa0_⟩
theorem sp_index (s : ByteArray) (c : UInt8) (w : World) :
 Calls Tryz.prog 116 #[.string s, .string ⟨#[c]⟩] w fun e w' => e = .returned (.int .i64 (Lib.indexB s ⟨#[c]⟩)) ∧ w' = w := by
 have e1 : Lib.indexB s ⟨#[c]⟩ = Lib.indexByte s.data.toList c := Lib.index_one _ _
 have hc := Any.stringslite_Index_one (P := Tryz.prog) (ρ := Tryz.lays146_ren) { Tryz.lays146 with } s c w
 have e2 : Tryz.lays146_ren.f 219 = 153 := rfl
 rw [e2] at hc
 go_enter Tryz.func116, Tryz.ntmps116
 go_wp2_with (go_at_call 153; refine hc.mono ?_; rintro e w' ⟨rfl, rfl⟩)
 go_ret
 exact ⟨by rw [e1]; rfl, rfl⟩
def splitT (s sep : ByteArray) : List ByteArray := Lib.splitB sep 0 (Lib.countB s sep) s
theorem sp_split (s : ByteArray) (c : UInt8) (w : World) (hs : s.size < 4294967281) :
 Calls Tryz.prog 53 #[.string s, .string ⟨#[c]⟩] w fun e w' =>
  e = .returned (.slice (some ⟨w.heap.size, 0, none⟩) (splitT s ⟨#[c]⟩).length (splitT s ⟨#[c]⟩).length) ∧ w' = w.alloc (.cells ((splitT s ⟨#[c]⟩).map Value.string).toArray 9) := by
 have h1 : 1 ≤ (⟨#[c]⟩ : ByteArray).size := Nat.le_refl _
 have hle := Lib.countB_le (⟨#[c]⟩ : ByteArray) h1 s.size s (Nat.le_refl _)
 have hlen := Lib.splitB_all (⟨#[c]⟩ : ByteArray) h1 0 _ s rfl
 have hC : Calls Tryz.prog (Tryz.lays146_ren.f 138) #[.string s, .string ⟨#[c]⟩] w fun e w' => e = .returned (.int .i64 (Lib.countB s ⟨#[c]⟩)) ∧ w' = w := by
  refine (Any.strings_Count_one (P := Tryz.prog) (ρ := Tryz.lays146_ren) { Tryz.lays146 with } s c w).mono fun e w' ⟨he, hw⟩ => ⟨?_, hw⟩
  rw [he]
  show _ = Ending.returned (Value.int .i64 ((Lib.count s.data.toList [c] : Nat) : Int))
  rw [Lib.count_one]
  rfl
 have cc := Any.strings_genSplit_core (P := Tryz.prog) (ρ := Tryz.lays146_ren) { Tryz.lays146 with } Qi0_ s ⟨#[c]⟩ 0 (-1) (Lib.countB s ⟨#[c]⟩ + 1) w hs h1 (Nat.zero_le _)
  (fun x _ _ => sp_index x c _) hC (by decide) (by decide) (by rw [if_pos (by decide)]; omega)
 rw [Nat.add_sub_cancel] at cc
 have e3 : Lib.cellsOf (Lib.splitB ⟨#[c]⟩ 0 (Lib.countB s ⟨#[c]⟩) s) (Lib.countB s ⟨#[c]⟩ + 1) = ((splitT s ⟨#[c]⟩).map Value.string).toArray := by rw [← hlen]; exact Lib.cellsOf_full _
 rw [e3] at cc
 have e2 : Tryz.lays146_ren.f 221 = 88 := rfl
 have e4 : Tryz.lays146_ren.t 9 = 9 := rfl
 rw [e2, e4] at cc
 go_enter Tryz.func53, Tryz.ntmps53
 go_wp2_with (go_at_call 88; refine cc.mono ?_; rintro e w' ⟨rfl, hw⟩; rw [hw])
 go_ret
 have e5 : (splitT s ⟨#[c]⟩).length = Lib.countB s ⟨#[c]⟩ + 1 := hlen
 rw [e5]
 exact ⟨rfl, rfl⟩
def strings_Split.f (a0 : ByteArray) (a1 : ByteArray) : Option (List ByteArray) := match a1.data.toList with
 | [_] => if a0.size < 4294967281 then some (splitT a0 a1) else none
 | _ => none
theorem strings_Split.calls (a0 : ByteArray) (a1 : ByteArray) (r : List ByteArray) (w : World) (h : strings_Split.f a0 a1 = some r) :
 Calls Tryz.prog 53 #[.string a0, .string a1] w fun e w' => ∃ v0_ : Value, e = .returned (v0_) ∧ Kd.R Kd.string 9 w' w.heap.size (fun _ => True) v0_ r ∧ Below w.heap.size w w' := by
 unfold strings_Split.f at h
 split at h
 ·rename_i c hc
  by_cases hs : a0.size < 4294967281
  ·rw [if_pos hs] at h
   obtain rfl := Option.some.inj h
   have e : a1 = ⟨#[c]⟩ := ByteArray.ext (Array.ext' hc)
   subst e
   refine (sp_split a0 c w hs).mono fun e w' ⟨he, hw⟩ => ⟨_, he, ?_, ?_⟩
   ·subst hw
    have hl : (splitT a0 ⟨#[c]⟩).length ≤ a0.size + 1 := by
     have h1 : 1 ≤ (⟨#[c]⟩ : ByteArray).size := Nat.le_refl _
     have hle := Lib.countB_le (⟨#[c]⟩ : ByteArray) h1 a0.size a0 (Nat.le_refl _)
     have hlen := Lib.splitB_all (⟨#[c]⟩ : ByteArray) h1 0 _ a0 rfl
     unfold splitT
     omega
    refine Kd.R_of_own ⟨?_, .inr ⟨w.heap.size, (splitT a0 ⟨#[c]⟩).length, _, rfl, Nat.le_refl _, heap_alloc_new w _, Nat.le_refl _, by unfold maxLen; omega, ?_, ?_⟩⟩ (fun _ _ => trivial)
    ·unfold encs; rw [List.length_map, Nat.mul_one]
    ·simp
    ·unfold encs; rw [Nat.mul_one, List.take_of_length_le (by simp)]
   ·subst hw
    exact (Below.refl _ _).alloc (Nat.le_refl _) _
  ·rw [if_neg hs] at h; cases h
 ·cases h
def impl_IsName.l0 : Nat → ByteArray → Int → Int → Option (Bool)
 | 0, _, _, _ => none
 | k + 1, x0, x5, x6 => if x6 < x5 then (if 0 ≤ x6 then (if x6 < (x0.size : Int) then (if (bt x0 x6) < 97 then (some false) else (if (bt x0 x6) > 122 then (some false) else (impl_IsName.l0 k x0 x5 (wrap64 (x6 + 1))))) else (none)) else (none)) else (if (x0.size : Int) ≥ 1 then (some (decide ((x0.size : Int) ≤ 10))) else (some false))
def impl_IsName.f (k : Nat) (a0 : ByteArray) : Option (Bool) := impl_IsName.l0 k a0 (a0.size : Int) 0
set_option maxHeartbeats 8000000 in
set_option maxRecDepth 100000 in
theorem impl_IsName.calls (k : Nat) (a0 : ByteArray) (r : Bool) (w : World) (h : impl_IsName.f k a0 = some r) :
 Calls Tryz.prog 62 #[.string a0] w fun e w' => e = .returned (.bool r) ∧ Drawn0 w w' := by
 have H : (impl_IsName.l0 k a0 (a0.size : Int) 0) = some r := h
 clear h
 have H' := Aside0.mk H
 clear H
 go_enter Tryz.func62, Tryz.ntmps62
 go_wp2
 go_loopg [6] k (fun kq v6 w' => ∃ (x6_1 : Int), v6 = .int .i64 x6_1 ∧ Aside0 (impl_IsName.l0 kq a0 (a0.size : Int) x6_1 = some r) ∧ Aside0 (kq ≤ k) ∧ Drawn0 w w')
 case atStart => exact ⟨(0), Qc0_, H', ⟨Nat.le_refl _⟩, Qd0_⟩
 case round =>
  clear H'
  obtain ⟨x6_1, rfl, HA, HK1, ⟨m1, rfl⟩⟩ := hrel
  cases gk with
  | zero => exact absurd HA.out (by simp [impl_IsName.l0])
  | succ k1 =>
   have H := HA.out
   clear HA
   simp only [impl_IsName.l0] at H
   by_cases c2 : x6_1 < (a0.size : Int)
   ·rw [if_pos c2] at H
    have c2b0 := decide_eq_true c2
    clear c2
    by_cases c3 : 0 ≤ x6_1
    ·rw [if_pos c3] at H
     have c3b0 := decide_eq_true c3
     clear c3
     by_cases c4 : x6_1 < (a0.size : Int)
     ·rw [if_pos c4] at H
      have c4b0 := decide_eq_true c4
      clear c4
      by_cases c6 : (bt a0 x6_1) < 97
      ·rw [if_pos c6] at H
       have c6b0 := decide_eq_true c6
       clear c6
       obtain rfl := Option.some.inj H
       have p5 : 0 ≤ (x6_1 : Int) := of_decide_eq_true Qf0_
       have q5 : x6_1 < (a0.size : Int) := of_decide_eq_true Qf0_
       have hx5 := bt_at a0 x6_1
       replace p5 := eq_true p5
       replace q5 := eq_true q5
       go_wp2
       go_ret
       exact ⟨Qc0_, Qd0_⟩
      ·rw [if_neg c6] at H
       have c6b0 := decide_eq_false c6
       clear c6
       by_cases c8 : (bt a0 x6_1) > 122
       ·rw [if_pos c8] at H
        have c8b0 := decide_eq_true c8
        clear c8
        obtain rfl := Option.some.inj H
        have p5 : 0 ≤ (x6_1 : Int) := of_decide_eq_true Qf0_
        have q5 : x6_1 < (a0.size : Int) := of_decide_eq_true Qf0_
        have hx5 := bt_at a0 x6_1
        replace p5 := eq_true p5
        replace q5 := eq_true q5
        have p7 : 0 ≤ (x6_1 : Int) := of_decide_eq_true Qf0_
        have q7 : x6_1 < (a0.size : Int) := of_decide_eq_true Qf0_
        have hx7 := bt_at a0 x6_1
        replace p7 := eq_true p7
        replace q7 := eq_true q7
        go_wp2
        go_ret
        exact ⟨Qc0_, Qd0_⟩
       ·rw [if_neg c8] at H
        have c8b0 := decide_eq_false c8
        clear c8
        have H' := Aside0.mk H
        clear H
        have p5 : 0 ≤ (x6_1 : Int) := of_decide_eq_true Qf0_
        have q5 : x6_1 < (a0.size : Int) := of_decide_eq_true Qf0_
        have hx5 := bt_at a0 x6_1
        replace p5 := eq_true p5
        replace q5 := eq_true q5
        have p7 : 0 ≤ (x6_1 : Int) := of_decide_eq_true Qf0_
        have q7 : x6_1 < (a0.size : Int) := of_decide_eq_true Qf0_
        have hx7 := bt_at a0 x6_1
        replace p7 := eq_true p7
        replace q7 := eq_true q7
        go_wp2
        go_roundg k1
        case measure => have := HK1.out; omega
        case rel => exact ⟨(wrap64 (x6_1 + 1)), Qc0_, H', ⟨Qp0_⟩, Qd0_⟩
     ·rw [if_neg c4] at H
      exact absurd H (by simp)
    ·rw [if_neg c3] at H
     exact absurd H (by simp)
   ·rw [if_neg c2] at H
    have c2b0 := decide_eq_false c2
    clear c2
    by_cases c9 : (a0.size : Int) ≥ 1
    ·rw [if_pos c9] at H
     have c9b0 := decide_eq_true c9
     have c9b1 : decide (1 ≤ a0.size) = true := decide_eq_true (by omega)
     clear c9
     obtain rfl := Option.some.inj H
     go_wp2
     go_ret
     exact ⟨Qc0_, Qd0_⟩
    ·rw [if_neg c9] at H
     have c9b0 := decide_eq_false c9
     have c9b1 : decide (1 ≤ a0.size) = false := decide_eq_false (by omega)
     clear c9
     obtain rfl := Option.some.inj H
     go_wp2
     go_ret
     exact ⟨Qc0_, Qd0_⟩
mutual
def impl_ValidConsole.j0 : Nat → Bool → List ByteArray → List ByteArray → Option (Bool)
 | 0, _, _, _ => none
 | k + 1, x17, x276000, x276001 => if x17 = true then (some false) else (impl_ValidConsole.l0 k x276000 (x276000.length : Int) 0 x276000 x276001)
def impl_ValidConsole.l0 : Nat → List ByteArray → Int → Int → List ByteArray → List ByteArray → Option (Bool)
 | 0, _, _, _, _, _ => none
 | k + 1, x19, x20, x21, x276000, x276001 => if x21 < x20 then (if 0 ≤ x21 then (if x21 < (x19.length : Int) then ((impl_IsName.f k (rdOf ByteArray.empty x19 x21)).bind fun t277 => (if t277 = true then (if x21 > 0 then (if 0 ≤ (wrap64 (x21 - 1)) then (if (wrap64 (x21 - 1)) < (x276000.length : Int) then (if ((Op.bytesLess ((rdOf ByteArray.empty x276000 (wrap64 (x21 - 1))).toList) ((rdOf ByteArray.empty x19 x21).toList)) = true) then (if x21 < (x276001.length : Int) then ((impl_IsBits.f (rdOf ByteArray.empty x276001 x21)).bind fun t280 => (if t280 = true then (impl_ValidConsole.l0 k x19 x20 (wrap64 (x21 + 1)) x276000 x276001) else (some false))) else (none)) else (some false)) else (none)) else (none)) else (if x21 < (x276001.length : Int) then ((impl_IsBits.f (rdOf ByteArray.empty x276001 x21)).bind fun t282 => (if t282 = true then (impl_ValidConsole.l0 k x19 x20 (wrap64 (x21 + 1)) x276000 x276001) else (some false))) else (none))) else (some false))) else (none)) else (none)) else (some true)
end
def impl_ValidConsole.f (k : Nat) (l0_0 : List ByteArray) (l0_1 : List ByteArray) : Option (Bool) := if (l0_0.length : Int) > 6 then (impl_ValidConsole.j0 k true l0_0 l0_1) else (impl_ValidConsole.j0 k ((l0_1.length : Int) != (l0_0.length : Int)) l0_0 l0_1)
set_option maxHeartbeats 8000000 in
set_option maxRecDepth 100000 in
theorem impl_ValidConsole.calls (k : Nat) (A0_0 : Option Addr) (c0_0 : Nat) (l0_0 : List ByteArray) (A0_1 : Option Addr) (c0_1 : Nat) (l0_1 : List ByteArray) (r : Bool) (w : World) (hr0_0 : Kd.C Kd.string w A0_0 l0_0.length l0_0) (hc0_0 : l0_0.length ≤ c0_0) (hr0_1 : Kd.C Kd.string w A0_1 l0_1.length l0_1) (hc0_1 : l0_1.length ≤ c0_1) (h : impl_ValidConsole.f k l0_0 l0_1 = some r) :
 Calls Tryz.prog 20 #[.agg #[.slice A0_0 l0_0.length c0_0, .slice A0_1 l0_1.length c0_1]] w fun e w' => e = .returned (.bool r) ∧ Below w.heap.size w w' := by
 have hu39 := Tryz.underlying39
 have HR0_0 := Aside0.mk hr0_0
 have HC0_0 := Aside0.mk hc0_0
 clear hr0_0 hc0_0
 have HR0_1 := Aside0.mk hr0_1
 have HC0_1 := Aside0.mk hc0_1
 clear hr0_1 hc0_1
 have HB := Aside0.mk (Below.refl w.heap.size w)
 have H : (if (l0_0.length : Int) > 6 then (impl_ValidConsole.j0 k true l0_0 l0_1) else (impl_ValidConsole.j0 k ((l0_1.length : Int) != (l0_0.length : Int)) l0_0 l0_1)) = some r := h
 clear h
 have HC2 := Aside0.mk H
 clear H
 go_enter Tryz.func20, Tryz.ntmps20
 go_upto_region 1 with (first | ((with_reducible refine gate_dst (N := 1) rfl ?_); (try (refine gate_guard (by rfl) ?_; dsimp only)); refine box_event ?hg (N := 1) ?hd (cs := #[.slice A0_0 l0_0.length c0_0, .slice A0_1 l0_1.length c0_1]) (t := 39) ?hr ?_; (case hd => rfl); (case hg => rfl); (case hr => exact Qh0_); intro gb275 hg w3 hbox hb; have n0_ := Aside0.mk (below_step Qa0_ hb); have n1_ := Aside0.mk (hbox); have n2_ := Aside0.mk ((Qp1_ : w.heap.size ≤ gb275)); have n3_ := Aside0.mk ((Qp1_ : w.heap.size ≤ gb275)); clear HB; have HB := n0_; have BK275 := n1_; have GW275 := n2_; have GE275 := n3_; clear n0_ n1_ n2_ n3_; clear hb hbox hg))
 (try simp only [Act.put, List.setIfInBounds_toArray, List.set_cons_zero, List.set_cons_succ])
 go_cut [17] (fun v17 wc => ∃ (kq : Nat) (x17_1 : Bool), v17 = .bool x17_1 ∧ Aside0 (impl_ValidConsole.j0 kq x17_1 l0_0 l0_1 = some r) ∧ Aside0 (kq ≤ k) ∧ Aside0 (wc.heap[gb275]? = some (.cells #[(.slice A0_0 l0_0.length c0_0), (.slice A0_1 l0_1.length c0_1)] 39 (0, 0))) ∧ Aside0 (Below w.heap.size w wc))
 case first =>
  have H := HC2.out
  clear HC2
  by_cases c4 : (l0_0.length : Int) > 6
  ·rw [if_pos c4] at H
   have c4b0 := decide_eq_true c4
   have c4b1 : decide (6 < l0_0.length) = true := decide_eq_true (by omega)
   clear c4
   (first | rw [c4b0] | (simp only [i64_w, i32_w]; rw [c4b0]) | skip)
   have H' := Aside0.mk H
   clear H
   have hcz5_0 : w3.cell? ⟨gb275, 0, none⟩ = some (.slice A0_0 l0_0.length c0_0) := (blk_cell BK275.out 0).trans rfl
   have hcz5_1 : w3.cell? ⟨gb275, 1, none⟩ = some (.slice A0_1 l0_1.length c0_1) := (blk_cell BK275.out 1).trans rfl
   have hfz5_0 := blk_frozen BK275.out 0
   have hfz5_1 := blk_frozen BK275.out 1
   go_wp2
   go_meet
   case rel => exact ⟨_, (true), Qc0_, H', ⟨Qa1_⟩, ⟨Qk_ BK275.out⟩, ⟨Qg_ GE275.out⟩⟩
  ·rw [if_neg c4] at H
   have c4b0 := decide_eq_false c4
   have c4b1 : decide (6 < l0_0.length) = false := decide_eq_false (by omega)
   clear c4
   (first | rw [c4b0] | (simp only [i64_w, i32_w]; rw [c4b0]) | skip)
   have H' := Aside0.mk H
   clear H
   have hcz6_0 : w3.cell? ⟨gb275, 0, none⟩ = some (.slice A0_0 l0_0.length c0_0) := (blk_cell BK275.out 0).trans rfl
   have hcz6_1 : w3.cell? ⟨gb275, 1, none⟩ = some (.slice A0_1 l0_1.length c0_1) := (blk_cell BK275.out 1).trans rfl
   have hfz6_0 := blk_frozen BK275.out 0
   have hfz6_1 := blk_frozen BK275.out 1
   go_wp2
   go_meet
   case rel => exact ⟨_, (((l0_1.length : Int) != (l0_0.length : Int))), Qc0_, H', ⟨Qa1_⟩, ⟨Qk_ BK275.out⟩, ⟨Qg_ GE275.out⟩⟩
 case rest =>
  clear HC2
  try clear c2
  try clear p2
  try clear c4
  try clear c4b0
  try clear c4b1
  try clear hcz5_0
  try clear hcz5_1
  try clear hcz6_0
  try clear hcz6_1
  try clear hfz5_0
  try clear hfz5_1
  try clear hfz6_0
  try clear hfz6_1
  obtain ⟨kq, x17_1, rfl, HA, HJ1, BK275, HB⟩ := hcut
  cases kq with
  | zero => exact absurd HA.out (by simp [impl_ValidConsole.j0])
  | succ kj1 =>
   have H := HA.out
   clear HA
   simp only [impl_ValidConsole.j0] at H
   by_cases c7 : x17_1 = true
   ·subst c7
    rw [if_pos rfl] at H
    have H1 := H
    clear H
    have H := H1
    clear H1
    obtain rfl := Option.some.inj H
    go_wp2
    go_ret
    exact ⟨Qe0_, Qg_ GE275.out⟩
   ·replace c7 := Bool.eq_false_iff.mpr c7
    subst c7
    rw [if_neg (show ¬ (false = true) by decide)] at H
    have H1 := H
    clear H
    have H := H1
    clear H1
    have H' := Aside0.mk H
    clear H
    have hcz8_0 : wc.cell? ⟨gb275, 0, none⟩ = some (.slice A0_0 l0_0.length c0_0) := (blk_cell BK275.out 0).trans rfl
    have hcz8_1 : wc.cell? ⟨gb275, 1, none⟩ = some (.slice A0_1 l0_1.length c0_1) := (blk_cell BK275.out 1).trans rfl
    have hfz8_0 := blk_frozen BK275.out 0
    have hfz8_1 := blk_frozen BK275.out 1
    go_wp2
    go_loopg [21] kj1 (fun kq v21 w' => ∃ (x21_2 : Int), v21 = .int .i64 x21_2 ∧ Aside0 (impl_ValidConsole.l0 kq l0_0 (l0_0.length : Int) x21_2 l0_0 l0_1 = some r) ∧ Aside0 (kq ≤ kj1) ∧ Aside0 (w'.heap[gb275]? = some (.cells #[(.slice A0_0 l0_0.length c0_0), (.slice A0_1 l0_1.length c0_1)] 39 (0, 0))) ∧ Aside0 (Below w.heap.size w w'))
    case atStart => exact ⟨(0), Qc0_, H', ⟨Nat.le_refl _⟩, ⟨Qk_ BK275.out⟩, ⟨Qg_ GE275.out⟩⟩
    case round =>
     clear H'
     try clear c2
     try clear p2
     try clear c4
     try clear c4b0
     try clear c4b1
     try clear c7
     try clear hcz5_0
     try clear hcz5_1
     try clear hcz6_0
     try clear hcz6_1
     try clear hcz8_0
     try clear hcz8_1
     try clear hfz5_0
     try clear hfz5_1
     try clear hfz6_0
     try clear hfz6_1
     try clear hfz8_0
     try clear hfz8_1
     try clear p2
     obtain ⟨x21_2, rfl, HA, HK2, BK275, HB⟩ := hrel
     cases gk with
     | zero => exact absurd HA.out (by simp [impl_ValidConsole.l0])
     | succ k2 =>
      have H := HA.out
      clear HA
      simp only [impl_ValidConsole.l0] at H
      by_cases c9 : x21_2 < (l0_0.length : Int)
      ·rw [if_pos c9] at H
       have c9b0 := decide_eq_true c9
       clear c9
       by_cases c10 : 0 ≤ x21_2
       ·rw [if_pos c10] at H
        have c10b0 := decide_eq_true c10
        clear c10
        by_cases c11 : x21_2 < (l0_0.length : Int)
        ·rw [if_pos c11] at H
         have c11b0 := decide_eq_true c11
         clear c11
         replace H := Option.bind_eq_some_iff.mp H
         obtain ⟨t277, A120, H⟩ := H
         try dsimp only at H
         have A12 := Aside0.mk A120
         clear A120
         by_cases c13 : t277 = true
         ·subst c13
          rw [if_pos rfl] at H
          have H1 := H
          clear H
          have H := H1
          clear H1
          by_cases c14 : x21_2 > 0
          ·rw [if_pos c14] at H
           have c14b0 := decide_eq_true c14
           clear c14
           obtain ⟨ji15, hji15⟩ : ∃ j_ : Int, (wrap64 (x21_2 - 1)) = j_ := ⟨_, rfl⟩
           replace H : (if 0 ≤ (ji15) then (if (ji15) < (l0_0.length : Int) then (if ((Op.bytesLess ((rdOf ByteArray.empty l0_0 (ji15)).toList) ((rdOf ByteArray.empty l0_0 x21_2).toList)) = true) then (if x21_2 < (l0_1.length : Int) then ((impl_IsBits.f (rdOf ByteArray.empty l0_1 x21_2)).bind fun t280 => (if t280 = true then (impl_ValidConsole.l0 k2 l0_0 (l0_0.length : Int) (wrap64 (x21_2 + 1)) l0_0 l0_1) else (some false))) else (none)) else (some false)) else (none)) else (none)) = some r := by first | (rw [hji15] at H; exact H) | (simp only [hji15] at H ⊢; exact H)
           (try rw [hji15] at A12)
           have hji15w : (IntKind.i64.wrap (x21_2 - 1)) = ji15 := (i64_w _).trans hji15
           (try rw [hji15])
           by_cases c16 : 0 ≤ (ji15)
           ·rw [if_pos c16] at H
            have c16b0 := decide_eq_true c16
            clear c16
            by_cases c17 : (ji15) < (l0_0.length : Int)
            ·rw [if_pos c17] at H
             have c17b0 := decide_eq_true c17
             clear c17
             by_cases c18 : ((Op.bytesLess ((rdOf ByteArray.empty l0_0 (ji15)).toList) ((rdOf ByteArray.empty l0_0 x21_2).toList)) = true)
             ·rw [if_pos c18] at H
              have c18b0 : (Op.bytesLess ((rdOf ByteArray.empty l0_0 (ji15)).toList) ((rdOf ByteArray.empty l0_0 x21_2).toList)) = true := c18
              have c18b3 : Op.bytesLess ((rdOf ByteArray.empty l0_0 x21_2).toList) ((rdOf ByteArray.empty l0_0 (ji15)).toList) = false := bl_asymm10 _ _ c18b0
              have c18b4 : (((rdOf ByteArray.empty l0_0 x21_2).toList) == ((rdOf ByteArray.empty l0_0 (ji15)).toList)) = false := bl_ne10 _ _ c18b0
              clear c18
              by_cases c19 : x21_2 < (l0_1.length : Int)
              ·rw [if_pos c19] at H
               have c19b0 := decide_eq_true c19
               clear c19
               replace H := Option.bind_eq_some_iff.mp H
               obtain ⟨t280, A200, H⟩ := H
               try dsimp only at H
               have A20 := Aside0.mk A200
               clear A200
               by_cases c21 : t280 = true
               ·subst c21
                rw [if_pos rfl] at H
                have H1 := H
                clear H
                have H := H1
                clear H1
                have H' := Aside0.mk H
                clear H
                have p276 : 0 ≤ (x21_2 : Int) := of_decide_eq_true Qf0_
                have q276 : x21_2 < (l0_0.length : Int) := of_decide_eq_true Qf0_
                obtain ⟨ad276, e276, hx276_0⟩ := Kd.at_string HR0_0.out x21_2 p276 q276
                cases e276
                replace hx276_0 := (HB.out.cell (World.block_lt_of_cell? w _ hx276_0)).trans hx276_0
                replace p276 := eq_true p276
                replace q276 := eq_true q276
                go_wp2_with (first | ((with_reducible refine gate_callee (f := 62) rfl ?_); refine goesL_ (some 27) rfl rfl Tryz.func62 Qi0_ rfl #[.string (rdOf ByteArray.empty l0_0 x21_2)] rfl Qb0_ ?_; (with_reducible refine (impl_IsName.calls k2 (rdOf ByteArray.empty l0_0 x21_2) true _ A12.out).mono ?_); rintro e w' ⟨rfl, ⟨nd, rfl⟩⟩; refine ⟨_, rfl, ?_⟩; have hcz22_0 : wr.cell? ⟨gb275, 0, none⟩ = some (.slice (some ad276) l0_0.length c0_0) := (blk_cell BK275.out 0).trans rfl; have hcz22_1 : wr.cell? ⟨gb275, 1, none⟩ = some (.slice A0_1 l0_1.length c0_1) := (blk_cell BK275.out 1).trans rfl; have hfz22_0 := blk_frozen BK275.out 0; have hfz22_1 := blk_frozen BK275.out 1; have p278 : 0 ≤ ((ji15) : Int) := of_decide_eq_true Qf0_; have q278 : (ji15) < (l0_0.length : Int) := of_decide_eq_true Qf0_; obtain ⟨ad278, e278, hx278_0⟩ := Kd.at_string HR0_0.out (ji15) p278 q278; obtain rfl : ad276 = ad278 := (by injection e278); replace hx278_0 := (HB.out.cell (World.block_lt_of_cell? w _ hx278_0)).trans hx278_0; replace p278 := eq_true p278; replace q278 := eq_true q278; have p279 : 0 ≤ (x21_2 : Int) := of_decide_eq_true Qf0_; have q279 : x21_2 < (l0_1.length : Int) := of_decide_eq_true Qf0_; obtain ⟨ad279, e279, hx279_0⟩ := Kd.at_string HR0_1.out x21_2 p279 q279; cases e279; replace hx279_0 := (HB.out.cell (World.block_lt_of_cell? w _ hx279_0)).trans hx279_0; replace p279 := eq_true p279; replace q279 := eq_true q279) | (go_at_call 41; (with_reducible refine (impl_IsBits.calls (rdOf ByteArray.empty l0_1 x21_2) true _ A20.out).mono ?_); rintro e w23 ⟨rfl, hb⟩; have n0_ := Aside0.mk (blk_below (g := gb275) (o := .cells #[.slice (some ad276) l0_0.length c0_0, .slice (some ad279) l0_1.length c0_1] 39 (0, 0)) (Qk_ BK275.out) hb); have n1_ := Aside0.mk (below_step (Qg_ GE275.out) hb); clear BK275; clear HB; have BK275 := n0_; have HB := n1_; clear n0_ n1_; (try clear hb); (try clear hb2); (try clear hk); (try clear hi)))
                go_roundg k2
                case measure => have := HJ1.out; have := HK2.out; omega
                case rel => exact ⟨(wrap64 (x21_2 + 1)), Qc0_, H', ⟨by have := HJ1.out; have := HK2.out; omega⟩, ⟨Qk_ BK275.out⟩, ⟨Qg_ GE275.out⟩⟩
               ·replace c21 := Bool.eq_false_iff.mpr c21
                subst c21
                rw [if_neg (show ¬ (false = true) by decide)] at H
                have H1 := H
                clear H
                have H := H1
                clear H1
                obtain rfl := Option.some.inj H
                have p276 : 0 ≤ (x21_2 : Int) := of_decide_eq_true Qf0_
                have q276 : x21_2 < (l0_0.length : Int) := of_decide_eq_true Qf0_
                obtain ⟨ad276, e276, hx276_0⟩ := Kd.at_string HR0_0.out x21_2 p276 q276
                cases e276
                replace hx276_0 := (HB.out.cell (World.block_lt_of_cell? w _ hx276_0)).trans hx276_0
                replace p276 := eq_true p276
                replace q276 := eq_true q276
                go_wp2_with (first | ((with_reducible refine gate_callee (f := 62) rfl ?_); refine goesL_ (some 27) rfl rfl Tryz.func62 Qi0_ rfl #[.string (rdOf ByteArray.empty l0_0 x21_2)] rfl Qb0_ ?_; (with_reducible refine (impl_IsName.calls k2 (rdOf ByteArray.empty l0_0 x21_2) true _ A12.out).mono ?_); rintro e w' ⟨rfl, ⟨nd, rfl⟩⟩; refine ⟨_, rfl, ?_⟩; have hcz24_0 : wr.cell? ⟨gb275, 0, none⟩ = some (.slice (some ad276) l0_0.length c0_0) := (blk_cell BK275.out 0).trans rfl; have hcz24_1 : wr.cell? ⟨gb275, 1, none⟩ = some (.slice A0_1 l0_1.length c0_1) := (blk_cell BK275.out 1).trans rfl; have hfz24_0 := blk_frozen BK275.out 0; have hfz24_1 := blk_frozen BK275.out 1; have p278 : 0 ≤ ((ji15) : Int) := of_decide_eq_true Qf0_; have q278 : (ji15) < (l0_0.length : Int) := of_decide_eq_true Qf0_; obtain ⟨ad278, e278, hx278_0⟩ := Kd.at_string HR0_0.out (ji15) p278 q278; obtain rfl : ad276 = ad278 := (by injection e278); replace hx278_0 := (HB.out.cell (World.block_lt_of_cell? w _ hx278_0)).trans hx278_0; replace p278 := eq_true p278; replace q278 := eq_true q278; have p279 : 0 ≤ (x21_2 : Int) := of_decide_eq_true Qf0_; have q279 : x21_2 < (l0_1.length : Int) := of_decide_eq_true Qf0_; obtain ⟨ad279, e279, hx279_0⟩ := Kd.at_string HR0_1.out x21_2 p279 q279; cases e279; replace hx279_0 := (HB.out.cell (World.block_lt_of_cell? w _ hx279_0)).trans hx279_0; replace p279 := eq_true p279; replace q279 := eq_true q279) | (go_at_call 41; (with_reducible refine (impl_IsBits.calls (rdOf ByteArray.empty l0_1 x21_2) false _ A20.out).mono ?_); rintro e w25 ⟨rfl, hb⟩; have n0_ := Aside0.mk (blk_below (g := gb275) (o := .cells #[.slice (some ad276) l0_0.length c0_0, .slice (some ad279) l0_1.length c0_1] 39 (0, 0)) (Qk_ BK275.out) hb); have n1_ := Aside0.mk (below_step (Qg_ GE275.out) hb); clear BK275; clear HB; have BK275 := n0_; have HB := n1_; clear n0_ n1_; (try clear hb); (try clear hb2); (try clear hk); (try clear hi)))
                go_ret
                exact ⟨by first | rfl | (simp [errW_none, errW_some] <;> rfl) | (simp only [← hji15]; first | rfl | (simp [errW_none, errW_some] <;> rfl)) | (simp [*, errW_none, errW_some] <;> rfl), Qg_ GE275.out⟩
              ·rw [if_neg c19] at H
               exact absurd H (by simp)
             ·rw [if_neg c18] at H
              have c18b0 : (Op.bytesLess ((rdOf ByteArray.empty l0_0 (ji15)).toList) ((rdOf ByteArray.empty l0_0 x21_2).toList)) = false := by simpa using c18
              have c18b3 : (Op.bytesLess ((rdOf ByteArray.empty l0_0 x21_2).toList) ((rdOf ByteArray.empty l0_0 (ji15)).toList) || ((rdOf ByteArray.empty l0_0 x21_2).toList) == ((rdOf ByteArray.empty l0_0 (ji15)).toList)) = true := bl_total10 _ _ c18b0
              clear c18
              obtain rfl := Option.some.inj H
              have p276 : 0 ≤ (x21_2 : Int) := of_decide_eq_true Qf0_
              have q276 : x21_2 < (l0_0.length : Int) := of_decide_eq_true Qf0_
              obtain ⟨ad276, e276, hx276_0⟩ := Kd.at_string HR0_0.out x21_2 p276 q276
              cases e276
              replace hx276_0 := (HB.out.cell (World.block_lt_of_cell? w _ hx276_0)).trans hx276_0
              replace p276 := eq_true p276
              replace q276 := eq_true q276
              go_wp2_with (first | ((with_reducible refine gate_callee (f := 62) rfl ?_); refine goesL_ (some 27) rfl rfl Tryz.func62 Qi0_ rfl #[.string (rdOf ByteArray.empty l0_0 x21_2)] rfl Qb0_ ?_; (with_reducible refine (impl_IsName.calls k2 (rdOf ByteArray.empty l0_0 x21_2) true _ A12.out).mono ?_); rintro e w' ⟨rfl, ⟨nd, rfl⟩⟩; refine ⟨_, rfl, ?_⟩; have hcz26_0 : wr.cell? ⟨gb275, 0, none⟩ = some (.slice (some ad276) l0_0.length c0_0) := (blk_cell BK275.out 0).trans rfl; have hcz26_1 : wr.cell? ⟨gb275, 1, none⟩ = some (.slice A0_1 l0_1.length c0_1) := (blk_cell BK275.out 1).trans rfl; have hfz26_0 := blk_frozen BK275.out 0; have hfz26_1 := blk_frozen BK275.out 1; have p278 : 0 ≤ ((ji15) : Int) := of_decide_eq_true Qf0_; have q278 : (ji15) < (l0_0.length : Int) := of_decide_eq_true Qf0_; obtain ⟨ad278, e278, hx278_0⟩ := Kd.at_string HR0_0.out (ji15) p278 q278; obtain rfl : ad276 = ad278 := (by injection e278); replace hx278_0 := (HB.out.cell (World.block_lt_of_cell? w _ hx278_0)).trans hx278_0; replace p278 := eq_true p278; replace q278 := eq_true q278))
              go_ret
              exact ⟨by first | rfl | (simp [errW_none, errW_some] <;> rfl) | (simp only [← hji15]; first | rfl | (simp [errW_none, errW_some] <;> rfl)) | (simp [*, errW_none, errW_some] <;> rfl), Qg_ GE275.out⟩
            ·rw [if_neg c17] at H
             exact absurd H (by simp)
           ·rw [if_neg c16] at H
            exact absurd H (by simp)
          ·rw [if_neg c14] at H
           have c14b0 := decide_eq_false c14
           clear c14
           by_cases c27 : x21_2 < (l0_1.length : Int)
           ·rw [if_pos c27] at H
            have c27b0 := decide_eq_true c27
            clear c27
            replace H := Option.bind_eq_some_iff.mp H
            obtain ⟨t282, A280, H⟩ := H
            try dsimp only at H
            have A28 := Aside0.mk A280
            clear A280
            by_cases c29 : t282 = true
            ·subst c29
             rw [if_pos rfl] at H
             have H1 := H
             clear H
             have H := H1
             clear H1
             have H' := Aside0.mk H
             clear H
             have p276 : 0 ≤ (x21_2 : Int) := of_decide_eq_true Qf0_
             have q276 : x21_2 < (l0_0.length : Int) := of_decide_eq_true Qf0_
             obtain ⟨ad276, e276, hx276_0⟩ := Kd.at_string HR0_0.out x21_2 p276 q276
             cases e276
             replace hx276_0 := (HB.out.cell (World.block_lt_of_cell? w _ hx276_0)).trans hx276_0
             replace p276 := eq_true p276
             replace q276 := eq_true q276
             go_wp2_with (first | ((with_reducible refine gate_callee (f := 62) rfl ?_); refine goesL_ (some 27) rfl rfl Tryz.func62 Qi0_ rfl #[.string (rdOf ByteArray.empty l0_0 x21_2)] rfl Qb0_ ?_; (with_reducible refine (impl_IsName.calls k2 (rdOf ByteArray.empty l0_0 x21_2) true _ A12.out).mono ?_); rintro e w' ⟨rfl, ⟨nd, rfl⟩⟩; refine ⟨_, rfl, ?_⟩; have hcz30_0 : wr.cell? ⟨gb275, 0, none⟩ = some (.slice (some ad276) l0_0.length c0_0) := (blk_cell BK275.out 0).trans rfl; have hcz30_1 : wr.cell? ⟨gb275, 1, none⟩ = some (.slice A0_1 l0_1.length c0_1) := (blk_cell BK275.out 1).trans rfl; have hfz30_0 := blk_frozen BK275.out 0; have hfz30_1 := blk_frozen BK275.out 1; have p281 : 0 ≤ (x21_2 : Int) := of_decide_eq_true Qf0_; have q281 : x21_2 < (l0_1.length : Int) := of_decide_eq_true Qf0_; obtain ⟨ad281, e281, hx281_0⟩ := Kd.at_string HR0_1.out x21_2 p281 q281; cases e281; replace hx281_0 := (HB.out.cell (World.block_lt_of_cell? w _ hx281_0)).trans hx281_0; replace p281 := eq_true p281; replace q281 := eq_true q281) | (go_at_call 41; (with_reducible refine (impl_IsBits.calls (rdOf ByteArray.empty l0_1 x21_2) true _ A28.out).mono ?_); rintro e w31 ⟨rfl, hb⟩; have n0_ := Aside0.mk (blk_below (g := gb275) (o := .cells #[.slice (some ad276) l0_0.length c0_0, .slice (some ad281) l0_1.length c0_1] 39 (0, 0)) (Qk_ BK275.out) hb); have n1_ := Aside0.mk (below_step (Qg_ GE275.out) hb); clear BK275; clear HB; have BK275 := n0_; have HB := n1_; clear n0_ n1_; (try clear hb); (try clear hb2); (try clear hk); (try clear hi)))
             go_roundg k2
             case measure => have := HJ1.out; have := HK2.out; omega
             case rel => exact ⟨(wrap64 (x21_2 + 1)), Qc0_, H', ⟨by have := HJ1.out; have := HK2.out; omega⟩, ⟨Qk_ BK275.out⟩, ⟨Qg_ GE275.out⟩⟩
            ·replace c29 := Bool.eq_false_iff.mpr c29
             subst c29
             rw [if_neg (show ¬ (false = true) by decide)] at H
             have H1 := H
             clear H
             have H := H1
             clear H1
             obtain rfl := Option.some.inj H
             have p276 : 0 ≤ (x21_2 : Int) := of_decide_eq_true Qf0_
             have q276 : x21_2 < (l0_0.length : Int) := of_decide_eq_true Qf0_
             obtain ⟨ad276, e276, hx276_0⟩ := Kd.at_string HR0_0.out x21_2 p276 q276
             cases e276
             replace hx276_0 := (HB.out.cell (World.block_lt_of_cell? w _ hx276_0)).trans hx276_0
             replace p276 := eq_true p276
             replace q276 := eq_true q276
             go_wp2_with (first | ((with_reducible refine gate_callee (f := 62) rfl ?_); refine goesL_ (some 27) rfl rfl Tryz.func62 Qi0_ rfl #[.string (rdOf ByteArray.empty l0_0 x21_2)] rfl Qb0_ ?_; (with_reducible refine (impl_IsName.calls k2 (rdOf ByteArray.empty l0_0 x21_2) true _ A12.out).mono ?_); rintro e w' ⟨rfl, ⟨nd, rfl⟩⟩; refine ⟨_, rfl, ?_⟩; have hcz32_0 : wr.cell? ⟨gb275, 0, none⟩ = some (.slice (some ad276) l0_0.length c0_0) := (blk_cell BK275.out 0).trans rfl; have hcz32_1 : wr.cell? ⟨gb275, 1, none⟩ = some (.slice A0_1 l0_1.length c0_1) := (blk_cell BK275.out 1).trans rfl; have hfz32_0 := blk_frozen BK275.out 0; have hfz32_1 := blk_frozen BK275.out 1; have p281 : 0 ≤ (x21_2 : Int) := of_decide_eq_true Qf0_; have q281 : x21_2 < (l0_1.length : Int) := of_decide_eq_true Qf0_; obtain ⟨ad281, e281, hx281_0⟩ := Kd.at_string HR0_1.out x21_2 p281 q281; cases e281; replace hx281_0 := (HB.out.cell (World.block_lt_of_cell? w _ hx281_0)).trans hx281_0; replace p281 := eq_true p281; replace q281 := eq_true q281) | (go_at_call 41; (with_reducible refine (impl_IsBits.calls (rdOf ByteArray.empty l0_1 x21_2) false _ A28.out).mono ?_); rintro e w33 ⟨rfl, hb⟩; have n0_ := Aside0.mk (blk_below (g := gb275) (o := .cells #[.slice (some ad276) l0_0.length c0_0, .slice (some ad281) l0_1.length c0_1] 39 (0, 0)) (Qk_ BK275.out) hb); have n1_ := Aside0.mk (below_step (Qg_ GE275.out) hb); clear BK275; clear HB; have BK275 := n0_; have HB := n1_; clear n0_ n1_; (try clear hb); (try clear hb2); (try clear hk); (try clear hi)))
             go_ret
             exact ⟨Qe0_, Qg_ GE275.out⟩
           ·rw [if_neg c27] at H
            exact absurd H (by simp)
         ·replace c13 := Bool.eq_false_iff.mpr c13
          subst c13
          rw [if_neg (show ¬ (false = true) by decide)] at H
          have H1 := H
          clear H
          have H := H1
          clear H1
          obtain rfl := Option.some.inj H
          have p276 : 0 ≤ (x21_2 : Int) := of_decide_eq_true Qf0_
          have q276 : x21_2 < (l0_0.length : Int) := of_decide_eq_true Qf0_
          obtain ⟨ad276, e276, hx276_0⟩ := Kd.at_string HR0_0.out x21_2 p276 q276
          cases e276
          replace hx276_0 := (HB.out.cell (World.block_lt_of_cell? w _ hx276_0)).trans hx276_0
          replace p276 := eq_true p276
          replace q276 := eq_true q276
          go_wp2_with (first | ((with_reducible refine gate_callee (f := 62) rfl ?_); refine goesL_ (some 27) rfl rfl Tryz.func62 Qi0_ rfl #[.string (rdOf ByteArray.empty l0_0 x21_2)] rfl Qb0_ ?_; (with_reducible refine (impl_IsName.calls k2 (rdOf ByteArray.empty l0_0 x21_2) false _ A12.out).mono ?_); rintro e w' ⟨rfl, ⟨nd, rfl⟩⟩; refine ⟨_, rfl, ?_⟩))
          go_ret
          exact ⟨Qe0_, Qg_ GE275.out⟩
        ·rw [if_neg c11] at H
         exact absurd H (by simp)
       ·rw [if_neg c10] at H
        exact absurd H (by simp)
      ·rw [if_neg c9] at H
       have c9b0 := decide_eq_false c9
       clear c9
       obtain rfl := Option.some.inj H
       go_wp2
       go_ret
       exact ⟨Qe0_, Qg_ GE275.out⟩
def kmD (kv : List (ByteArray × ByteArray)) : DataW Unit := kv.foldl (fun D p => D.put (.string p.1.data.toList) (.lit (.string p.2.data.toList))) (.map [])
def kmGet (kv : List (ByteArray × ByteArray)) (x : ByteArray) : ByteArray × Bool := kv.foldl (fun r p => if p.1 = x then (p.2, true) else r) ((⟨#[]⟩ : ByteArray), false)
def kmAt (w : World) (m : Nat) (kv : List (ByteArray × ByteArray)) : Prop := w.ownsMap Tryz.prog 9 (plainElem (H := Unit) Tryz.prog 9) m kv.length (kmD kv)
theorem km_snoc (kv : List (ByteArray × ByteArray)) (p : ByteArray × ByteArray) : kmD (kv ++ [p]) = (kmD kv).put (.string p.1.data.toList) (.lit (.string p.2.data.toList)) := by unfold kmD; rw [List.foldl_append]; rfl
theorem km_look (x : ByteArray) (kv : List (ByteArray × ByteArray)) : ∀ (D : DataW Unit) (r : ByteArray × Bool), Go.Maps.IsMap D → Go.Maps.has D (.string x.data.toList) = r.2 → D.atKey (.string x.data.toList) (.lit (.string [])) = .lit (.string r.1.data.toList) →
 Go.Maps.has (kv.foldl (fun D p => D.put (.string p.1.data.toList) (.lit (.string p.2.data.toList))) D) (.string x.data.toList) = (kv.foldl (fun r p => if p.1 = x then (p.2, true) else r) r).2 ∧ (kv.foldl (fun D p => D.put (.string p.1.data.toList) (.lit (.string p.2.data.toList))) D).atKey (.string x.data.toList) (.lit (.string [])) = .lit (.string (kv.foldl (fun r p => if p.1 = x then (p.2, true) else r) r).1.data.toList) := by
 induction kv with
 | nil => exact fun D r _ h1 h2 => ⟨h1, h2⟩
 | cons p l ih =>
  intro D r hD h1 h2
  rw [List.foldl_cons, List.foldl_cons]
  by_cases h : p.1 = x
  ·rw [if_pos h]
   refine ih _ _ (hD.put _ _) ?_ ?_
   ·rw [h]; exact Go.Maps.has_put_same hD (by first | trivial | exact ⟨_, rfl⟩ | simp [Go.WideAt.IsKeyLit]) _
   ·rw [h]; exact Go.Maps.atKey_put_same hD (by first | trivial | exact ⟨_, rfl⟩ | simp [Go.WideAt.IsKeyLit]) _ _
  ·have hne : (Lit.string x.data.toList) ≠ (Lit.string p.1.data.toList) := fun e => h (by injection e with e; exact ByteArray.ext (Array.ext' e.symm))
   rw [if_neg h]
   refine ih _ _ (hD.put _ _) ?_ ?_
   ·rw [Go.Maps.has_put_other hne]; exact h1
   ·rw [Go.Maps.atKey_put_other hne]; exact h2
theorem ml_ {n : Nat} (h : n ≤ 100) : n ≤ maxLen := by unfold maxLen; omega
theorem km_put {w : World} {m : Nat} {kv : List (ByteArray × ByteArray)} (h : kmAt w m kv) (hk : kv.length < 1000) (x y : ByteArray) (hx : x.size ≤ maxLen) (hy : y.size ≤ maxLen) :
 ∃ w1, (Instr.mapUpdate 133 (.map (some m)) (.string x) (.string y)).run Tryz.prog w = .ok () w1 ∧ kmAt w1 m (kv ++ [(x, y)]) ∧ w.grownBy w1 (some m) := by
 have h2 : w.ownsMap Tryz.prog 9 (plainElem (H := Unit) Tryz.prog 9) m kv.length (kmD kv) := h
 obtain ⟨w1, e1, e2, e3⟩ := h2.update (Go.Maps.string_keyed Tryz.underlying9) Tryz.underlying133 (by unfold maxLen; omega) (key := .string x) (val := .string y) (kl := .string x.data.toList) (d := .lit (.string y.data.toList)) (ps := []) (Go.WideMaps.keyOf_string_mk Tryz.underlying9 hx) (plainElem_string Tryz.underlying9 hy)
 refine ⟨w1, e1, ?_, e3⟩
 unfold kmAt
 rw [km_snoc, List.length_append, List.length_singleton]
 exact e2
theorem km_inv {P : Program} {e : TypeId} (he : P.underlying e = some .string) {v : Value} {s : List UInt8} {ps : List MemPlace} (h : plainElem (H := Unit) P e v = some (.lit (.string s), ps)) : ∃ x : ByteArray, v = .string x ∧ x.data.toList = s := by
 unfold plainElem at h
 rw [he] at h
 cases v <;> simp at h
 exact ⟨_, rfl, h.2.1⟩
theorem km_get {w : World} {m : Nat} {kv : List (ByteArray × ByteArray)} (h : kmAt w m kv) (x : ByteArray) (hx : x.size ≤ maxLen) : (Instr.lookup 133 (.map (some m)) (.string x) true).run Tryz.prog w = .ok (.tuple #[.string (kmGet kv x).1, .bool (kmGet kv x).2]) w := by
 obtain ⟨v, ps, e1, e2⟩ := World.ownsMap.look_ok h (Go.Maps.string_keyed Tryz.underlying9) Tryz.underlying133 (z := .string ⟨#[]⟩) (Tryz.zeroValue9 _) (zd := .lit (.string [])) (zp := []) (plainElem_string Tryz.underlying9 (ml_ (by decide))) (key := .string x) (kl := .string x.data.toList) (Go.WideMaps.keyOf_string_mk Tryz.underlying9 hx)
 have hl := km_look x kv (.map []) ((⟨#[]⟩ : ByteArray), false) Go.Maps.isMap_empty rfl rfl
 have h1 : Go.Maps.has (kmD kv) (.string x.data.toList) = (kmGet kv x).2 := hl.1
 have h2 : (kmD kv).atKey (.string x.data.toList) (.lit (.string [])) = .lit (.string (kmGet kv x).1.data.toList) := hl.2
 rw [h1] at e1
 rw [h2] at e2
 obtain ⟨y, rfl, hy⟩ := km_inv Tryz.underlying9 e2
 rw [show y = (kmGet kv x).1 from ByteArray.ext (Array.ext' hy)] at e1
 exact e1
theorem kg_trans {w w1 w2 : World} {row : Option Nat} (h : w.grownBy w1 row) (h2 : w1.grownBy w2 row) : w.grownBy w2 row := ⟨h2.os.trans h.os, h2.tape.trans h.tape, h2.output.trans h.output, Nat.le_trans h.size h2.size, fun k hk hne => (h2.block k (Nat.lt_of_lt_of_le hk h.size) hne).trans (h.block k hk hne)⟩
def kindsL : List (ByteArray × ByteArray) := [((⟨#[115, 101, 116]⟩ : ByteArray), (⟨#[87, 66]⟩ : ByteArray)), ((⟨#[100, 114, 111, 112]⟩ : ByteArray), (⟨#[65]⟩ : ByteArray)), ((⟨#[115, 104, 111, 119]⟩ : ByteArray), (⟨#[65]⟩ : ByteArray)), ((⟨#[102, 108, 105, 112]⟩ : ByteArray), (⟨#[65, 78]⟩ : ByteArray)), ((⟨#[98, 108, 111, 99, 107, 115]⟩ : ByteArray), (⟨#[87, 78, 78, 78, 76]⟩ : ByteArray)), ((⟨#[100, 97, 116, 97]⟩ : ByteArray), (⟨#[65, 78, 78, 78]⟩ : ByteArray)), ((⟨#[108, 97, 121]⟩ : ByteArray), (⟨#[87, 65, 78, 78]⟩ : ByteArray)), ((⟨#[117, 110, 108, 97, 121]⟩ : ByteArray), (⟨#[87, 65, 78, 78]⟩ : ByteArray)), ((⟨#[99, 104, 101, 99, 107]⟩ : ByteArray), (⟨#[87, 65, 78]⟩ : ByteArray)), ((⟨#[118, 101, 114, 105, 102, 121]⟩ : ByteArray), (⟨#[65, 78]⟩ : ByteArray)), ((⟨#[114, 101, 112, 101, 97, 116]⟩ : ByteArray), (⟨#[87, 65, 78]⟩ : ByteArray)), ((⟨#[118, 111, 116, 101]⟩ : ByteArray), (⟨#[87, 65, 78]⟩ : ByteArray)), ((⟨#[99, 108, 111, 99, 107]⟩ : ByteArray), (⟨#[87, 65, 78, 78]⟩ : ByteArray))]
def impl_kindsOf.f (a0 : ByteArray) : Option (ByteArray × Bool) := if a0.size ≤ maxLen then some (kmGet kindsL a0) else none
set_option maxHeartbeats 8000000 in
set_option maxRecDepth 100000 in
theorem impl_kindsOf.calls (a0 : ByteArray) (r0 : ByteArray) (r1 : Bool) (w : World) (h : impl_kindsOf.f a0 = some (r0, r1)) :
 Calls Tryz.prog 89 #[.string a0] w fun e w' => e = .returned (.tuple #[.string r0, .bool r1]) ∧ Below w.heap.size w w' := by
 unfold impl_kindsOf.f at h
 by_cases hs : a0.size ≤ maxLen
 rotate_left
 ·rw [if_neg hs] at h; cases h
 rw [if_pos hs] at h
 have hmm := @run_makeMap Tryz.prog
 obtain ⟨m, hm⟩ : ∃ m : Nat, m = w.heap.size := ⟨_, rfl⟩
 have s0 : kmAt (w.alloc (.map #[] 0)) m [] := by rw [hm]; exact World.ownsMap_made _ _ _ _
 have g0 : w.grownBy (w.alloc (.map #[] 0)) (some m) := World.grownBy_alloc w _ _
 obtain ⟨w1, u1, s1, gg1⟩ := km_put s0 (by decide) (⟨#[115, 101, 116]⟩ : ByteArray) (⟨#[87, 66]⟩ : ByteArray) (ml_ (show _ ≤ 100 from by decide)) (ml_ (show _ ≤ 100 from by decide))
 replace s1 : kmAt w1 m (kindsL.take 1) := s1
 have g1 : w.grownBy w1 (some m) := kg_trans g0 gg1
 clear gg1
 obtain ⟨w2, u2, s2, gg2⟩ := km_put s1 (by decide) (⟨#[100, 114, 111, 112]⟩ : ByteArray) (⟨#[65]⟩ : ByteArray) (ml_ (show _ ≤ 100 from by decide)) (ml_ (show _ ≤ 100 from by decide))
 replace s2 : kmAt w2 m (kindsL.take 2) := s2
 have g2 : w.grownBy w2 (some m) := kg_trans g1 gg2
 clear gg2
 obtain ⟨w3, u3, s3, gg3⟩ := km_put s2 (by decide) (⟨#[115, 104, 111, 119]⟩ : ByteArray) (⟨#[65]⟩ : ByteArray) (ml_ (show _ ≤ 100 from by decide)) (ml_ (show _ ≤ 100 from by decide))
 replace s3 : kmAt w3 m (kindsL.take 3) := s3
 have g3 : w.grownBy w3 (some m) := kg_trans g2 gg3
 clear gg3
 obtain ⟨w4, u4, s4, gg4⟩ := km_put s3 (by decide) (⟨#[102, 108, 105, 112]⟩ : ByteArray) (⟨#[65, 78]⟩ : ByteArray) (ml_ (show _ ≤ 100 from by decide)) (ml_ (show _ ≤ 100 from by decide))
 replace s4 : kmAt w4 m (kindsL.take 4) := s4
 have g4 : w.grownBy w4 (some m) := kg_trans g3 gg4
 clear gg4
 obtain ⟨w5, u5, s5, gg5⟩ := km_put s4 (by decide) (⟨#[98, 108, 111, 99, 107, 115]⟩ : ByteArray) (⟨#[87, 78, 78, 78, 76]⟩ : ByteArray) (ml_ (show _ ≤ 100 from by decide)) (ml_ (show _ ≤ 100 from by decide))
 replace s5 : kmAt w5 m (kindsL.take 5) := s5
 have g5 : w.grownBy w5 (some m) := kg_trans g4 gg5
 clear gg5
 obtain ⟨w6, u6, s6, gg6⟩ := km_put s5 (by decide) (⟨#[100, 97, 116, 97]⟩ : ByteArray) (⟨#[65, 78, 78, 78]⟩ : ByteArray) (ml_ (show _ ≤ 100 from by decide)) (ml_ (show _ ≤ 100 from by decide))
 replace s6 : kmAt w6 m (kindsL.take 6) := s6
 have g6 : w.grownBy w6 (some m) := kg_trans g5 gg6
 clear gg6
 obtain ⟨w7, u7, s7, gg7⟩ := km_put s6 (by decide) (⟨#[108, 97, 121]⟩ : ByteArray) (⟨#[87, 65, 78, 78]⟩ : ByteArray) (ml_ (show _ ≤ 100 from by decide)) (ml_ (show _ ≤ 100 from by decide))
 replace s7 : kmAt w7 m (kindsL.take 7) := s7
 have g7 : w.grownBy w7 (some m) := kg_trans g6 gg7
 clear gg7
 obtain ⟨w8, u8, s8, gg8⟩ := km_put s7 (by decide) (⟨#[117, 110, 108, 97, 121]⟩ : ByteArray) (⟨#[87, 65, 78, 78]⟩ : ByteArray) (ml_ (show _ ≤ 100 from by decide)) (ml_ (show _ ≤ 100 from by decide))
 replace s8 : kmAt w8 m (kindsL.take 8) := s8
 have g8 : w.grownBy w8 (some m) := kg_trans g7 gg8
 clear gg8
 obtain ⟨w9, u9, s9, gg9⟩ := km_put s8 (by decide) (⟨#[99, 104, 101, 99, 107]⟩ : ByteArray) (⟨#[87, 65, 78]⟩ : ByteArray) (ml_ (show _ ≤ 100 from by decide)) (ml_ (show _ ≤ 100 from by decide))
 replace s9 : kmAt w9 m (kindsL.take 9) := s9
 have g9 : w.grownBy w9 (some m) := kg_trans g8 gg9
 clear gg9
 obtain ⟨w10, u10, s10, gg10⟩ := km_put s9 (by decide) (⟨#[118, 101, 114, 105, 102, 121]⟩ : ByteArray) (⟨#[65, 78]⟩ : ByteArray) (ml_ (show _ ≤ 100 from by decide)) (ml_ (show _ ≤ 100 from by decide))
 replace s10 : kmAt w10 m (kindsL.take 10) := s10
 have g10 : w.grownBy w10 (some m) := kg_trans g9 gg10
 clear gg10
 obtain ⟨w11, u11, s11, gg11⟩ := km_put s10 (by decide) (⟨#[114, 101, 112, 101, 97, 116]⟩ : ByteArray) (⟨#[87, 65, 78]⟩ : ByteArray) (ml_ (show _ ≤ 100 from by decide)) (ml_ (show _ ≤ 100 from by decide))
 replace s11 : kmAt w11 m (kindsL.take 11) := s11
 have g11 : w.grownBy w11 (some m) := kg_trans g10 gg11
 clear gg11
 obtain ⟨w12, u12, s12, gg12⟩ := km_put s11 (by decide) (⟨#[118, 111, 116, 101]⟩ : ByteArray) (⟨#[87, 65, 78]⟩ : ByteArray) (ml_ (show _ ≤ 100 from by decide)) (ml_ (show _ ≤ 100 from by decide))
 replace s12 : kmAt w12 m (kindsL.take 12) := s12
 have g12 : w.grownBy w12 (some m) := kg_trans g11 gg12
 clear gg12
 obtain ⟨w13, u13, s13, gg13⟩ := km_put s12 (by decide) (⟨#[99, 108, 111, 99, 107]⟩ : ByteArray) (⟨#[87, 65, 78, 78]⟩ : ByteArray) (ml_ (show _ ≤ 100 from by decide)) (ml_ (show _ ≤ 100 from by decide))
 replace s13 : kmAt w13 m (kindsL.take 13) := s13
 have g13 : w.grownBy w13 (some m) := kg_trans g12 gg13
 clear gg13
 have hlk := km_get s13 a0 hs
 rw [show kindsL.take 13 = kindsL from rfl, show kmGet kindsL a0 = (r0, r1) from Option.some.inj h] at hlk
 have hb : Below w.heap.size w w13 := (Below.refl _ _).grown g13 (Nat.le_refl _) (fun k e => by cases e; omega)
 have HB := Aside0.mk hb
 clear hb h hs s0 g0 s1 g1 s2 g2 s3 g3 s4 g4 s5 g5 s6 g6 s7 g7 s8 g8 s9 g9 s10 g10 s11 g11 s12 g12 s13 g13
 subst hm
 go_enter Tryz.func89, Tryz.ntmps89
 go_wp2
 go_ret2
 exact ⟨Qc0_, HB.out⟩
end Go.Proofs.YtbjmbfjbjkhhdaaGreatDoor.QFnTopOfAll
