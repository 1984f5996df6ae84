/- FnExactReserveSlots: functions that it reaches, with what they compute and the proof that they do; written by a program of this session (wip/myprint.py). -/
import Derived.Test.YtbgiddnffchnpaaQFnExactReserveSlotsx0
import Derived.Test.YtbgiddnffchnpaaQFnExactReserveSlotsx1
import Derived.Test.YtbgiddnffchnpaaQFnExactReserveSlotsx2
import Derived.Test.YtbgiddnffchnpaaQFnExactReserveSlotsx3
namespace Go.Proofs.Ytbgiddnffchnpaa.QFnExactReserveSlots
open Go.RowKit Go.Proofs.YtbgiddnffchnpaaW.PrintWords Go.Proofs.YtbgiddnffchnpaaW.PrintLast Go.Proofs.YtbgiddnffchnpaaW.PrintMore
attribute [local go_sem] max2_int min2_int max_two min_two max_three min_three max_four min_four   -- for this text's walks alone
set_option linter.unusedVariables false
set_option linter.unusedSimpArgs false

/-! ### laws_heldInt64S: function 25 -/
def laws_heldInt64S.l0 : Nat → List Int → Int → Int → Option (Int)
  | 0, _, _, _ => none
  | k + 1, x0, x1, x5 => if x5 < (x0.length : Int) then (if 0 ≤ x5 then (if (rd x0 x5) = x1 then (laws_heldInt64S.l0 k x0 (wrap64 (x1 + 1)) (wrap64 (x5 + 1))) else (some (-1))) else (none)) else (some x1)
def laws_heldInt64S.f (k : Nat) (l0 : List Int) (a1 : Int) : Option (Int) := laws_heldInt64S.l0 k l0 a1 0
theorem laws_heldInt64S.mono_l : ∀ k, (∀ y0 y1 y2, LeO (laws_heldInt64S.l0 k y0 y1 y2) (laws_heldInt64S.l0 (k + 1) y0 y1 y2))
  | 0 => fun _ _ _ r h => by simp [laws_heldInt64S.l0] at h
  | k + 1 => by
    have ih0 := laws_heldInt64S.mono_l k
    · intro y0 y1 y2
      unfold laws_heldInt64S.l0
      repeat' first
      | (with_reducible exact ih0 _ _ _)
      | (with_reducible exact LeO.refl _)
      | (with_reducible exact LeO.none _)
      | (with_reducible refine LeO.ite ?_ ?_)
      | (with_reducible refine LeO.bind ?_ (fun _ => ?_))
      | exact ih0 _ _ _
      | exact LeO.none _
      | refine LeO.ite ?_ ?_
      | refine LeO.bind ?_ (fun _ => ?_)
theorem laws_heldInt64S.mono : ∀ a0 a1 k, LeO (laws_heldInt64S.f k a0 a1) (laws_heldInt64S.f (k + 1) a0 a1) := by
  intro a0 a1 k
  have ih0 := laws_heldInt64S.mono_l k
  unfold laws_heldInt64S.f
  repeat' first
      | (with_reducible exact ih0 _ _ _)
      | (with_reducible exact LeO.refl _)
      | (with_reducible exact LeO.none _)
      | (with_reducible refine LeO.ite ?_ ?_)
      | (with_reducible refine LeO.bind ?_ (fun _ => ?_))
      | exact ih0 _ _ _
      | exact LeO.none _
      | refine LeO.ite ?_ ?_
      | refine LeO.bind ?_ (fun _ => ?_)
set_option maxHeartbeats 8000000 in
set_option maxRecDepth 100000 in
theorem laws_heldInt64S.calls (k : Nat) (A0 : Option Addr) (c0 : Nat) (l0 : List Int) (a1 : Int) (r : Int) (w : World) (hr0 : Kd.C (Kd.int .i64) w A0 l0.length l0) (hc0 : l0.length ≤ c0) (h : laws_heldInt64S.f k l0 a1 = some r) :
    Calls Try.prog 25 #[.slice A0 l0.length c0, .int .i64 a1] w fun e w' => e = .returned (.int .i64 r) ∧ Drawn0 w w' := by
  have HR0 := Aside0.mk hr0
  have HC0 := Aside0.mk hc0
  clear hr0 hc0
  have H : (laws_heldInt64S.l0 k l0 a1 0) = some r := h
  clear h
  have H' := Aside0.mk H
  clear H
  go_enter Try.func25, Try.ntmps25
  go_wp2
  go_loopg [1, 5] k (fun kq v1 v5 w' => ∃ (x1_1 : Int) (x5_1 : Int), v1 = .int .i64 x1_1 ∧ v5 = .int .i64 x5_1 ∧ Aside0 (laws_heldInt64S.l0 kq l0 x1_1 x5_1 = some r) ∧ Aside0 (kq ≤ k) ∧ Drawn0 w w')
  case atStart => exact ⟨(a1), (0), (by first | rfl | (simp; done) | (simp [*]; done)), (by first | rfl | (simp; done) | (simp [*]; done)), H', ⟨Nat.le_refl _⟩, by repeat (first | exact Drawn0.refl _ | apply Drawn0.step)⟩
  case round =>
    clear H'
    try clear c2
    try clear p2
    obtain ⟨x1_1, x5_1, rfl, rfl, HA, HK1, ⟨m1, rfl⟩⟩ := hrel
    cases gk with
    | zero => exact absurd HA.out (by simp [laws_heldInt64S.l0])
    | succ k1 =>
      have H := HA.out
      clear HA
      simp only [laws_heldInt64S.l0] at H
      by_cases c3 : x5_1 < (l0.length : Int)
      · rw [if_pos c3] at H
        have c3b0 : decide (x5_1 < (l0.length : Int)) = true := decide_eq_true c3
        clear c3
        by_cases c4 : 0 ≤ x5_1
        · rw [if_pos c4] at H
          have c4b0 : decide (0 ≤ x5_1) = true := decide_eq_true c4
          clear c4
          by_cases c5 : (rd l0 x5_1) = x1_1
          · rw [if_pos c5] at H
            have c5b0 : ((rd l0 x5_1) == x1_1) = true := beq_iff_eq.mpr c5
            have c5b1 : ((rd l0 x5_1) != x1_1) = false := bne_eq_false_iff_eq.mpr c5
            clear c5
            have H' := Aside0.mk H
            clear H
            have p174 : 0 ≤ (x5_1 : Int) := of_decide_eq_true (by first | (with_reducible assumption) | assumption)
            have q174 : x5_1 < (l0.length : Int) := of_decide_eq_true (by first | (with_reducible assumption) | assumption)
            obtain ⟨ad174, e174, hx174_0⟩ := Kd.at_int HR0.out x5_1 p174 q174
            cases e174
            replace p174 := eq_true p174
            replace q174 := eq_true q174
            go_wp2
            go_roundg k1
            case measure => have := HK1.out; omega
            case rel => exact ⟨(wrap64 (x1_1 + 1)), (wrap64 (x5_1 + 1)), (by first | rfl | (simp; done) | (simp [*]; done)), (by first | rfl | (simp; done) | (simp [*]; done)), H', ⟨by have := HK1.out; omega⟩, by repeat (first | exact Drawn0.refl _ | apply Drawn0.step)⟩
          · rw [if_neg c5] at H
            have c5b0 : ((rd l0 x5_1) == x1_1) = false := beq_eq_false_iff_ne.mpr c5
            have c5b1 : ((rd l0 x5_1) != x1_1) = true := bne_iff_ne.mpr c5
            obtain rfl := Option.some.inj H
            have p174 : 0 ≤ (x5_1 : Int) := of_decide_eq_true (by first | (with_reducible assumption) | assumption)
            have q174 : x5_1 < (l0.length : Int) := of_decide_eq_true (by first | (with_reducible assumption) | assumption)
            obtain ⟨ad174, e174, hx174_0⟩ := Kd.at_int HR0.out x5_1 p174 q174
            cases e174
            replace p174 := eq_true p174
            replace q174 := eq_true q174
            go_wp2
            go_ret
            exact ⟨by first | rfl | (simp; done) | (simp [*]; done), by repeat (first | exact Drawn0.refl _ | apply Drawn0.step)⟩
        · rw [if_neg c4] at H
          exact absurd H (by simp)
      · rw [if_neg c3] at H
        have c3b0 : decide (x5_1 < (l0.length : Int)) = false := decide_eq_false c3
        clear c3
        obtain rfl := Option.some.inj H
        go_wp2
        go_ret
        exact ⟨by first | rfl | (simp; done) | (simp [*]; done), by repeat (first | exact Drawn0.refl _ | apply Drawn0.step)⟩

/-! ### laws_heldInt64SS: function 41 -/
def laws_heldInt64SS.l0 : Nat → List (List Int) → Int → Int → Option (Int)
  | 0, _, _, _ => none
  | k + 1, x0, x1, x5 => if x5 < (x0.length : Int) then (if 0 ≤ x5 then ((laws_heldInt64S.f k (rd_L1 x0 x5) x1).bind fun t176 => (if t176 < 0 then (some (-1)) else (laws_heldInt64SS.l0 k x0 t176 (wrap64 (x5 + 1))))) else (none)) else (some x1)
def laws_heldInt64SS.f (k : Nat) (l0 : List (List Int)) (a1 : Int) : Option (Int) := laws_heldInt64SS.l0 k l0 a1 0
theorem laws_heldInt64SS.mono_l : ∀ k, (∀ y0 y1 y2, LeO (laws_heldInt64SS.l0 k y0 y1 y2) (laws_heldInt64SS.l0 (k + 1) y0 y1 y2))
  | 0 => fun _ _ _ r h => by simp [laws_heldInt64SS.l0] at h
  | k + 1 => by
    have ih0 := laws_heldInt64SS.mono_l k
    · intro y0 y1 y2
      unfold laws_heldInt64SS.l0
      repeat' first
      | (with_reducible exact ih0 _ _ _)
      | (with_reducible exact laws_heldInt64S.mono _ _ _)
      | (with_reducible exact LeO.refl _)
      | (with_reducible exact LeO.none _)
      | (with_reducible refine LeO.ite ?_ ?_)
      | (with_reducible refine LeO.bind ?_ (fun _ => ?_))
      | exact ih0 _ _ _
      | exact laws_heldInt64S.mono _ _ _
      | exact LeO.none _
      | refine LeO.ite ?_ ?_
      | refine LeO.bind ?_ (fun _ => ?_)
theorem laws_heldInt64SS.mono : ∀ a0 a1 k, LeO (laws_heldInt64SS.f k a0 a1) (laws_heldInt64SS.f (k + 1) a0 a1) := by
  intro a0 a1 k
  have ih0 := laws_heldInt64SS.mono_l k
  unfold laws_heldInt64SS.f
  repeat' first
      | (with_reducible exact ih0 _ _ _)
      | (with_reducible exact laws_heldInt64S.mono _ _ _)
      | (with_reducible exact LeO.refl _)
      | (with_reducible exact LeO.none _)
      | (with_reducible refine LeO.ite ?_ ?_)
      | (with_reducible refine LeO.bind ?_ (fun _ => ?_))
      | exact ih0 _ _ _
      | exact laws_heldInt64S.mono _ _ _
      | exact LeO.none _
      | refine LeO.ite ?_ ?_
      | refine LeO.bind ?_ (fun _ => ?_)
set_option maxHeartbeats 8000000 in
set_option maxRecDepth 100000 in
theorem laws_heldInt64SS.calls (k : Nat) (A0 : Option Addr) (c0 : Nat) (l0 : List (List Int)) (a1 : Int) (r : Int) (w : World) (hr0 : Kd.C (Kd.slice 2 (Kd.int .i64)) w A0 l0.length l0) (hc0 : l0.length ≤ c0) (h : laws_heldInt64SS.f k l0 a1 = some r) :
    Calls Try.prog 41 #[.slice A0 l0.length c0, .int .i64 a1] w fun e w' => e = .returned (.int .i64 r) ∧ Drawn0 w w' := by
  have HR0 := Aside0.mk hr0
  have HC0 := Aside0.mk hc0
  clear hr0 hc0
  have H : (laws_heldInt64SS.l0 k l0 a1 0) = some r := h
  clear h
  have H' := Aside0.mk H
  clear H
  go_enter Try.func41, Try.ntmps41
  go_wp2
  go_loopg [1, 5] k (fun kq v1 v5 w' => ∃ (x1_1 : Int) (x5_1 : Int), v1 = .int .i64 x1_1 ∧ v5 = .int .i64 x5_1 ∧ Aside0 (laws_heldInt64SS.l0 kq l0 x1_1 x5_1 = some r) ∧ Aside0 (kq ≤ k) ∧ Drawn0 w w')
  case atStart => exact ⟨(a1), (0), (by first | rfl | (simp; done) | (simp [*]; done)), (by first | rfl | (simp; done) | (simp [*]; done)), H', ⟨Nat.le_refl _⟩, by repeat (first | exact Drawn0.refl _ | apply Drawn0.step)⟩
  case round =>
    clear H'
    try clear p2
    obtain ⟨x1_1, x5_1, rfl, rfl, HA, HK1, ⟨m1, rfl⟩⟩ := hrel
    cases gk with
    | zero => exact absurd HA.out (by simp [laws_heldInt64SS.l0])
    | succ k1 =>
      have H := HA.out
      clear HA
      simp only [laws_heldInt64SS.l0] at H
      by_cases c3 : x5_1 < (l0.length : Int)
      · rw [if_pos c3] at H
        have c3b0 : decide (x5_1 < (l0.length : Int)) = true := decide_eq_true c3
        clear c3
        by_cases c4 : 0 ≤ x5_1
        · rw [if_pos c4] at H
          have c4b0 : decide (0 ≤ x5_1) = true := decide_eq_true c4
          clear c4
          replace H := Option.bind_eq_some_iff.mp H
          obtain ⟨t176, A50, H⟩ := H
          replace H : (if t176 < 0 then (some (-1)) else (laws_heldInt64SS.l0 k1 l0 t176 (wrap64 (x5_1 + 1)))) = some r := H
          have A5 := Aside0.mk A50
          clear A50
          by_cases c6 : t176 < 0
          · rw [if_pos c6] at H
            have c6b0 : decide (t176 < 0) = true := decide_eq_true c6
            clear c6
            obtain rfl := Option.some.inj H
            have p175 : 0 ≤ (x5_1 : Int) := of_decide_eq_true (by first | (with_reducible assumption) | assumption)
            have q175 : x5_1 < (l0.length : Int) := of_decide_eq_true (by first | (with_reducible assumption) | assumption)
            obtain ⟨ad175, A175_0, c175_0, e175, hx175_0, hl175_0, hi175_0⟩ := at_L1 HR0.out x5_1 p175 q175
            cases e175
            have HR175_0 := Aside0.mk hi175_0
            have HC175_0 := Aside0.mk hl175_0
            clear hi175_0 hl175_0
            replace p175 := eq_true p175
            replace q175 := eq_true q175
            go_wp2_with (first | ((with_reducible refine gate_callee (f := 25) rfl ?_); refine goesL_ (some 17) rfl rfl Try.func25 (by kernel_rfl) rfl #[.slice A175_0 (rd_L1 l0 x5_1).length c175_0, .int .i64 x1_1] rfl (by (try simp only [List.map_toArray, List.map_cons, List.map_nil]); first | done | rfl | (simp only [List.length_drop, List.length_take]; rfl)) ?_; (with_reducible refine (laws_heldInt64S.calls k1 _ _ (rd_L1 l0 x5_1) x1_1 t176 _ ?side1 ?side2 A5.out).mono ?_); (case side1 => repeat (first | exact HR175_0.out | (with_reducible refine Kd.C_alloc ?_ _) | (with_reducible refine Kd.C_drewN ?_ _) | (with_reducible refine Kd.C_drew ?_))); (case side2 => exact HC175_0.out); rintro e w' ⟨rfl, ⟨nd, rfl⟩⟩; refine ⟨_, rfl, ?_⟩))
            go_ret
            exact ⟨by first | rfl | (simp; done) | (simp [*]; done), by repeat (first | exact Drawn0.refl _ | apply Drawn0.step)⟩
          · rw [if_neg c6] at H
            have c6b0 : decide (t176 < 0) = false := decide_eq_false c6
            clear c6
            have H' := Aside0.mk H
            clear H
            have p175 : 0 ≤ (x5_1 : Int) := of_decide_eq_true (by first | (with_reducible assumption) | assumption)
            have q175 : x5_1 < (l0.length : Int) := of_decide_eq_true (by first | (with_reducible assumption) | assumption)
            obtain ⟨ad175, A175_0, c175_0, e175, hx175_0, hl175_0, hi175_0⟩ := at_L1 HR0.out x5_1 p175 q175
            cases e175
            have HR175_0 := Aside0.mk hi175_0
            have HC175_0 := Aside0.mk hl175_0
            clear hi175_0 hl175_0
            replace p175 := eq_true p175
            replace q175 := eq_true q175
            go_wp2_with (first | ((with_reducible refine gate_callee (f := 25) rfl ?_); refine goesL_ (some 17) rfl rfl Try.func25 (by kernel_rfl) rfl #[.slice A175_0 (rd_L1 l0 x5_1).length c175_0, .int .i64 x1_1] rfl (by (try simp only [List.map_toArray, List.map_cons, List.map_nil]); first | done | rfl | (simp only [List.length_drop, List.length_take]; rfl)) ?_; (with_reducible refine (laws_heldInt64S.calls k1 _ _ (rd_L1 l0 x5_1) x1_1 t176 _ ?side1 ?side2 A5.out).mono ?_); (case side1 => repeat (first | exact HR175_0.out | (with_reducible refine Kd.C_alloc ?_ _) | (with_reducible refine Kd.C_drewN ?_ _) | (with_reducible refine Kd.C_drew ?_))); (case side2 => exact HC175_0.out); rintro e w' ⟨rfl, ⟨nd, rfl⟩⟩; refine ⟨_, rfl, ?_⟩))
            go_roundg k1
            case measure => have := HK1.out; omega
            case rel => exact ⟨(t176), (wrap64 (x5_1 + 1)), (by first | rfl | (simp; done) | (simp [*]; done)), (by first | rfl | (simp; done) | (simp [*]; done)), H', ⟨by have := HK1.out; omega⟩, by repeat (first | exact Drawn0.refl _ | apply Drawn0.step)⟩
        · rw [if_neg c4] at H
          exact absurd H (by simp)
      · rw [if_neg c3] at H
        have c3b0 : decide (x5_1 < (l0.length : Int)) = false := decide_eq_false c3
        clear c3
        obtain rfl := Option.some.inj H
        go_wp2
        go_ret
        exact ⟨by first | rfl | (simp; done) | (simp [*]; done), by repeat (first | exact Drawn0.refl _ | apply Drawn0.step)⟩

/-! ### laws_FnExactReserveSlots: function 10 -/
def laws_FnExactReserveSlots.f (k : Nat) (l0 : List Int) (a1 : Int) : Option (Bool) := if (l0.length : Int) > 1048576 then (some true) else ((laws_toInt64S.f k l0).bind fun t => (spec_ReserveSlots.f k t a1).bind fun w => (impl_ReserveSlots.f k t a1).bind fun g => (laws_eqInt64SS.f k g.1 w.1).bind fun e1 => (laws_eqInt64S.f k t t).bind fun e2 => (laws_markInt64S.f k t 1).bind fun m1 => (laws_markInt64SS.f k g.1 1).bind fun m2 => (laws_heldInt64SS.f k m2.2 1).bind fun q => (if e1 = true ∧ g.2 = w.2 ∧ e2 = true ∧ 0 ≤ m1.1 ∧ 0 ≤ q ∧ q = m2.1 then some true else none))
set_option maxHeartbeats 8000000 in
set_option maxRecDepth 100000 in
theorem laws_FnExactReserveSlots.calls (k : Nat) (A0 : Option Addr) (c0 : Nat) (l0 : List Int) (a1 : Int) (r : Bool) (w : World) (hr0 : Kd.C (Kd.int .i64) w A0 l0.length l0) (hc0 : l0.length ≤ c0) (h : laws_FnExactReserveSlots.f k l0 a1 = some r) :
    Calls Try.prog 10 #[.slice A0 l0.length c0, .int .i64 a1] w fun e w' => e = .returned (.bool r) ∧ Below w.heap.size w w' := by
  have HR0 := Aside0.mk hr0
  have HC0 := Aside0.mk hc0
  have HB := Aside0.mk (Below.refl w.heap.size w)
  clear hr0 hc0
  unfold laws_FnExactReserveSlots.f at h
  by_cases c1 : (l0.length : Int) > 1048576
  · rw [if_pos c1] at h
    obtain rfl := Option.some.inj h
    have c1b : decide ((l0.length : Int) > 1048576) = true := decide_eq_true c1
    clear c1 h
    go_enter Try.func10, Try.ntmps10
    go_wp2
    go_ret
    exact ⟨rfl, HB.out⟩
  · rw [if_neg c1] at h
    have c1b : decide ((l0.length : Int) > 1048576) = false := decide_eq_false c1
    obtain ⟨t, At, h_⟩ := Option.bind_eq_some_iff.mp h
    clear h
    have h := h_
    clear h_
    obtain ⟨⟨wl, b⟩, Aw, h_⟩ := Option.bind_eq_some_iff.mp h
    clear h
    have h := h_
    clear h_
    obtain ⟨⟨gl, b2⟩, Ag, h_⟩ := Option.bind_eq_some_iff.mp h
    clear h
    have h := h_
    clear h_
    obtain ⟨e1, Ae, h_⟩ := Option.bind_eq_some_iff.mp h
    clear h
    have h := h_
    clear h_
    obtain ⟨e2, Ae2, h_⟩ := Option.bind_eq_some_iff.mp h
    clear h
    have h := h_
    clear h_
    obtain ⟨⟨m1, t2⟩, Am1, h_⟩ := Option.bind_eq_some_iff.mp h
    clear h
    have h := h_
    clear h_
    obtain ⟨⟨m2, gl2⟩, Am2, h_⟩ := Option.bind_eq_some_iff.mp h
    clear h
    have h := h_
    clear h_
    obtain ⟨q, Ah, h_⟩ := Option.bind_eq_some_iff.mp h
    clear h
    have h := h_
    clear h_
    simp only at Ae Am2 Ah h
    by_cases cc : e1 = true ∧ b2 = b ∧ e2 = true ∧ 0 ≤ m1 ∧ 0 ≤ q ∧ q = m2
    rotate_left
    · rw [if_neg cc] at h
      exact absurd h (by simp)
    rw [if_pos cc] at h
    obtain rfl := Option.some.inj h
    obtain ⟨rfl, rfl, rfl, hm1, hq, rfl⟩ := cc
    have d1 : decide (m1 < 0) = false := decide_eq_false (by omega)
    have d2 : decide (q < 0) = false := decide_eq_false (by omega)
    have d3 : (q != q) = false := bne_self_eq_false q
    have d4 : (b2 != b2) = false := bne_self_eq_false b2
    replace At := Aside0.mk At
    replace Aw := Aside0.mk Aw
    replace Ag := Aside0.mk Ag
    replace Ae := Aside0.mk Ae
    replace Ae2 := Aside0.mk Ae2
    replace Am1 := Aside0.mk Am1
    replace Am2 := Aside0.mk Am2
    replace Ah := Aside0.mk Ah
    clear c1 h hm1 hq
    have tk1 := Aside0.mk True.intro
    have tk2 := Aside0.mk True.intro
    have tk3 := Aside0.mk True.intro
    have tk4 := Aside0.mk True.intro
    have tk5 := Aside0.mk True.intro
    have tk6 := Aside0.mk True.intro
    have tk7 := Aside0.mk True.intro
    have tk8 := Aside0.mk True.intro
    have tk9 := Aside0.mk True.intro
    have tk10 := Aside0.mk True.intro
    have tk11 := Aside0.mk True.intro
    have tk12 := Aside0.mk True.intro
    have tk13 := Aside0.mk True.intro
    have tk14 := Aside0.mk True.intro
    have tk15 := Aside0.mk True.intro
    go_enter Try.func10, Try.ntmps10
    go_wp2_with (first | (go_at_call 21; clear tk1; refine (laws_toInt64S.calls k _ _ l0 t _ ?sd0 ?sd1 At.out).mono ?_; (case sd0 => exact (Kd.C_below HR0.out HB.out)); (case sd1 => exact HC0.out); rintro e w1 ⟨v1_0, rfl, ho0, hb⟩; obtain ⟨A1_0, c1_0, rfl⟩ := Kd.R_slice ho0; have LS1 := Aside0.mk hb.size; have FTn := Aside0.mk (Kd.R_mono (ok' := fun k_ => (w.heap.size ≤ k_ ∧ k_ < w1.heap.size) ∧ True) (Kd.R_lower (Kd.R_bound ho0) (below_size HB.out)) (fun k_ hk => ⟨⟨hk.2.1, hk.2.2.1⟩, hk.1⟩)); have n_ := Aside0.mk (below_step HB.out hb); clear HB hb; have HB := n_; clear n_; have FT := FTn; clear FTn; clear ho0) | (go_at_call 38; clear tk2; refine (spec_ReserveSlots.calls k _ _ t (a1) wl b2 _ ?sd0 ?sd1 Aw.out).mono ?_; (case sd0 => exact (Kd.R_reads' FT.out).2.2); (case sd1 => exact (Kd.R_reads' FT.out).2.1); rintro e w2 ⟨v2_0, rfl, ho0, hb⟩; obtain ⟨A2_0, c2_0, rfl⟩ := Kd.S_slice ho0; have LS2 := Aside0.mk hb.size; have FWn := Aside0.mk (Kd.S_mono (ok' := fun k_ => (w1.heap.size ≤ k_ ∧ k_ < w2.heap.size) ∧ True) (Kd.S_lower (Kd.S_bound ho0) (below_size HB.out)) (fun k_ hk => ⟨⟨hk.2.1, hk.2.2.1⟩, hk.1⟩)); have n_ := Aside0.mk (Kd.R_below FT.out hb); clear FT; have FT := n_; clear n_; have n_ := Aside0.mk (below_step HB.out hb); clear HB hb; have HB := n_; clear n_; have FW := FWn; clear FWn; clear ho0; clear FT) | (go_at_call 21; clear tk3; refine (laws_toInt64S.calls k _ _ l0 t _ ?sd0 ?sd1 At.out).mono ?_; (case sd0 => exact (Kd.C_below HR0.out HB.out)); (case sd1 => exact HC0.out); rintro e w3 ⟨v3_0, rfl, ho0, hb⟩; obtain ⟨A3_0, c3_0, rfl⟩ := Kd.R_slice ho0; have LS3 := Aside0.mk hb.size; have FXn := Aside0.mk (Kd.R_mono (ok' := fun k_ => (w2.heap.size ≤ k_ ∧ k_ < w3.heap.size) ∧ True) (Kd.R_lower (Kd.R_bound ho0) (below_size HB.out)) (fun k_ hk => ⟨⟨hk.2.1, hk.2.2.1⟩, hk.1⟩)); have n_ := Aside0.mk (Kd.S_below FW.out hb); clear FW; have FW := n_; clear n_; have n_ := Aside0.mk (below_step HB.out hb); clear HB hb; have HB := n_; clear n_; have FX := FXn; clear FXn; clear ho0) | (go_at_call 35; clear tk4; refine (impl_ReserveSlots.calls k _ _ t (a1) gl b2 _ ?sd0 ?sd1 Ag.out).mono ?_; (case sd0 => exact (Kd.R_reads' FX.out).2.2); (case sd1 => exact (Kd.R_reads' FX.out).2.1); rintro e w4 ⟨v4_0, rfl, ho0, hb⟩; obtain ⟨A4_0, c4_0, rfl⟩ := Kd.S_slice ho0; have LS4 := Aside0.mk hb.size; have FGn := Aside0.mk (Kd.S_mono (ok' := fun k_ => (w3.heap.size ≤ k_ ∧ k_ < w4.heap.size) ∧ True) (Kd.S_lower (Kd.S_bound ho0) (below_size HB.out)) (fun k_ hk => ⟨⟨hk.2.1, hk.2.2.1⟩, hk.1⟩)); have n_ := Aside0.mk (Kd.S_below FW.out hb); clear FW; have FW := n_; clear n_; have n_ := Aside0.mk (Kd.R_below FX.out hb); clear FX; have FX := n_; clear n_; have n_ := Aside0.mk (below_step HB.out hb); clear HB hb; have HB := n_; clear n_; have FG := FGn; clear FGn; clear ho0) | (go_at_call 39; clear tk5; refine (laws_eqInt64SS.calls k _ _ gl _ _ wl true _ ?sd0 ?sd1 ?sd2 ?sd3 Ae.out).mono ?_; (case sd0 => exact (Kd.S_reads' FG.out).2.2); (case sd1 => exact (Kd.S_reads' FG.out).2.1); (case sd2 => exact (Kd.S_reads' FW.out).2.2); (case sd3 => exact (Kd.S_reads' FW.out).2.1); rintro e w5 ⟨rfl, hd⟩; have hb : Below w4.heap.size w4 w5 := (by obtain ⟨nd_, rfl⟩ := hd; exact pw_below_drewN (Below.refl _ _) nd_); clear hd; have LS5 := Aside0.mk hb.size; have n_ := Aside0.mk (Kd.S_below FW.out hb); clear FW; have FW := n_; clear n_; have n_ := Aside0.mk (Kd.R_below FX.out hb); clear FX; have FX := n_; clear n_; have n_ := Aside0.mk (Kd.S_below FG.out hb); clear FG; have FG := n_; clear n_; have n_ := Aside0.mk (below_step HB.out hb); clear HB hb; have HB := n_; clear n_) | (go_at_call 21; clear tk6; refine (laws_toInt64S.calls k _ _ l0 t _ ?sd0 ?sd1 At.out).mono ?_; (case sd0 => exact (Kd.C_below HR0.out HB.out)); (case sd1 => exact HC0.out); rintro e w6 ⟨v6_0, rfl, ho0, hb⟩; obtain ⟨A6_0, c6_0, rfl⟩ := Kd.R_slice ho0; have LS6 := Aside0.mk hb.size; have FTn := Aside0.mk (Kd.R_mono (ok' := fun k_ => (w5.heap.size ≤ k_ ∧ k_ < w6.heap.size) ∧ True) (Kd.R_lower (Kd.R_bound ho0) (below_size HB.out)) (fun k_ hk => ⟨⟨hk.2.1, hk.2.2.1⟩, hk.1⟩)); have n_ := Aside0.mk (Kd.S_below FW.out hb); clear FW; have FW := n_; clear n_; have n_ := Aside0.mk (Kd.R_below FX.out hb); clear FX; have FX := n_; clear n_; have n_ := Aside0.mk (Kd.S_below FG.out hb); clear FG; have FG := n_; clear n_; have n_ := Aside0.mk (below_step HB.out hb); clear HB hb; have HB := n_; clear n_; have FT := FTn; clear FTn; clear ho0) | (go_at_call 23; clear tk7; refine (laws_eqInt64S.calls k _ _ t _ _ t true _ ?sd0 ?sd1 ?sd2 ?sd3 Ae2.out).mono ?_; (case sd0 => exact (Kd.R_reads' FX.out).2.2); (case sd1 => exact (Kd.R_reads' FX.out).2.1); (case sd2 => exact (Kd.R_reads' FT.out).2.2); (case sd3 => exact (Kd.R_reads' FT.out).2.1); rintro e w7 ⟨rfl, hd⟩; have hb : Below w6.heap.size w6 w7 := (by obtain ⟨nd_, rfl⟩ := hd; exact pw_below_drewN (Below.refl _ _) nd_); clear hd; have LS7 := Aside0.mk hb.size; have n_ := Aside0.mk (Kd.S_below FW.out hb); clear FW; have FW := n_; clear n_; have n_ := Aside0.mk (Kd.R_below FX.out hb); clear FX; have FX := n_; clear n_; have n_ := Aside0.mk (Kd.S_below FG.out hb); clear FG; have FG := n_; clear n_; have n_ := Aside0.mk (Kd.R_below FT.out hb); clear FT; have FT := n_; clear n_; have n_ := Aside0.mk (below_step HB.out hb); clear HB hb; have HB := n_; clear n_; clear FT) | (go_at_call 24; clear tk8; refine (laws_markInt64S.calls k (fun k_ => some k_ = (.slice A3_0 t.length c3_0 : Value).ownBlock) (.slice A3_0 t.length c3_0) t (1) m1 t2 w _ ?sd0 ?sd1 Am1.out).mono ?_; (case sd0 => exact HB.out); (case sd1 => exact Kd.R_tight rfl FX.out); rintro e w8 ⟨rfl, hy0, hb, hkp⟩; have LS8 := Aside0.mk hkp.1; have n_ := Aside0.mk (Kd.S_step FW.out (fun k_ hk hlt => hkp.2 k_ hlt (fun hs => by have q1 := (FX.out.1 k_ hs.symm).1; have q2 := hk.1; have := LS1.out; have := LS2.out; have := LS3.out; have := LS4.out; have := LS5.out; have := LS6.out; have := LS7.out; have := LS8.out; omega))); clear FW; have FW := n_; clear n_; have n_ := Aside0.mk (Kd.S_step FG.out (fun k_ hk hlt => hkp.2 k_ hlt (fun hs => by have q1 := (FX.out.1 k_ hs.symm).1; have q2 := hk.1; have := LS1.out; have := LS2.out; have := LS3.out; have := LS4.out; have := LS5.out; have := LS6.out; have := LS7.out; have := LS8.out; omega))); clear FG; have FG := n_; clear n_; have n_ := Aside0.mk (Kd.R_mono (Kd.R_tight rfl hy0) (fun k_ hk => FX.out.1 k_ hk.symm)); clear FX; have FX := n_; clear n_; clear hy0 hkp; have n_ := Aside0.mk (hb); clear HB hb; have HB := n_; clear n_; clear FX) | (go_at_call 39; clear tk9; refine (laws_eqInt64SS.calls k _ _ gl _ _ wl true _ ?sd0 ?sd1 ?sd2 ?sd3 Ae.out).mono ?_; (case sd0 => exact (Kd.S_reads' FG.out).2.2); (case sd1 => exact (Kd.S_reads' FG.out).2.1); (case sd2 => exact (Kd.S_reads' FW.out).2.2); (case sd3 => exact (Kd.S_reads' FW.out).2.1); rintro e w9 ⟨rfl, hd⟩; have hb : Below w8.heap.size w8 w9 := (by obtain ⟨nd_, rfl⟩ := hd; exact pw_below_drewN (Below.refl _ _) nd_); clear hd; have LS9 := Aside0.mk hb.size; have n_ := Aside0.mk (Kd.S_below FW.out hb); clear FW; have FW := n_; clear n_; have n_ := Aside0.mk (Kd.S_below FG.out hb); clear FG; have FG := n_; clear n_; have n_ := Aside0.mk (below_step HB.out hb); clear HB hb; have HB := n_; clear n_) | (go_at_call 40; clear tk10; refine (laws_markInt64SS.calls k (fun k_ => (w3.heap.size ≤ k_ ∧ k_ < w4.heap.size) ∧ True) (.slice A4_0 gl.length c4_0) gl (1) q gl2 w _ ?sd0 ?sd1 Am2.out).mono ?_; (case sd0 => exact HB.out); (case sd1 => exact FG.out); rintro e w10 ⟨rfl, hy0, hb, hkp, hlen⟩; have LS10 := Aside0.mk hkp.1; have n_ := Aside0.mk (Kd.S_step FW.out (fun k_ hk hlt => hkp.2 k_ hlt (fun hs => by have q1 := hs.1; have q2 := hk.1; have := LS1.out; have := LS2.out; have := LS3.out; have := LS4.out; have := LS5.out; have := LS6.out; have := LS7.out; have := LS8.out; have := LS9.out; have := LS10.out; omega))); clear FW; have FW := n_; clear n_; have n_ := Aside0.mk hy0; clear FG; have FG := n_; clear n_ hlen; clear hy0 hkp; have n_ := Aside0.mk (hb); clear HB hb; have HB := n_; clear n_) | (go_at_call 41; clear tk11; refine calls_of_args (args' := #[.slice A4_0 gl2.length c4_0, .int .i64 (1)]) (by rw [← (Kd.S_reads' FG.out).1]) ?_; refine (laws_heldInt64SS.calls k _ _ gl2 (1) q _ ?sd0 ?sd1 Ah.out).mono ?_; (case sd0 => exact (Kd.S_reads' FG.out).2.2); (case sd1 => rw [← (Kd.S_reads' FG.out).1]; exact (Kd.S_reads' FG.out).2.1); rintro e w11 ⟨rfl, hd⟩; have hb : Below w10.heap.size w10 w11 := (by obtain ⟨nd_, rfl⟩ := hd; exact pw_below_drewN (Below.refl _ _) nd_); clear hd; have LS11 := Aside0.mk hb.size; have n_ := Aside0.mk (Kd.S_below FW.out hb); clear FW; have FW := n_; clear n_; have n_ := Aside0.mk (Kd.S_below FG.out hb); clear FG; have FG := n_; clear n_; have n_ := Aside0.mk (below_step HB.out hb); clear HB hb; have HB := n_; clear n_) | (go_at_call 21; clear tk12; refine (laws_toInt64S.calls k _ _ l0 t _ ?sd0 ?sd1 At.out).mono ?_; (case sd0 => exact (Kd.C_below HR0.out HB.out)); (case sd1 => exact HC0.out); rintro e w12 ⟨v12_0, rfl, ho0, hb⟩; obtain ⟨A12_0, c12_0, rfl⟩ := Kd.R_slice ho0; have LS12 := Aside0.mk hb.size; have FTn := Aside0.mk (Kd.R_mono (ok' := fun k_ => (w11.heap.size ≤ k_ ∧ k_ < w12.heap.size) ∧ True) (Kd.R_lower (Kd.R_bound ho0) (below_size HB.out)) (fun k_ hk => ⟨⟨hk.2.1, hk.2.2.1⟩, hk.1⟩)); have n_ := Aside0.mk (Kd.S_below FW.out hb); clear FW; have FW := n_; clear n_; have n_ := Aside0.mk (Kd.S_below FG.out hb); clear FG; have FG := n_; clear n_; have n_ := Aside0.mk (below_step HB.out hb); clear HB hb; have HB := n_; clear n_; have FT := FTn; clear FTn; clear ho0) | (go_at_call 35; clear tk13; refine (impl_ReserveSlots.calls k _ _ t (a1) gl b2 _ ?sd0 ?sd1 Ag.out).mono ?_; (case sd0 => exact (Kd.R_reads' FT.out).2.2); (case sd1 => exact (Kd.R_reads' FT.out).2.1); rintro e w13 ⟨v13_0, rfl, ho0, hb⟩; obtain ⟨A13_0, c13_0, rfl⟩ := Kd.S_slice ho0; have LS13 := Aside0.mk hb.size; have FHn := Aside0.mk (Kd.S_mono (ok' := fun k_ => (w12.heap.size ≤ k_ ∧ k_ < w13.heap.size) ∧ True) (Kd.S_lower (Kd.S_bound ho0) (below_size HB.out)) (fun k_ hk => ⟨⟨hk.2.1, hk.2.2.1⟩, hk.1⟩)); have n_ := Aside0.mk (Kd.S_below FW.out hb); clear FW; have FW := n_; clear n_; have n_ := Aside0.mk (Kd.S_below FG.out hb); clear FG; have FG := n_; clear n_; have n_ := Aside0.mk (Kd.R_below FT.out hb); clear FT; have FT := n_; clear n_; have n_ := Aside0.mk (below_step HB.out hb); clear HB hb; have HB := n_; clear n_; have FH := FHn; clear FHn; clear ho0; clear FT) | (go_at_call 39; clear tk14; refine (laws_eqInt64SS.calls k _ _ gl _ _ wl true _ ?sd0 ?sd1 ?sd2 ?sd3 Ae.out).mono ?_; (case sd0 => exact (Kd.S_reads' FH.out).2.2); (case sd1 => exact (Kd.S_reads' FH.out).2.1); (case sd2 => exact (Kd.S_reads' FW.out).2.2); (case sd3 => exact (Kd.S_reads' FW.out).2.1); rintro e w14 ⟨rfl, hd⟩; have hb : Below w13.heap.size w13 w14 := (by obtain ⟨nd_, rfl⟩ := hd; exact pw_below_drewN (Below.refl _ _) nd_); clear hd; have LS14 := Aside0.mk hb.size; have n_ := Aside0.mk (Kd.S_below FW.out hb); clear FW; have FW := n_; clear n_; have n_ := Aside0.mk (Kd.S_below FG.out hb); clear FG; have FG := n_; clear n_; have n_ := Aside0.mk (Kd.S_below FH.out hb); clear FH; have FH := n_; clear n_; have n_ := Aside0.mk (below_step HB.out hb); clear HB hb; have HB := n_; clear n_) | (go_at_call 41; clear tk15; refine calls_of_args (args' := #[.slice A4_0 gl2.length c4_0, .int .i64 (1)]) (by rw [← (Kd.S_reads' FG.out).1]) ?_; refine (laws_heldInt64SS.calls k _ _ gl2 (1) q _ ?sd0 ?sd1 Ah.out).mono ?_; (case sd0 => exact (Kd.S_reads' FG.out).2.2); (case sd1 => rw [← (Kd.S_reads' FG.out).1]; exact (Kd.S_reads' FG.out).2.1); rintro e w15 ⟨rfl, hd⟩; have hb : Below w14.heap.size w14 w15 := (by obtain ⟨nd_, rfl⟩ := hd; exact pw_below_drewN (Below.refl _ _) nd_); clear hd; have LS15 := Aside0.mk hb.size; have n_ := Aside0.mk (Kd.S_below FW.out hb); clear FW; have FW := n_; clear n_; have n_ := Aside0.mk (Kd.S_below FG.out hb); clear FG; have FG := n_; clear n_; have n_ := Aside0.mk (Kd.S_below FH.out hb); clear FH; have FH := n_; clear n_; have n_ := Aside0.mk (below_step HB.out hb); clear HB hb; have HB := n_; clear n_))
    go_ret
    exact ⟨rfl, HB.out⟩

/-- THE ONE PURE STATEMENT of laws_FnExactReserveSlots: yours. -/
def laws_FnExactReserveSlots.Pure : Prop := ∀ (l0 : List Int) (a1 : Int), l0.length ≤ maxLen → l0.length * 8 ≤ 140737488351232 → (∀ x ∈ l0, (Lit.int .i64 x).wf = true) → (Lit.int .i64 a1).wf = true → ∃ k, laws_FnExactReserveSlots.f k l0 a1 = some true
theorem laws_FnExactReserveSlots.walk (P : laws_FnExactReserveSlots.Pure) (a0 : Option Addr) (len0 cap0 : Nat) (z0 : List Int) (a1 : Int) (w : World) (w0 : (a0 = none ∧ len0 = 0 ∧ cap0 = 0 ∧ z0 = []) ∨ ∃ x, a0 = some x ∧ len0 ≤ cap0 ∧ cap0 ≤ maxLen ∧ z0.length = cap0 ∧ (∀ i, i < z0.length → w.cell? (x.add i) = some (.int .i64 (z0.getD i 0))) ∧ ∀ n ∈ z0, (Lit.int .i64 n).wf = true) (y0 : len0 * 8 ≤ 140737488351232) (w1 : (Lit.int .i64 a1).wf = true) :
    Calls Try.prog 10 #[.slice a0 len0 cap0, .int .i64 a1] w fun e w' => e = .returned (.bool true) ∧ Below w.heap.size w w' := by
  obtain ⟨l0, rfl, hr0, hm0, hw0, hc0⟩ := ReadsInt.ofRowC w0
  obtain ⟨k, h⟩ := P l0 a1 hm0 y0 hw0 w1
  refine (laws_FnExactReserveSlots.calls k _ _ l0 a1 true w (Kd.C_of_reads (d := (0 : Int)) (h1 := fun _ => rfl) hr0) hc0 h).mono ?_
  rintro e w' ⟨rfl, hd⟩
  exact ⟨rfl, hd⟩

end Go.Proofs.Ytbgiddnffchnpaa.QFnExactReserveSlots
