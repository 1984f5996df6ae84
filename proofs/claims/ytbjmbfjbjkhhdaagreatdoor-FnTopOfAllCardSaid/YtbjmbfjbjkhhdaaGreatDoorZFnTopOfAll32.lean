/- Made small by wip/pack.py: lemmas and contracts that the law's row leans on. -/
import Derived.Test.YtbjmbfjbjkhhdaaGreatDoorZFnTopOfAll27
import Derived.Test.YtbjmbfjbjkhhdaaGreatDoorZFnTopOfAll31
namespace Go.Proofs.YtbjmbfjbjkhhdaaGreatDoor.QFnTopOfAll
open Go.RowKit Go.Proofs.YtbjmbfjbjkhhdaaGreatDoorW.PrintWords Go.Proofs.YtbjmbfjbjkhhdaaGreatDoorW.PrintLast Go.Proofs.YtbjmbfjbjkhhdaaGreatDoorW.PrintMore
attribute [local go_sem] max2_int min2_int max_two min_two max_three min_three max_four min_four
set_option linter.unusedVariables false
set_option linter.unusedSimpArgs false
def spec_l01Ones.l0 : Nat → ByteArray → Int → Int → Option (Int)
 | 0, _, _, _ => none
 | k + 1, x0, x3, x4 => if x4 < (x0.size : Int) then (if 0 ≤ x4 then (spec_l01Ones.l0 k x0 (wrap64 (x3 + (((bt x0 x4) - 48) % 256))) (wrap64 (x4 + 1))) else (none)) else (some x3)
def spec_l01Ones.f (k : Nat) (a0 : ByteArray) : Option (Int) := spec_l01Ones.l0 k a0 0 0
theorem spec_l01Ones.mono_l : ∀ k, (∀ y0 y1 y2, LeO (spec_l01Ones.l0 k y0 y1 y2) (spec_l01Ones.l0 (k + 1) y0 y1 y2))
 | 0 => fun _ _ _ r h => by simp [spec_l01Ones.l0] at h
 | k + 1 => by
  have ih0 := spec_l01Ones.mono_l k
  ·intro y0 y1 y2
   unfold spec_l01Ones.l0
   repeat' first
   | (with_reducible exact ih0 _ _ _)
   | (with_reducible exact LeO.refl _)
   | (with_reducible exact LeO.none _)
   | (with_reducible refine LeO.ite ?_ ?_)
   | (with_reducible refine LeO.bind ?_ (fun _ => ?_))
   | exact ih0 _ _ _
   | exact LeO.none _
   | refine LeO.ite ?_ ?_
   | refine LeO.bind ?_ (fun _ => ?_)
theorem spec_l01Ones.mono : ∀ a0 k, LeO (spec_l01Ones.f k a0) (spec_l01Ones.f (k + 1) a0) := by
 intro a0 k
 have ih0 := spec_l01Ones.mono_l k
 unfold spec_l01Ones.f
 repeat' first
  | (with_reducible exact ih0 _ _ _)
  | (with_reducible exact LeO.refl _)
  | (with_reducible exact LeO.none _)
  | (with_reducible refine LeO.ite ?_ ?_)
  | (with_reducible refine LeO.bind ?_ (fun _ => ?_))
  | exact ih0 _ _ _
  | exact LeO.none _
  | refine LeO.ite ?_ ?_
  | refine LeO.bind ?_ (fun _ => ?_)
set_option maxHeartbeats 8000000 in
set_option maxRecDepth 100000 in
theorem spec_l01Ones.calls (k : Nat) (a0 : ByteArray) (r : Int) (w : World) (h : spec_l01Ones.f k a0 = some r) :
 Calls Tryz.prog 139 #[.string a0] w fun e w' => e = .returned (.int .i64 r) ∧ Drawn0 w w' := by
 have H : (spec_l01Ones.l0 k a0 0 0) = some r := h
 clear h
 have H' := Aside0.mk H
 clear H
 go_enter Tryz.func139, Tryz.ntmps139
 go_wp2
 go_loopg [3, 4] k (fun kq v3 v4 w' => ∃ (x3_1 : Int) (x4_1 : Int), v3 = .int .i64 x3_1 ∧ v4 = .int .i64 x4_1 ∧ Aside0 (spec_l01Ones.l0 kq a0 x3_1 x4_1 = some r) ∧ Aside0 (kq ≤ k) ∧ Drawn0 w w')
 case atStart => exact ⟨(0), (0), Qc0_, Qc0_, H', ⟨Nat.le_refl _⟩, Qd0_⟩
 case round =>
  clear H'
  try clear c1
  obtain ⟨x3_1, x4_1, rfl, rfl, HA, HK1, ⟨m1, rfl⟩⟩ := hrel
  cases gk with
  | zero => exact absurd HA.out (by simp [spec_l01Ones.l0])
  | succ k1 =>
   have H := HA.out
   clear HA
   simp only [spec_l01Ones.l0] at H
   by_cases c2 : x4_1 < (a0.size : Int)
   ·rw [if_pos c2] at H
    have c2b0 := decide_eq_true c2
    clear c2
    by_cases c3 : 0 ≤ x4_1
    ·rw [if_pos c3] at H
     have c3b0 := decide_eq_true c3
     clear c3
     have H' := Aside0.mk H
     clear H
     have p4 : 0 ≤ (x4_1 : Int) := of_decide_eq_true Qf0_
     have q4 : x4_1 < (a0.size : Int) := of_decide_eq_true Qf0_
     have hx4 := bt_at a0 x4_1
     replace p4 := eq_true p4
     replace q4 := eq_true q4
     go_wp2
     go_roundg k1
     case measure => have := HK1.out; omega
     case rel => exact ⟨(wrap64 (x3_1 + (((bt a0 x4_1) - 48) % 256))), (wrap64 (x4_1 + 1)), Qc0_, Qc0_, H', ⟨Qp0_⟩, Qd0_⟩
    ·rw [if_neg c3] at H
     exact absurd H (by simp)
   ·rw [if_neg c2] at H
    have c2b0 := decide_eq_false c2
    clear c2
    obtain rfl := Option.some.inj H
    go_wp2
    go_ret
    exact ⟨Qc0_, Qd0_⟩
def spec_l03Disparity.f (k : Nat) (a0 : ByteArray) : Option (Int) := (spec_l01Ones.f k a0).bind fun t176 => (some (wrap64 ((wrap64 (2 * t176)) - (a0.size : Int))))
theorem spec_l03Disparity.mono : ∀ a0 k, LeO (spec_l03Disparity.f k a0) (spec_l03Disparity.f (k + 1) a0) := by
 intro a0 k
 unfold spec_l03Disparity.f
 repeat' first
  | (with_reducible exact spec_l01Ones.mono _ _)
  | (with_reducible exact LeO.refl _)
  | (with_reducible exact LeO.none _)
  | (with_reducible refine LeO.ite ?_ ?_)
  | (with_reducible refine LeO.bind ?_ (fun _ => ?_))
  | exact spec_l01Ones.mono _ _
  | exact LeO.none _
  | refine LeO.ite ?_ ?_
  | refine LeO.bind ?_ (fun _ => ?_)
set_option maxHeartbeats 8000000 in
set_option maxRecDepth 100000 in
theorem spec_l03Disparity.calls (k : Nat) (a0 : ByteArray) (r : Int) (w : World) (h : spec_l03Disparity.f k a0 = some r) :
 Calls Tryz.prog 105 #[.string a0] w fun e w' => e = .returned (.int .i64 r) ∧ Drawn0 w w' := by
 have H : ((spec_l01Ones.f k a0).bind fun t176 => (some (wrap64 ((wrap64 (2 * t176)) - (a0.size : Int))))) = some r := h
 clear h
 replace H := Option.bind_eq_some_iff.mp H
 obtain ⟨t176, A20, H⟩ := H
 try dsimp only at H
 have A2 := Aside0.mk A20
 clear A20
 obtain rfl := Option.some.inj H
 go_enter Tryz.func105, Tryz.ntmps105
 go_wp2_with (first | ((with_reducible refine gate_callee (f := 139) rfl ?_); refine goesL_ (some 4) rfl rfl Tryz.func139 Qi0_ rfl #[.string a0] rfl Qb0_ ?_; (with_reducible refine (spec_l01Ones.calls k a0 t176 _ A2.out).mono ?_); rintro e w' ⟨rfl, ⟨nd, rfl⟩⟩; refine ⟨_, rfl, ?_⟩))
 go_ret
 exact ⟨Qc0_, Qd0_⟩
def spec_l01Bits.l0 : Nat → ByteArray → Int → Option (Bool)
 | 0, _, _ => none
 | k + 1, x0, x3 => if x3 < (x0.size : Int) then (if 0 ≤ x3 then (if (bt x0 x3) = 48 then (spec_l01Bits.l0 k x0 (wrap64 (x3 + 1))) else (if (bt x0 x3) = 49 then (spec_l01Bits.l0 k x0 (wrap64 (x3 + 1))) else (some false))) else (none)) else (some (decide ((x0.size : Int) ≤ 400)))
def spec_l01Bits.f (k : Nat) (a0 : ByteArray) : Option (Bool) := spec_l01Bits.l0 k a0 0
theorem spec_l01Bits.mono_l : ∀ k, (∀ y0 y1, LeO (spec_l01Bits.l0 k y0 y1) (spec_l01Bits.l0 (k + 1) y0 y1))
 | 0 => fun _ _ r h => by simp [spec_l01Bits.l0] at h
 | k + 1 => by
  have ih0 := spec_l01Bits.mono_l k
  ·intro y0 y1
   unfold spec_l01Bits.l0
   repeat' first
   | (with_reducible exact ih0 _ _)
   | (with_reducible exact LeO.refl _)
   | (with_reducible exact LeO.none _)
   | (with_reducible refine LeO.ite ?_ ?_)
   | (with_reducible refine LeO.bind ?_ (fun _ => ?_))
   | exact ih0 _ _
   | exact LeO.none _
   | refine LeO.ite ?_ ?_
   | refine LeO.bind ?_ (fun _ => ?_)
theorem spec_l01Bits.mono : ∀ a0 k, LeO (spec_l01Bits.f k a0) (spec_l01Bits.f (k + 1) a0) := by
 intro a0 k
 have ih0 := spec_l01Bits.mono_l k
 unfold spec_l01Bits.f
 repeat' first
  | (with_reducible exact ih0 _ _)
  | (with_reducible exact LeO.refl _)
  | (with_reducible exact LeO.none _)
  | (with_reducible refine LeO.ite ?_ ?_)
  | (with_reducible refine LeO.bind ?_ (fun _ => ?_))
  | exact ih0 _ _
  | exact LeO.none _
  | refine LeO.ite ?_ ?_
  | refine LeO.bind ?_ (fun _ => ?_)
set_option maxHeartbeats 8000000 in
set_option maxRecDepth 100000 in
theorem spec_l01Bits.calls (k : Nat) (a0 : ByteArray) (r : Bool) (w : World) (h : spec_l01Bits.f k a0 = some r) :
 Calls Tryz.prog 47 #[.string a0] w fun e w' => e = .returned (.bool r) ∧ Drawn0 w w' := by
 have H : (spec_l01Bits.l0 k a0 0) = some r := h
 clear h
 have H' := Aside0.mk H
 clear H
 go_enter Tryz.func47, Tryz.ntmps47
 go_wp2
 go_loopg [3] k (fun kq v3 w' => ∃ (x3_1 : Int), v3 = .int .i64 x3_1 ∧ Aside0 (spec_l01Bits.l0 kq a0 x3_1 = some r) ∧ Aside0 (kq ≤ k) ∧ Drawn0 w w')
 case atStart => exact ⟨(0), Qc0_, H', ⟨Nat.le_refl _⟩, Qd0_⟩
 case round =>
  clear H'
  obtain ⟨x3_1, rfl, HA, HK1, ⟨m1, rfl⟩⟩ := hrel
  cases gk with
  | zero => exact absurd HA.out (by simp [spec_l01Bits.l0])
  | succ k1 =>
   have H := HA.out
   clear HA
   simp only [spec_l01Bits.l0] at H
   by_cases c2 : x3_1 < (a0.size : Int)
   ·rw [if_pos c2] at H
    have c2b0 := decide_eq_true c2
    clear c2
    by_cases c3 : 0 ≤ x3_1
    ·rw [if_pos c3] at H
     have c3b0 := decide_eq_true c3
     clear c3
     by_cases c5 : (bt a0 x3_1) = 48
     ·rw [if_pos c5] at H
      have c5b0 := beq_iff_eq.mpr c5
      have c5b1 := bne_eq_false_iff_eq.mpr c5
      clear c5
      have H' := Aside0.mk H
      clear H
      have p4 : 0 ≤ (x3_1 : Int) := of_decide_eq_true Qf0_
      have q4 : x3_1 < (a0.size : Int) := of_decide_eq_true Qf0_
      have hx4 := bt_at a0 x3_1
      replace p4 := eq_true p4
      replace q4 := eq_true q4
      go_wp2
      go_roundg k1
      case measure => have := HK1.out; omega
      case rel => exact ⟨(wrap64 (x3_1 + 1)), Qc0_, H', ⟨Qp0_⟩, Qd0_⟩
     ·rw [if_neg c5] at H
      have c5b0 := beq_eq_false_iff_ne.mpr c5
      have c5b1 := bne_iff_ne.mpr c5
      by_cases c7 : (bt a0 x3_1) = 49
      ·rw [if_pos c7] at H
       have c7b0 := beq_iff_eq.mpr c7
       have c7b1 := bne_eq_false_iff_eq.mpr c7
       clear c7
       have H' := Aside0.mk H
       clear H
       have p4 : 0 ≤ (x3_1 : Int) := of_decide_eq_true Qf0_
       have q4 : x3_1 < (a0.size : Int) := of_decide_eq_true Qf0_
       have hx4 := bt_at a0 x3_1
       replace p4 := eq_true p4
       replace q4 := eq_true q4
       have p6 : 0 ≤ (x3_1 : Int) := of_decide_eq_true Qf0_
       have q6 : x3_1 < (a0.size : Int) := of_decide_eq_true Qf0_
       have hx6 := bt_at a0 x3_1
       replace p6 := eq_true p6
       replace q6 := eq_true q6
       go_wp2
       go_roundg k1
       case measure => have := HK1.out; omega
       case rel => exact ⟨(wrap64 (x3_1 + 1)), Qc0_, H', ⟨Qp0_⟩, Qd0_⟩
      ·rw [if_neg c7] at H
       have c7b0 := beq_eq_false_iff_ne.mpr c7
       have c7b1 := bne_iff_ne.mpr c7
       obtain rfl := Option.some.inj H
       have p4 : 0 ≤ (x3_1 : Int) := of_decide_eq_true Qf0_
       have q4 : x3_1 < (a0.size : Int) := of_decide_eq_true Qf0_
       have hx4 := bt_at a0 x3_1
       replace p4 := eq_true p4
       replace q4 := eq_true q4
       have p6 : 0 ≤ (x3_1 : Int) := of_decide_eq_true Qf0_
       have q6 : x3_1 < (a0.size : Int) := of_decide_eq_true Qf0_
       have hx6 := bt_at a0 x3_1
       replace p6 := eq_true p6
       replace q6 := eq_true q6
       go_wp2
       go_ret
       exact ⟨Qc0_, Qd0_⟩
    ·rw [if_neg c3] at H
     exact absurd H (by simp)
   ·rw [if_neg c2] at H
    have c2b0 := decide_eq_false c2
    clear c2
    obtain rfl := Option.some.inj H
    go_wp2
    go_ret
    exact ⟨Qc0_, Qd0_⟩
def spec_l03Index.l0 : Nat → List ByteArray → ByteArray → Int → Option (Int)
 | 0, _, _, _ => none
 | k + 1, x0, x1, x5 => if x5 < (x0.length : Int) then (if 0 ≤ x5 then (if (rdOf ByteArray.empty x0 x5).toList = x1.toList then (some x5) else (spec_l03Index.l0 k x0 x1 (wrap64 (x5 + 1)))) else (none)) else (some (-1))
def spec_l03Index.f (k : Nat) (l0 : List ByteArray) (a1 : ByteArray) : Option (Int) := spec_l03Index.l0 k l0 a1 0
theorem spec_l03Index.mono_l : ∀ k, (∀ y0 y1 y2, LeO (spec_l03Index.l0 k y0 y1 y2) (spec_l03Index.l0 (k + 1) y0 y1 y2))
 | 0 => fun _ _ _ r h => by simp [spec_l03Index.l0] at h
 | k + 1 => by
  have ih0 := spec_l03Index.mono_l k
  ·intro y0 y1 y2
   unfold spec_l03Index.l0
   repeat' first
   | (with_reducible exact ih0 _ _ _)
   | (with_reducible exact LeO.refl _)
   | (with_reducible exact LeO.none _)
   | (with_reducible refine LeO.ite ?_ ?_)
   | (with_reducible refine LeO.bind ?_ (fun _ => ?_))
   | exact ih0 _ _ _
   | exact LeO.none _
   | refine LeO.ite ?_ ?_
   | refine LeO.bind ?_ (fun _ => ?_)
theorem spec_l03Index.mono : ∀ a0 a1 k, LeO (spec_l03Index.f k a0 a1) (spec_l03Index.f (k + 1) a0 a1) := by
 intro a0 a1 k
 have ih0 := spec_l03Index.mono_l k
 unfold spec_l03Index.f
 repeat' first
  | (with_reducible exact ih0 _ _ _)
  | (with_reducible exact LeO.refl _)
  | (with_reducible exact LeO.none _)
  | (with_reducible refine LeO.ite ?_ ?_)
  | (with_reducible refine LeO.bind ?_ (fun _ => ?_))
  | exact ih0 _ _ _
  | exact LeO.none _
  | refine LeO.ite ?_ ?_
  | refine LeO.bind ?_ (fun _ => ?_)
set_option maxHeartbeats 8000000 in
set_option maxRecDepth 100000 in
theorem spec_l03Index.calls (k : Nat) (A0 : Option Addr) (c0 : Nat) (l0 : List ByteArray) (a1 : ByteArray) (r : Int) (w : World) (hr0 : Kd.C Kd.string w A0 l0.length l0) (hc0 : l0.length ≤ c0) (h : spec_l03Index.f k l0 a1 = some r) :
 Calls Tryz.prog 72 #[.slice A0 l0.length c0, .string a1] w fun e w' => e = .returned (.int .i64 r) ∧ Drawn0 w w' := by
 have HR0 := Aside0.mk hr0
 have HC0 := Aside0.mk hc0
 clear hr0 hc0
 have H : (spec_l03Index.l0 k l0 a1 0) = some r := h
 clear h
 have H' := Aside0.mk H
 clear H
 go_enter Tryz.func72, Tryz.ntmps72
 go_wp2
 go_loopg [5] k (fun kq v5 w' => ∃ (x5_1 : Int), v5 = .int .i64 x5_1 ∧ Aside0 (spec_l03Index.l0 kq l0 a1 x5_1 = some r) ∧ Aside0 (kq ≤ k) ∧ Drawn0 w w')
 case atStart => exact ⟨(0), Qc0_, H', ⟨Nat.le_refl _⟩, Qd0_⟩
 case round =>
  clear H'
  try clear p2
  obtain ⟨x5_1, rfl, HA, HK1, ⟨m1, rfl⟩⟩ := hrel
  cases gk with
  | zero => exact absurd HA.out (by simp [spec_l03Index.l0])
  | succ k1 =>
   have H := HA.out
   clear HA
   simp only [spec_l03Index.l0] at H
   by_cases c3 : x5_1 < (l0.length : Int)
   ·rw [if_pos c3] at H
    have c3b0 := decide_eq_true c3
    clear c3
    by_cases c4 : 0 ≤ x5_1
    ·rw [if_pos c4] at H
     have c4b0 := decide_eq_true c4
     clear c4
     by_cases c5 : (rdOf ByteArray.empty l0 x5_1).toList = a1.toList
     ·rw [if_pos c5] at H
      have c5b0 := beq_iff_eq.mpr c5
      have c5b1 := bne_eq_false_iff_eq.mpr c5
      clear c5
      obtain rfl := Option.some.inj H
      have p177 : 0 ≤ (x5_1 : Int) := of_decide_eq_true Qf0_
      have q177 : x5_1 < (l0.length : Int) := of_decide_eq_true Qf0_
      obtain ⟨ad177, e177, hx177_0⟩ := Kd.at_string HR0.out x5_1 p177 q177
      cases e177
      replace p177 := eq_true p177
      replace q177 := eq_true q177
      go_wp2
      go_ret
      exact ⟨Qc0_, Qd0_⟩
     ·rw [if_neg c5] at H
      have c5b0 := beq_eq_false_iff_ne.mpr c5
      have c5b1 := bne_iff_ne.mpr c5
      have H' := Aside0.mk H
      clear H
      have p177 : 0 ≤ (x5_1 : Int) := of_decide_eq_true Qf0_
      have q177 : x5_1 < (l0.length : Int) := of_decide_eq_true Qf0_
      obtain ⟨ad177, e177, hx177_0⟩ := Kd.at_string HR0.out x5_1 p177 q177
      cases e177
      replace p177 := eq_true p177
      replace q177 := eq_true q177
      go_wp2
      go_roundg k1
      case measure => have := HK1.out; omega
      case rel => exact ⟨(wrap64 (x5_1 + 1)), Qc0_, H', ⟨Qp0_⟩, Qd0_⟩
    ·rw [if_neg c4] at H
     exact absurd H (by simp)
   ·rw [if_neg c3] at H
    have c3b0 := decide_eq_false c3
    clear c3
    obtain rfl := Option.some.inj H
    go_wp2
    go_ret
    exact ⟨Qc0_, Qd0_⟩
def spec_l03Words.l0 : Nat → List ByteArray → Int → Int → Int → Option (Bool)
 | 0, _, _, _, _ => none
 | k + 1, l0, a1, a2, i => if i < (l0.length : Int) then (if 0 ≤ i then ((spec_l03Disparity.f k (rdOf ByteArray.empty l0 i)).bind fun t1 => ((spec_l01Bits.f k (rdOf ByteArray.empty l0 i)).bind fun t2 => (if t2 = true then (if ((rdOf ByteArray.empty l0 i).size : Int) = a1 then (if t1 = 0 ∨ t1 = a2 then ((spec_l03Index.f k (l0.take i.toNat) (rdOf ByteArray.empty l0 i)).bind fun t3 => (if 0 ≤ t3 then (some false) else (spec_l03Words.l0 k l0 a1 a2 (wrap64 (i + 1))))) else (some false)) else (some false)) else (some false)))) else (none)) else (some true)
def spec_l03Words.f (k : Nat) (l0 : List ByteArray) (a1 : Int) (a2 : Int) : Option (Bool) := spec_l03Words.l0 k l0 a1 a2 0
theorem spec_l03Words.mono_l : ∀ k, (∀ y0 y1 y2 y3, LeO (spec_l03Words.l0 k y0 y1 y2 y3) (spec_l03Words.l0 (k + 1) y0 y1 y2 y3))
 | 0 => fun _ _ _ _ r h => by simp [spec_l03Words.l0] at h
 | k + 1 => by
  have ih := spec_l03Words.mono_l k
  intros
  unfold spec_l03Words.l0
  repeat' first
   | (with_reducible exact ih _ _ _ _)
   | (with_reducible exact spec_l01Bits.mono _ _)
   | (with_reducible exact spec_l03Disparity.mono _ _)
   | (with_reducible exact spec_l03Index.mono _ _ _)
   | (with_reducible exact LeO.refl _)
   | (with_reducible exact LeO.none _)
   | (with_reducible refine LeO.ite ?_ ?_)
   | (with_reducible refine LeO.bind ?_ (fun _ => ?_))
theorem spec_l03Words.mono : ∀ a0 a1 a2 k, LeO (spec_l03Words.f k a0 a1 a2) (spec_l03Words.f (k + 1) a0 a1 a2) := fun _ _ _ k => spec_l03Words.mono_l k _ _ _ _
set_option maxHeartbeats 8000000 in
set_option maxRecDepth 100000 in
theorem spec_l03Words.calls (k : Nat) (A0 : Option Addr) (c0 : Nat) (l0 : List ByteArray) (a1 : Int) (a2 : Int) (r : Bool) (w : World) (hr0 : Kd.C Kd.string w A0 l0.length l0) (hc0 : l0.length ≤ c0) (h : spec_l03Words.f k l0 a1 a2 = some r) :
 Calls Tryz.prog 71 #[.slice A0 l0.length c0, .int .i64 a1, .int .i64 a2] w fun e w' => e = .returned (.bool r) ∧ Drawn0 w w' := by
 have HR0 := Aside0.mk hr0
 have HC0 := Aside0.mk hc0
 have H' := Aside0.mk (show spec_l03Words.l0 k l0 a1 a2 0 = some r from h)
 clear hr0 hc0 h
 go_enter Tryz.func71, Tryz.ntmps71
 go_wp2
 go_loopg [7] k (fun kq v7 w' => ∃ (i : Int), v7 = .int .i64 i ∧ Aside0 (spec_l03Words.l0 kq l0 a1 a2 i = some r) ∧ Aside0 (kq ≤ k) ∧ Drawn0 w w')
 case atStart => exact ⟨0, Qc0_, H', ⟨Nat.le_refl _⟩, Qd0_⟩
 case round =>
  clear H'
  obtain ⟨i, rfl, HA, HK1, ⟨m1, rfl⟩⟩ := hrel
  cases gk with
  | zero => exact absurd HA.out (by simp [spec_l03Words.l0])
  | succ k1 =>
   have H := HA.out
   clear HA
   simp only [spec_l03Words.l0] at H
   by_cases d1 : i < (l0.length : Int)
   rotate_left
   ·rw [if_neg d1] at H
    obtain rfl := Option.some.inj H
    have d1b0 : decide (i < (l0.length : Int)) = false := decide_eq_false d1
    clear d1
    go_wp2
    go_ret
    exact ⟨Qc0_, Qd0_⟩
   rw [if_pos d1] at H
   have d1b0 : decide (i < (l0.length : Int)) = true := decide_eq_true d1
   by_cases d2 : 0 ≤ i
   rotate_left
   ·rw [if_neg d2] at H
    cases H
   rw [if_pos d2] at H
   have hcut : ∀ W : World, (Instr.slice 23 (.slice A0 l0.length c0) none (some (.int .i64 i)) none).run Tryz.prog W = .ok (.slice A0 (l0.take i.toNat).length c0) W := by
    obtain ⟨i0, hi0, _, hsz, _⟩ := info_parts info9
    exact (print_take_of (P := Tryz.prog) Value.string (⟨#[]⟩ : ByteArray) 23 9 .i64 Tryz.underlying23 hi0 hsz A0 c0 l0 i d2 (by omega) HC0.out).1
   have hta : Kd.C Kd.string w A0 (l0.take i.toNat).length (l0.take i.toNat) ∧ (l0.take i.toNat).length ≤ c0 := by
    obtain ⟨i0, hi0, _, hsz, _⟩ := info_parts info9
    obtain ⟨_, h2, h3⟩ := print_take_of (P := Tryz.prog) Value.string (⟨#[]⟩ : ByteArray) 23 9 .i64 Tryz.underlying23 hi0 hsz A0 c0 l0 i d2 (by omega) HC0.out
    exact ⟨Kd.C_of_reads (h1 := fun _ => rfl) (h2 _ (Kd.reads_of_C HR0.out)), h3⟩
   have HRt := Aside0.mk hta.1
   have HCt := Aside0.mk hta.2
   clear hta
   obtain ⟨ad1, e1, hx1⟩ := Kd.at_string HR0.out i d2 d1
   cases e1
   have p1 := eq_true d2
   have q1 := eq_true d1
   clear d1 d2
   obtain ⟨x, hx⟩ : ∃ x : ByteArray, x = rdOf ByteArray.empty l0 i := ⟨_, rfl⟩
   rw [← hx] at H hx1
   clear hx
   obtain ⟨t1, A1, H⟩ := Option.bind_eq_some_iff.mp H
   have A1_ := Aside0.mk A1
   clear A1
   obtain ⟨t2, A2, H⟩ := Option.bind_eq_some_iff.mp H
   have A2_ := Aside0.mk A2
   clear A2
   cases t2 with
   | false =>
    try dsimp only at H
    obtain rfl := Option.some.inj H
    go_wp2_with ((go_at_call 105; (with_reducible refine (spec_l03Disparity.calls k1 x t1 _ A1_.out).mono ?_); rintro e w1_ ⟨rfl, ⟨nd1, rfl⟩⟩))
    go_quiet (first | (go_at_call 105; (with_reducible refine (spec_l03Disparity.calls k1 x t1 _ A1_.out).mono ?_); rintro e w1_ ⟨rfl, ⟨nd1, rfl⟩⟩; (try first | exact ⟨rfl, _, World.drewN_drewN _ _ _⟩ | exact ⟨rfl, _, Eq.trans (World.drewN_drewN _ _ _) (congrArg (World.drewN _) (Nat.add_assoc _ _ _))⟩)) | (go_at_call 47; (with_reducible refine (spec_l01Bits.calls k1 x false _ A2_.out).mono ?_); rintro e w2_ ⟨rfl, ⟨nd2, rfl⟩⟩; (try first | exact ⟨rfl, _, World.drewN_drewN _ _ _⟩ | exact ⟨rfl, _, Eq.trans (World.drewN_drewN _ _ _) (congrArg (World.drewN _) (Nat.add_assoc _ _ _))⟩)))
    go_wp2
    go_ret
    exact ⟨Qc0_, Qd0_⟩
   | true =>
   rw [if_pos rfl] at H
   by_cases d3 : (x.size : Int) = a1
   rotate_left
   ·rw [if_neg d3] at H
    obtain rfl := Option.some.inj H
    have d3b0 : ((x.size : Int) == a1) = false := beq_eq_false_iff_ne.mpr d3
    have d3b1 : ((x.size : Int) != a1) = true := bne_iff_ne.mpr d3
    clear d3
    go_wp2_with ((go_at_call 105; (with_reducible refine (spec_l03Disparity.calls k1 x t1 _ A1_.out).mono ?_); rintro e w1_ ⟨rfl, ⟨nd1, rfl⟩⟩))
    go_quiet (first | (go_at_call 105; (with_reducible refine (spec_l03Disparity.calls k1 x t1 _ A1_.out).mono ?_); rintro e w1_ ⟨rfl, ⟨nd1, rfl⟩⟩; (try first | exact ⟨rfl, _, World.drewN_drewN _ _ _⟩ | exact ⟨rfl, _, Eq.trans (World.drewN_drewN _ _ _) (congrArg (World.drewN _) (Nat.add_assoc _ _ _))⟩)) | (go_at_call 47; (with_reducible refine (spec_l01Bits.calls k1 x true _ A2_.out).mono ?_); rintro e w2_ ⟨rfl, ⟨nd2, rfl⟩⟩; (try first | exact ⟨rfl, _, World.drewN_drewN _ _ _⟩ | exact ⟨rfl, _, Eq.trans (World.drewN_drewN _ _ _) (congrArg (World.drewN _) (Nat.add_assoc _ _ _))⟩)))
    go_wp2
    go_ret
    exact ⟨Qc0_, Qd0_⟩
   rw [if_pos d3] at H
   have d3b0 : ((x.size : Int) == a1) = true := beq_iff_eq.mpr d3
   have d3b1 : ((x.size : Int) != a1) = false := bne_eq_false_iff_eq.mpr d3
   clear d3
   by_cases d4 : t1 = 0
   ·rw [if_pos (.inl d4)] at H
    have d4b0 : (t1 == 0) = true := beq_iff_eq.mpr d4
    have d4b1 : (t1 != 0) = false := bne_eq_false_iff_eq.mpr d4
    clear d4
    obtain ⟨t3, A3, H⟩ := Option.bind_eq_some_iff.mp H
    have A3_ := Aside0.mk A3
    clear A3
    by_cases d6 : 0 ≤ t3
    ·rw [if_pos d6] at H
     obtain rfl := Option.some.inj H
     have d6b0 : decide (0 ≤ t3) = true := decide_eq_true d6
     clear d6
     go_wp2_with ((go_at_call 105; (with_reducible refine (spec_l03Disparity.calls k1 x t1 _ A1_.out).mono ?_); rintro e w1_ ⟨rfl, ⟨nd1, rfl⟩⟩))
     go_quiet (first | (go_at_call 105; (with_reducible refine (spec_l03Disparity.calls k1 x t1 _ A1_.out).mono ?_); rintro e w1_ ⟨rfl, ⟨nd1, rfl⟩⟩; (try first | exact ⟨rfl, _, World.drewN_drewN _ _ _⟩ | exact ⟨rfl, _, Eq.trans (World.drewN_drewN _ _ _) (congrArg (World.drewN _) (Nat.add_assoc _ _ _))⟩)) | (go_at_call 47; (with_reducible refine (spec_l01Bits.calls k1 x true _ A2_.out).mono ?_); rintro e w2_ ⟨rfl, ⟨nd2, rfl⟩⟩; (try first | exact ⟨rfl, _, World.drewN_drewN _ _ _⟩ | exact ⟨rfl, _, Eq.trans (World.drewN_drewN _ _ _) (congrArg (World.drewN _) (Nat.add_assoc _ _ _))⟩)) | (go_at_call 72; rw [← List.length_take]; (with_reducible refine (spec_l03Index.calls k1 _ _ (l0.take i.toNat) x t3 _ ?s1 ?s2 A3_.out).mono ?_); (case s1 => exact Qn1_); (case s2 => exact HCt.out); rintro e w3_ ⟨rfl, ⟨nd3, rfl⟩⟩; (try first | exact ⟨rfl, _, World.drewN_drewN _ _ _⟩ | exact ⟨rfl, _, Eq.trans (World.drewN_drewN _ _ _) (congrArg (World.drewN _) (Nat.add_assoc _ _ _))⟩)))
     go_wp2
     go_ret
     exact ⟨Qc0_, Qd0_⟩
    ·rw [if_neg d6] at H
     have d6b0 : decide (0 ≤ t3) = false := decide_eq_false d6
     clear d6
     have H' := Aside0.mk H
     clear H
     go_wp2_with ((go_at_call 105; (with_reducible refine (spec_l03Disparity.calls k1 x t1 _ A1_.out).mono ?_); rintro e w1_ ⟨rfl, ⟨nd1, rfl⟩⟩))
     go_quiet (first | (go_at_call 105; (with_reducible refine (spec_l03Disparity.calls k1 x t1 _ A1_.out).mono ?_); rintro e w1_ ⟨rfl, ⟨nd1, rfl⟩⟩; (try first | exact ⟨rfl, _, World.drewN_drewN _ _ _⟩ | exact ⟨rfl, _, Eq.trans (World.drewN_drewN _ _ _) (congrArg (World.drewN _) (Nat.add_assoc _ _ _))⟩)) | (go_at_call 47; (with_reducible refine (spec_l01Bits.calls k1 x true _ A2_.out).mono ?_); rintro e w2_ ⟨rfl, ⟨nd2, rfl⟩⟩; (try first | exact ⟨rfl, _, World.drewN_drewN _ _ _⟩ | exact ⟨rfl, _, Eq.trans (World.drewN_drewN _ _ _) (congrArg (World.drewN _) (Nat.add_assoc _ _ _))⟩)) | (go_at_call 72; rw [← List.length_take]; (with_reducible refine (spec_l03Index.calls k1 _ _ (l0.take i.toNat) x t3 _ ?s1 ?s2 A3_.out).mono ?_); (case s1 => exact Qn1_); (case s2 => exact HCt.out); rintro e w3_ ⟨rfl, ⟨nd3, rfl⟩⟩; (try first | exact ⟨rfl, _, World.drewN_drewN _ _ _⟩ | exact ⟨rfl, _, Eq.trans (World.drewN_drewN _ _ _) (congrArg (World.drewN _) (Nat.add_assoc _ _ _))⟩)))
     go_wp2
     go_roundg k1
     case measure => have := HK1.out; omega
     case rel => exact ⟨(wrap64 (i + 1)), Qc0_, H', ⟨Qp0_⟩, Qd0_⟩
   have d4b0 : (t1 == 0) = false := beq_eq_false_iff_ne.mpr d4
   have d4b1 : (t1 != 0) = true := bne_iff_ne.mpr d4
   by_cases d5 : t1 = a2
   ·rw [if_pos (.inr d5)] at H
    have d5b0 : (t1 == a2) = true := beq_iff_eq.mpr d5
    have d5b1 : (t1 != a2) = false := bne_eq_false_iff_eq.mpr d5
    clear d4 d5
    obtain ⟨t3, A3, H⟩ := Option.bind_eq_some_iff.mp H
    have A3_ := Aside0.mk A3
    clear A3
    by_cases d6 : 0 ≤ t3
    ·rw [if_pos d6] at H
     obtain rfl := Option.some.inj H
     have d6b0 : decide (0 ≤ t3) = true := decide_eq_true d6
     clear d6
     go_wp2_with ((go_at_call 105; (with_reducible refine (spec_l03Disparity.calls k1 x t1 _ A1_.out).mono ?_); rintro e w1_ ⟨rfl, ⟨nd1, rfl⟩⟩))
     go_quiet (first | (go_at_call 105; (with_reducible refine (spec_l03Disparity.calls k1 x t1 _ A1_.out).mono ?_); rintro e w1_ ⟨rfl, ⟨nd1, rfl⟩⟩; (try first | exact ⟨rfl, _, World.drewN_drewN _ _ _⟩ | exact ⟨rfl, _, Eq.trans (World.drewN_drewN _ _ _) (congrArg (World.drewN _) (Nat.add_assoc _ _ _))⟩)) | (go_at_call 47; (with_reducible refine (spec_l01Bits.calls k1 x true _ A2_.out).mono ?_); rintro e w2_ ⟨rfl, ⟨nd2, rfl⟩⟩; (try first | exact ⟨rfl, _, World.drewN_drewN _ _ _⟩ | exact ⟨rfl, _, Eq.trans (World.drewN_drewN _ _ _) (congrArg (World.drewN _) (Nat.add_assoc _ _ _))⟩)) | (go_at_call 72; rw [← List.length_take]; (with_reducible refine (spec_l03Index.calls k1 _ _ (l0.take i.toNat) x t3 _ ?s1 ?s2 A3_.out).mono ?_); (case s1 => exact Qn1_); (case s2 => exact HCt.out); rintro e w3_ ⟨rfl, ⟨nd3, rfl⟩⟩; (try first | exact ⟨rfl, _, World.drewN_drewN _ _ _⟩ | exact ⟨rfl, _, Eq.trans (World.drewN_drewN _ _ _) (congrArg (World.drewN _) (Nat.add_assoc _ _ _))⟩)))
     go_wp2
     go_ret
     exact ⟨Qc0_, Qd0_⟩
    ·rw [if_neg d6] at H
     have d6b0 : decide (0 ≤ t3) = false := decide_eq_false d6
     clear d6
     have H' := Aside0.mk H
     clear H
     go_wp2_with ((go_at_call 105; (with_reducible refine (spec_l03Disparity.calls k1 x t1 _ A1_.out).mono ?_); rintro e w1_ ⟨rfl, ⟨nd1, rfl⟩⟩))
     go_quiet (first | (go_at_call 105; (with_reducible refine (spec_l03Disparity.calls k1 x t1 _ A1_.out).mono ?_); rintro e w1_ ⟨rfl, ⟨nd1, rfl⟩⟩; (try first | exact ⟨rfl, _, World.drewN_drewN _ _ _⟩ | exact ⟨rfl, _, Eq.trans (World.drewN_drewN _ _ _) (congrArg (World.drewN _) (Nat.add_assoc _ _ _))⟩)) | (go_at_call 47; (with_reducible refine (spec_l01Bits.calls k1 x true _ A2_.out).mono ?_); rintro e w2_ ⟨rfl, ⟨nd2, rfl⟩⟩; (try first | exact ⟨rfl, _, World.drewN_drewN _ _ _⟩ | exact ⟨rfl, _, Eq.trans (World.drewN_drewN _ _ _) (congrArg (World.drewN _) (Nat.add_assoc _ _ _))⟩)) | (go_at_call 72; rw [← List.length_take]; (with_reducible refine (spec_l03Index.calls k1 _ _ (l0.take i.toNat) x t3 _ ?s1 ?s2 A3_.out).mono ?_); (case s1 => exact Qn1_); (case s2 => exact HCt.out); rintro e w3_ ⟨rfl, ⟨nd3, rfl⟩⟩; (try first | exact ⟨rfl, _, World.drewN_drewN _ _ _⟩ | exact ⟨rfl, _, Eq.trans (World.drewN_drewN _ _ _) (congrArg (World.drewN _) (Nat.add_assoc _ _ _))⟩)))
     go_wp2
     go_roundg k1
     case measure => have := HK1.out; omega
     case rel => exact ⟨(wrap64 (i + 1)), Qc0_, H', ⟨Qp0_⟩, Qd0_⟩
   ·rw [if_neg (fun h => h.elim d4 d5)] at H
    obtain rfl := Option.some.inj H
    have d5b0 : (t1 == a2) = false := beq_eq_false_iff_ne.mpr d5
    have d5b1 : (t1 != a2) = true := bne_iff_ne.mpr d5
    clear d4 d5
    go_wp2_with ((go_at_call 105; (with_reducible refine (spec_l03Disparity.calls k1 x t1 _ A1_.out).mono ?_); rintro e w1_ ⟨rfl, ⟨nd1, rfl⟩⟩))
    go_quiet (first | (go_at_call 105; (with_reducible refine (spec_l03Disparity.calls k1 x t1 _ A1_.out).mono ?_); rintro e w1_ ⟨rfl, ⟨nd1, rfl⟩⟩; (try first | exact ⟨rfl, _, World.drewN_drewN _ _ _⟩ | exact ⟨rfl, _, Eq.trans (World.drewN_drewN _ _ _) (congrArg (World.drewN _) (Nat.add_assoc _ _ _))⟩)) | (go_at_call 47; (with_reducible refine (spec_l01Bits.calls k1 x true _ A2_.out).mono ?_); rintro e w2_ ⟨rfl, ⟨nd2, rfl⟩⟩; (try first | exact ⟨rfl, _, World.drewN_drewN _ _ _⟩ | exact ⟨rfl, _, Eq.trans (World.drewN_drewN _ _ _) (congrArg (World.drewN _) (Nat.add_assoc _ _ _))⟩)))
    go_wp2
    go_ret
    exact ⟨Qc0_, Qd0_⟩
theorem u64_small {d : Int} (h : 0 ≤ d) (h2 : d ≤ 64) : IntKind.u64.wrap d = d := by
 simp only [IntKind.wrap, IntKind.bits, IntKind.signed]
 simp
 omega
def spec_l03Is.l0 : Nat → List ByteArray → List ByteArray → Int → Int → Option (Bool)
 | 0, _, _, _, _ => none
 | k + 1, mi, pl, n, i => if i < n then (if 0 ≤ i then (if i < (mi.length : Int) then ((spec_l03Index.f k pl (rdOf ByteArray.empty mi i)).bind fun t => (if 0 ≤ t then (if t = i then (spec_l03Is.l0 k mi pl n (wrap64 (i + 1))) else (some false)) else (spec_l03Is.l0 k mi pl n (wrap64 (i + 1))))) else (none)) else (none)) else (some true)
theorem spec_l03Is.mono_l : ∀ k, (∀ y0 y1 y2 y3, LeO (spec_l03Is.l0 k y0 y1 y2 y3) (spec_l03Is.l0 (k + 1) y0 y1 y2 y3))
 | 0 => fun _ _ _ _ r h => by simp [spec_l03Is.l0] at h
 | k + 1 => by
  have ih := spec_l03Is.mono_l k
  intros
  unfold spec_l03Is.l0
  repeat' first
   | (with_reducible exact ih _ _ _ _)
   | (with_reducible exact spec_l03Index.mono _ _ _)
   | (with_reducible exact LeO.refl _)
   | (with_reducible exact LeO.none _)
   | (with_reducible refine LeO.ite ?_ ?_)
   | (with_reducible refine LeO.bind ?_ (fun _ => ?_))
def spec_l03Is.f (k : Nat) (d wd : Int) (mi pl : List ByteArray) : Option (Bool) := (spec_l00In.f d 1 6).bind fun t1 => (if t1 = true then ((spec_l00In.f wd 2 12).bind fun t2 => (if t2 = true then (if 0 ≤ d ∧ d ≤ 60 then (if Int.tmod wd 2 = 0 then (if (mi.length : Int) = (shl .i64 1 d) then (if (pl.length : Int) = (shl .i64 1 d) then ((spec_l03Words.f k mi wd 2).bind fun t3 => (if t3 = true then ((spec_l03Words.f k pl wd (-2)).bind fun t4 => (if t4 = true then (spec_l03Is.l0 k mi pl (shl .i64 1 d) 0) else (some false))) else (some false))) else (some false)) else (some false)) else (some false)) else (none)) else (some false))) else (some false))
theorem spec_l03Is.mono : ∀ a0 a1 a2 a3 k, LeO (spec_l03Is.f k a0 a1 a2 a3) (spec_l03Is.f (k + 1) a0 a1 a2 a3) := by
 intro a0 a1 a2 a3 k
 have ih := spec_l03Is.mono_l k
 unfold spec_l03Is.f
 repeat' first
  | (with_reducible exact ih _ _ _ _)
  | (with_reducible exact spec_l03Words.mono _ _ _ _)
  | (with_reducible exact LeO.refl _)
  | (with_reducible exact LeO.none _)
  | (with_reducible refine LeO.ite ?_ ?_)
  | (with_reducible refine LeO.bind ?_ (fun _ => ?_))
set_option maxHeartbeats 8000000 in
set_option maxRecDepth 100000 in
theorem spec_l03Is.calls (k b : Nat) (d wd : Int) (A2 : Option Addr) (c2 : Nat) (mi : List ByteArray) (A3 : Option Addr) (c3 : Nat) (pl : List ByteArray) (r : Bool) (w : World) (h0 : w.cell? ⟨b, 0, none⟩ = some (.int .i64 d)) (h1 : w.cell? ⟨b, 1, none⟩ = some (.int .i64 wd)) (h2 : w.cell? ⟨b, 2, none⟩ = some (.slice A2 mi.length c2)) (h3 : w.cell? ⟨b, 3, none⟩ = some (.slice A3 pl.length c3)) (hr2 : Kd.C Kd.string w A2 mi.length mi) (hc2 : mi.length ≤ c2) (hr3 : Kd.C Kd.string w A3 pl.length pl) (hc3 : pl.length ≤ c3) (h : spec_l03Is.f k d wd mi pl = some r) :
 Calls Tryz.prog 32 #[.pointer (some ⟨b, 0, none⟩)] w fun e w' => e = .returned (.bool r) ∧ Drawn0 w w' := by
 have hu := Tryz.underlying25
 have HR2 := Aside0.mk hr2
 have HC2 := Aside0.mk hc2
 have HR3 := Aside0.mk hr3
 have HC3 := Aside0.mk hc3
 clear hr2 hc2 hr3 hc3
 unfold spec_l03Is.f at h
 obtain ⟨t1, A1, h⟩ := Option.bind_eq_some_iff.mp h
 have A1_ := Aside0.mk A1
 clear A1
 cases t1 with
 | false =>
  replace h : some false = some r := h
  obtain rfl := Option.some.inj h
  go_enter Tryz.func32, Tryz.ntmps32
  go_wp2_with (first | (go_at_call 70; (with_reducible refine (spec_l00In.calls d 1 6 false _ A1_.out).mono ?_); rintro e w1_ ⟨rfl, ⟨nd1, rfl⟩⟩))
  go_ret
  exact ⟨Qc0_, Qd0_⟩
 | true =>
 rw [if_pos rfl] at h
 obtain ⟨t2, A2, h⟩ := Option.bind_eq_some_iff.mp h
 have A2_ := Aside0.mk A2
 clear A2
 cases t2 with
 | false =>
  replace h : some false = some r := h
  obtain rfl := Option.some.inj h
  go_enter Tryz.func32, Tryz.ntmps32
  go_wp2_with (first | (go_at_call 70; (with_reducible refine (spec_l00In.calls d 1 6 true _ A1_.out).mono ?_); rintro e w1_ ⟨rfl, ⟨nd1, rfl⟩⟩) | (go_at_call 70; (with_reducible refine (spec_l00In.calls wd 2 12 false _ A2_.out).mono ?_); rintro e w2_ ⟨rfl, ⟨nd2, rfl⟩⟩))
  go_ret
  exact ⟨Qc0_, Qd0_⟩
 | true =>
 rw [if_pos rfl] at h
 by_cases c0 : 0 ≤ d ∧ d ≤ 60
 rotate_left
 ·rw [if_neg c0] at h
  cases h
 rw [if_pos c0] at h
 obtain ⟨ji, hji⟩ : ∃ j_ : Int, (shl .i64 1 d) = j_ := ⟨_, rfl⟩
 rw [hji] at h
 have hdu : IntKind.u64.wrap d = d := u64_small (by omega) (by omega)
 have hji_ : (IntKind.i64.wrap (1 * 2 ^ min d.toNat 64)) = ji := hji
 have hjiz : (IntKind.i64.wrap (1 * 2 ^ d.toNat)) = ji := shl_small hji (show d ≤ 64 by omega)
 have hjiu : (IntKind.i64.wrap (2 ^ min d.toNat 64)) = ji := by have h_ := hji_; rw [Int.one_mul] at h_; exact h_
 have hjiv : (IntKind.i64.wrap (2 ^ d.toNat)) = ji := by have h_ := hjiz; rw [Int.one_mul] at h_; exact h_
 have hjiy : (wrap64 (1 * 2 ^ min d.toNat 64)) = ji := (i64_w _).symm.trans hji_
 have hjix : (wrap64 (1 * 2 ^ d.toNat)) = ji := (i64_w _).symm.trans hjiz
 have c0b0 := eq_true c0.1
 have c0b1 : decide (0 ≤ d) = true := decide_eq_true c0.1
 have c064t : (d ≤ 64) = True := eq_true (by omega)
 clear c0 hji
 by_cases c5 : Int.tmod wd 2 = 0
 rotate_left
 ·rw [if_neg c5] at h
  obtain rfl := Option.some.inj h
  have c5b0 := beq_eq_false_iff_ne.mpr c5
  have c5b1 := bne_iff_ne.mpr c5
  clear c5
  go_enter Tryz.func32, Tryz.ntmps32
  go_wp2_with (first | (go_at_call 70; (with_reducible refine (spec_l00In.calls d 1 6 true _ A1_.out).mono ?_); rintro e w1_ ⟨rfl, ⟨nd1, rfl⟩⟩) | (go_at_call 70; (with_reducible refine (spec_l00In.calls wd 2 12 true _ A2_.out).mono ?_); rintro e w2_ ⟨rfl, ⟨nd2, rfl⟩⟩))
  go_ret
  exact ⟨Qc0_, Qd0_⟩
 rw [if_pos c5] at h
 have c5b0 := beq_iff_eq.mpr c5
 have c5b1 := bne_eq_false_iff_eq.mpr c5
 clear c5
 by_cases c6 : (mi.length : Int) = ji
 rotate_left
 ·rw [if_neg c6] at h
  obtain rfl := Option.some.inj h
  have c6b0 := beq_eq_false_iff_ne.mpr c6
  have c6b1 := bne_iff_ne.mpr c6
  clear c6
  go_enter Tryz.func32, Tryz.ntmps32
  go_wp2_with (first | (go_at_call 70; (with_reducible refine (spec_l00In.calls d 1 6 true _ A1_.out).mono ?_); rintro e w1_ ⟨rfl, ⟨nd1, rfl⟩⟩) | (go_at_call 70; (with_reducible refine (spec_l00In.calls wd 2 12 true _ A2_.out).mono ?_); rintro e w2_ ⟨rfl, ⟨nd2, rfl⟩⟩))
  go_quiet (fail)
  go_wp2
  go_ret
  exact ⟨Qc0_, Qd0_⟩
 rw [if_pos c6] at h
 have c6b0 := beq_iff_eq.mpr c6
 have c6b1 := bne_eq_false_iff_eq.mpr c6
 by_cases c7 : (pl.length : Int) = ji
 rotate_left
 ·rw [if_neg c7] at h
  obtain rfl := Option.some.inj h
  have c7b0 := beq_eq_false_iff_ne.mpr c7
  have c7b1 := bne_iff_ne.mpr c7
  clear c7 c6
  go_enter Tryz.func32, Tryz.ntmps32
  go_wp2_with (first | (go_at_call 70; (with_reducible refine (spec_l00In.calls d 1 6 true _ A1_.out).mono ?_); rintro e w1_ ⟨rfl, ⟨nd1, rfl⟩⟩) | (go_at_call 70; (with_reducible refine (spec_l00In.calls wd 2 12 true _ A2_.out).mono ?_); rintro e w2_ ⟨rfl, ⟨nd2, rfl⟩⟩))
  go_quiet (fail)
  go_wp2
  go_ret
  exact ⟨Qc0_, Qd0_⟩
 rw [if_pos c7] at h
 have c7b0 := beq_iff_eq.mpr c7
 have c7b1 := bne_eq_false_iff_eq.mpr c7
 clear c7 c6
 obtain ⟨t3, A3, h⟩ := Option.bind_eq_some_iff.mp h
 have A3_ := Aside0.mk A3
 clear A3
 cases t3 with
 | false =>
  replace h : some false = some r := h
  obtain rfl := Option.some.inj h
  go_enter Tryz.func32, Tryz.ntmps32
  go_wp2_with (first | (go_at_call 70; (with_reducible refine (spec_l00In.calls d 1 6 true _ A1_.out).mono ?_); rintro e w1_ ⟨rfl, ⟨nd1, rfl⟩⟩) | (go_at_call 70; (with_reducible refine (spec_l00In.calls wd 2 12 true _ A2_.out).mono ?_); rintro e w2_ ⟨rfl, ⟨nd2, rfl⟩⟩))
  go_quiet (first | (go_at_call 71; (with_reducible refine (spec_l03Words.calls k _ _ mi wd 2 false _ ?s1 ?s2 A3_.out).mono ?_); (case s1 => repeat (first | exact HR2.out | (with_reducible refine Kd.C_drewN ?_ _) | (with_reducible refine Kd.C_drew ?_))); (case s2 => exact HC2.out); rintro e w3_ ⟨rfl, ⟨nd3, rfl⟩⟩; (try first | exact ⟨rfl, _, World.drewN_drewN _ _ _⟩ | exact ⟨rfl, _, Eq.trans (World.drewN_drewN _ _ _) (congrArg (World.drewN _) (Nat.add_assoc _ _ _))⟩)))
  go_wp2
  go_ret
  exact ⟨Qc0_, Qd0_⟩
 | true =>
 rw [if_pos rfl] at h
 obtain ⟨t4, A4, h⟩ := Option.bind_eq_some_iff.mp h
 have A4_ := Aside0.mk A4
 clear A4
 cases t4 with
 | false =>
  replace h : some false = some r := h
  obtain rfl := Option.some.inj h
  go_enter Tryz.func32, Tryz.ntmps32
  go_wp2_with (first | (go_at_call 70; (with_reducible refine (spec_l00In.calls d 1 6 true _ A1_.out).mono ?_); rintro e w1_ ⟨rfl, ⟨nd1, rfl⟩⟩) | (go_at_call 70; (with_reducible refine (spec_l00In.calls wd 2 12 true _ A2_.out).mono ?_); rintro e w2_ ⟨rfl, ⟨nd2, rfl⟩⟩))
  go_quiet (first | (go_at_call 71; (with_reducible refine (spec_l03Words.calls k _ _ mi wd 2 true _ ?s1 ?s2 A3_.out).mono ?_); (case s1 => repeat (first | exact HR2.out | (with_reducible refine Kd.C_drewN ?_ _) | (with_reducible refine Kd.C_drew ?_))); (case s2 => exact HC2.out); rintro e w3_ ⟨rfl, ⟨nd3, rfl⟩⟩; (try first | exact ⟨rfl, _, World.drewN_drewN _ _ _⟩ | exact ⟨rfl, _, Eq.trans (World.drewN_drewN _ _ _) (congrArg (World.drewN _) (Nat.add_assoc _ _ _))⟩)) | (go_at_call 71; (with_reducible refine (spec_l03Words.calls k _ _ pl wd (-2) false _ ?s1 ?s2 A4_.out).mono ?_); (case s1 => exact Qh1_); (case s2 => exact HC3.out); rintro e w4_ ⟨rfl, ⟨nd4, rfl⟩⟩; (try first | exact ⟨rfl, _, World.drewN_drewN _ _ _⟩ | exact ⟨rfl, _, Eq.trans (World.drewN_drewN _ _ _) (congrArg (World.drewN _) (Nat.add_assoc _ _ _))⟩)))
  go_wp2
  go_ret
  exact ⟨Qc0_, Qd0_⟩
 | true =>
 rw [if_pos rfl] at h
 have H' := Aside0.mk h
 clear h
 go_enter Tryz.func32, Tryz.ntmps32
 go_wp2_with (first | (go_at_call 70; (with_reducible refine (spec_l00In.calls d 1 6 true _ A1_.out).mono ?_); rintro e w1_ ⟨rfl, ⟨nd1, rfl⟩⟩) | (go_at_call 70; (with_reducible refine (spec_l00In.calls wd 2 12 true _ A2_.out).mono ?_); rintro e w2_ ⟨rfl, ⟨nd2, rfl⟩⟩))
 go_quiet (first | (go_at_call 71; (with_reducible refine (spec_l03Words.calls k _ _ mi wd 2 true _ ?s1 ?s2 A3_.out).mono ?_); (case s1 => repeat (first | exact HR2.out | (with_reducible refine Kd.C_drewN ?_ _) | (with_reducible refine Kd.C_drew ?_))); (case s2 => exact HC2.out); rintro e w3_ ⟨rfl, ⟨nd3, rfl⟩⟩; (try first | exact ⟨rfl, _, World.drewN_drewN _ _ _⟩ | exact ⟨rfl, _, Eq.trans (World.drewN_drewN _ _ _) (congrArg (World.drewN _) (Nat.add_assoc _ _ _))⟩)) | (go_at_call 71; (with_reducible refine (spec_l03Words.calls k _ _ pl wd (-2) true _ ?s1 ?s2 A4_.out).mono ?_); (case s1 => exact Qh1_); (case s2 => exact HC3.out); rintro e w4_ ⟨rfl, ⟨nd4, rfl⟩⟩; (try first | exact ⟨rfl, _, World.drewN_drewN _ _ _⟩ | exact ⟨rfl, _, Eq.trans (World.drewN_drewN _ _ _) (congrArg (World.drewN _) (Nat.add_assoc _ _ _))⟩)))
 go_wp2
 go_loopg [4] k (fun kq v4 w' => ∃ (i : Int), v4 = .int .i64 i ∧ Aside0 (spec_l03Is.l0 kq mi pl ji i = some r) ∧ Aside0 (kq ≤ k) ∧ Drawn0 w w')
 case atStart => exact ⟨0, Qc0_, H', ⟨Nat.le_refl _⟩, Qd0_⟩
 case round =>
  clear H'
  obtain ⟨i, rfl, HA, HK1, ⟨m1, rfl⟩⟩ := hrel
  cases gk with
  | zero => exact absurd HA.out (by simp [spec_l03Is.l0])
  | succ k1 =>
   have H := HA.out
   clear HA
   simp only [spec_l03Is.l0] at H
   by_cases d1 : i < ji
   rotate_left
   ·rw [if_neg d1] at H
    obtain rfl := Option.some.inj H
    have d1b0 : decide (i < ji) = false := decide_eq_false d1
    clear d1
    go_wp2
    go_ret
    exact ⟨Qc0_, Qd0_⟩
   rw [if_pos d1] at H
   have d1b0 : decide (i < ji) = true := decide_eq_true d1
   clear d1
   by_cases d2 : 0 ≤ i
   rotate_left
   ·rw [if_neg d2] at H
    cases H
   rw [if_pos d2] at H
   by_cases d3 : i < (mi.length : Int)
   rotate_left
   ·rw [if_neg d3] at H
    cases H
   rw [if_pos d3] at H
   obtain ⟨ad1, e1, hx1⟩ := Kd.at_string HR2.out i d2 d3
   cases e1
   have p1 := eq_true d2
   have q1 := eq_true d3
   clear d2 d3
   obtain ⟨t, A5, H⟩ := Option.bind_eq_some_iff.mp H
   have A5_ := Aside0.mk A5
   clear A5
   by_cases d4 : 0 ≤ t
   ·rw [if_pos d4] at H
    have d4b0 : decide (0 ≤ t) = true := decide_eq_true d4
    clear d4
    by_cases d5 : t = i
    ·rw [if_pos d5] at H
     have d5b0 : (t == i) = true := beq_iff_eq.mpr d5
     have d5b1 : (t != i) = false := bne_eq_false_iff_eq.mpr d5
     clear d5
     have H' := Aside0.mk H
     clear H
     go_wp2
     go_quiet (first | (go_at_call 72; (with_reducible refine (spec_l03Index.calls k1 _ _ pl _ t _ ?s1 ?s2 A5_.out).mono ?_); (case s1 => exact Qh1_); (case s2 => exact HC3.out); rintro e w5_ ⟨rfl, ⟨nd5, rfl⟩⟩; (try first | exact ⟨rfl, _, World.drewN_drewN _ _ _⟩ | exact ⟨rfl, _, Eq.trans (World.drewN_drewN _ _ _) (congrArg (World.drewN _) (Nat.add_assoc _ _ _))⟩)))
     go_wp2
     go_roundg k1
     case measure => have := HK1.out; omega
     case rel => exact ⟨(wrap64 (i + 1)), Qc0_, H', ⟨Qp0_⟩, Qd0_⟩
    ·rw [if_neg d5] at H
     obtain rfl := Option.some.inj H
     have d5b0 : (t == i) = false := beq_eq_false_iff_ne.mpr d5
     have d5b1 : (t != i) = true := bne_iff_ne.mpr d5
     clear d5
     go_wp2
     go_quiet (first | (go_at_call 72; (with_reducible refine (spec_l03Index.calls k1 _ _ pl _ t _ ?s1 ?s2 A5_.out).mono ?_); (case s1 => exact Qh1_); (case s2 => exact HC3.out); rintro e w5_ ⟨rfl, ⟨nd5, rfl⟩⟩; (try first | exact ⟨rfl, _, World.drewN_drewN _ _ _⟩ | exact ⟨rfl, _, Eq.trans (World.drewN_drewN _ _ _) (congrArg (World.drewN _) (Nat.add_assoc _ _ _))⟩)))
     go_wp2
     go_ret
     exact ⟨Qc0_, Qd0_⟩
   ·rw [if_neg d4] at H
    have d4b0 : decide (0 ≤ t) = false := decide_eq_false d4
    clear d4
    have H' := Aside0.mk H
    clear H
    go_wp2
    go_quiet (first | (go_at_call 72; (with_reducible refine (spec_l03Index.calls k1 _ _ pl _ t _ ?s1 ?s2 A5_.out).mono ?_); (case s1 => exact Qh1_); (case s2 => exact HC3.out); rintro e w5_ ⟨rfl, ⟨nd5, rfl⟩⟩; (try first | exact ⟨rfl, _, World.drewN_drewN _ _ _⟩ | exact ⟨rfl, _, Eq.trans (World.drewN_drewN _ _ _) (congrArg (World.drewN _) (Nat.add_assoc _ _ _))⟩)))
    go_wp2
    go_roundg k1
    case measure => have := HK1.out; omega
    case rel => exact ⟨(wrap64 (i + 1)), Qc0_, H', ⟨Qp0_⟩, Qd0_⟩
def spec_l03State.f (a0 : Int) : Option (Bool) := if a0 = (-1) then (some true) else (some (a0 == 1))
set_option maxHeartbeats 8000000 in
set_option maxRecDepth 100000 in
theorem spec_l03State.calls (a0 : Int) (r : Bool) (w : World) (h : spec_l03State.f a0 = some r) :
 Calls Tryz.prog 33 #[.int .i64 a0] w fun e w' => e = .returned (.bool r) ∧ Drawn0 w w' := by
 have H : (if a0 = (-1) then (some true) else (some (a0 == 1))) = some r := h
 clear h
 by_cases c2 : a0 = (-1)
 ·rw [if_pos c2] at H
  have c2b0 := beq_iff_eq.mpr c2
  have c2b1 := bne_eq_false_iff_eq.mpr c2
  clear c2
  obtain rfl := Option.some.inj H
  go_enter Tryz.func33, Tryz.ntmps33
  go_wp2
  go_ret
  exact ⟨Qc0_, Qd0_⟩
 ·rw [if_neg c2] at H
  have c2b0 := beq_eq_false_iff_ne.mpr c2
  have c2b1 := bne_iff_ne.mpr c2
  obtain rfl := Option.some.inj H
  go_enter Tryz.func33, Tryz.ntmps33
  go_wp2
  go_ret
  exact ⟨Qc0_, Qd0_⟩
set_option maxHeartbeats 8000000 in
set_option maxRecDepth 100000 in
theorem spec_l03List.calls (b : Nat) (A2 : Option Addr) (n2 c2 : Nat) (A3 : Option Addr) (n3 c3 : Nat) (st : Int) (w : World) (h2 : w.cell? ⟨b, 2, none⟩ = some (.slice A2 n2 c2)) (h3 : w.cell? ⟨b, 3, none⟩ = some (.slice A3 n3 c3)) :
 Calls Tryz.prog 73 #[.pointer (some ⟨b, 0, none⟩), .int .i64 st] w fun e w' => e = .returned (if st < 0 then .slice A2 n2 c2 else .slice A3 n3 c3) ∧ Drawn0 w w' := by
 have hu := Tryz.underlying25
 by_cases c0 : st < 0
 ·have c0b0 : decide (st < 0) = true := decide_eq_true c0
  rw [if_pos c0]
  clear c0
  go_enter Tryz.func73, Tryz.ntmps73
  go_wp2
  go_ret
  exact ⟨Qc0_, Qd0_⟩
 ·have c0b0 : decide (st < 0) = false := decide_eq_false c0
  rw [if_neg c0]
  clear c0
  go_enter Tryz.func73, Tryz.ntmps73
  go_wp2
  go_ret
  exact ⟨Qc0_, Qd0_⟩
def spec_l03Next.f (k : Nat) (a0 : Int) (a1 : ByteArray) : Option (Int) := (spec_l03Disparity.f k a1).bind fun t178 => (if t178 > 0 then (some 1) else (if t178 < 0 then (some (-1)) else (some a0)))
theorem spec_l03Next.mono : ∀ a0 a1 k, LeO (spec_l03Next.f k a0 a1) (spec_l03Next.f (k + 1) a0 a1) := by
 intro a0 a1 k
 unfold spec_l03Next.f
 repeat' first
  | (with_reducible exact spec_l03Disparity.mono _ _)
  | (with_reducible exact LeO.refl _)
  | (with_reducible exact LeO.none _)
  | (with_reducible refine LeO.ite ?_ ?_)
  | (with_reducible refine LeO.bind ?_ (fun _ => ?_))
  | exact spec_l03Disparity.mono _ _
  | exact LeO.none _
  | refine LeO.ite ?_ ?_
  | refine LeO.bind ?_ (fun _ => ?_)
set_option maxHeartbeats 8000000 in
set_option maxRecDepth 100000 in
theorem spec_l03Next.calls (k : Nat) (a0 : Int) (a1 : ByteArray) (r : Int) (w : World) (h : spec_l03Next.f k a0 a1 = some r) :
 Calls Tryz.prog 74 #[.int .i64 a0, .string a1] w fun e w' => e = .returned (.int .i64 r) ∧ Drawn0 w w' := by
 have H : ((spec_l03Disparity.f k a1).bind fun t178 => (if t178 > 0 then (some 1) else (if t178 < 0 then (some (-1)) else (some a0)))) = some r := h
 clear h
 replace H := Option.bind_eq_some_iff.mp H
 obtain ⟨t178, A30, H⟩ := H
 try dsimp only at H
 have A3 := Aside0.mk A30
 clear A30
 by_cases c4 : t178 > 0
 ·rw [if_pos c4] at H
  have c4b0 := decide_eq_true c4
  clear c4
  obtain rfl := Option.some.inj H
  go_enter Tryz.func74, Tryz.ntmps74
  go_wp2_with (first | ((with_reducible refine gate_callee (f := 105) rfl ?_); refine goesL_ (some 7) rfl rfl Tryz.func105 Qi0_ rfl #[.string a1] rfl Qb0_ ?_; (with_reducible refine (spec_l03Disparity.calls k a1 t178 _ A3.out).mono ?_); rintro e w' ⟨rfl, ⟨nd, rfl⟩⟩; refine ⟨_, rfl, ?_⟩))
  go_ret
  exact ⟨Qc0_, Qd0_⟩
 ·rw [if_neg c4] at H
  have c4b0 := decide_eq_false c4
  clear c4
  by_cases c5 : t178 < 0
  ·rw [if_pos c5] at H
   have c5b0 := decide_eq_true c5
   clear c5
   obtain rfl := Option.some.inj H
   go_enter Tryz.func74, Tryz.ntmps74
   go_wp2_with (first | ((with_reducible refine gate_callee (f := 105) rfl ?_); refine goesL_ (some 7) rfl rfl Tryz.func105 Qi0_ rfl #[.string a1] rfl Qb0_ ?_; (with_reducible refine (spec_l03Disparity.calls k a1 t178 _ A3.out).mono ?_); rintro e w' ⟨rfl, ⟨nd, rfl⟩⟩; refine ⟨_, rfl, ?_⟩))
   go_ret
   exact ⟨Qc0_, Qd0_⟩
  ·rw [if_neg c5] at H
   have c5b0 := decide_eq_false c5
   clear c5
   obtain rfl := Option.some.inj H
   go_enter Tryz.func74, Tryz.ntmps74
   go_wp2_with (first | ((with_reducible refine gate_callee (f := 105) rfl ?_); refine goesL_ (some 7) rfl rfl Tryz.func105 Qi0_ rfl #[.string a1] rfl Qb0_ ?_; (with_reducible refine (spec_l03Disparity.calls k a1 t178 _ A3.out).mono ?_); rintro e w' ⟨rfl, ⟨nd, rfl⟩⟩; refine ⟨_, rfl, ?_⟩))
   go_ret
   exact ⟨Qc0_, Qd0_⟩
end Go.Proofs.YtbjmbfjbjkhhdaaGreatDoor.QFnTopOfAll
