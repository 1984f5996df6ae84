/- FnJournal: functions that it reaches, with what they compute and the proof that they do; written by a program of this session (wip/myprint.py). -/
import Derived.Test.YtohdepanfnaddaaDoorQFnJournalx0
import Derived.Test.YtohdepanfnaddaaDoorQFnJournalx3
namespace Go.Proofs.YtohdepanfnaddaaDoor.QFnJournal
open Go.RowKit Go.Proofs.YtohdepanfnaddaaDoorW.PrintWords Go.Proofs.YtohdepanfnaddaaDoorW.PrintLast Go.Proofs.YtohdepanfnaddaaDoorW.PrintMore
attribute [local go_sem] max2_int min2_int max_two min_two max_three min_three max_four min_four   -- for this text's walks alone
set_option linter.unusedVariables false
set_option linter.unusedSimpArgs false

/-! ### spec_l11Show: function 93 -/
def spec_l11Show.f (a0 : ByteArray) : Option (ByteArray) := if a0.toList = ([] : List UInt8) then (some (⟨#[110, 111, 110, 101]⟩ : ByteArray)) else (some a0)
set_option maxHeartbeats 8000000 in
set_option maxRecDepth 100000 in
theorem spec_l11Show.calls (a0 : ByteArray) (r : ByteArray) (w : World) (h : spec_l11Show.f a0 = some r) :
 Calls Tryd.prog 93 #[.string a0] w fun e w' => e = .returned (.string r) ∧ Drawn0 w w' := by
 have H : (if a0.toList = ([] : List UInt8) then (some (⟨#[110, 111, 110, 101]⟩ : ByteArray)) else (some a0)) = some r := h
 clear h
 by_cases c2 : a0.toList = ([] : List UInt8)
 ·rw [if_pos c2] at H
  have c2b0 : (a0.toList == ([] : List UInt8)) = true := beq_iff_eq.mpr c2
  have c2b1 : (a0.toList != ([] : List UInt8)) = false := bne_eq_false_iff_eq.mpr c2
  clear c2
  obtain rfl := Option.some.inj H
  go_enter Tryd.func93, Tryd.ntmps93
  go_wp2
  go_ret
  exact ⟨by first | rfl | (simp; done) | (simp [*]; done), by repeat (first | exact Drawn0.refl _ | apply Drawn0.step)⟩
 ·rw [if_neg c2] at H
  have c2b0 : (a0.toList == ([] : List UInt8)) = false := beq_eq_false_iff_ne.mpr c2
  have c2b1 : (a0.toList != ([] : List UInt8)) = true := bne_iff_ne.mpr c2
  obtain rfl := Option.some.inj H
  go_enter Tryd.func93, Tryd.ntmps93
  go_wp2
  go_ret
  exact ⟨by first | rfl | (simp; done) | (simp [*]; done), by repeat (first | exact Drawn0.refl _ | apply Drawn0.step)⟩

/-! ### spec_l01Text: function 95 -/
def spec_l01Text.l0 : Nat → List Int → ByteArray → Int → Option (ByteArray)
 | 0, _, _, _ => none
 | k + 1, x0, x3, x4 => if x4 < (x0.length : Int) then (if x4 > 0 then (if x3.size + 1 ≤ 9223372036854775807 then (if 0 ≤ x4 then ((spec_l01Dec.f k (rd x0 x4)).bind fun t184 => (if (x3 ++ (⟨#[44]⟩ : ByteArray)).size + t184.size ≤ 9223372036854775807 then (spec_l01Text.l0 k x0 ((x3 ++ (⟨#[44]⟩ : ByteArray)) ++ t184) (wrap64 (x4 + 1))) else (none))) else (none)) else (none)) else (if 0 ≤ x4 then ((spec_l01Dec.f k (rd x0 x4)).bind fun t186 => (if x3.size + t186.size ≤ 9223372036854775807 then (spec_l01Text.l0 k x0 (x3 ++ t186) (wrap64 (x4 + 1))) else (none))) else (none))) else (if x3.toList = ([] : List UInt8) then (some (⟨#[110, 111, 110, 101]⟩ : ByteArray)) else (some x3))
def spec_l01Text.f (k : Nat) (l0 : List Int) : Option (ByteArray) := spec_l01Text.l0 k l0 (⟨#[]⟩ : ByteArray) 0
theorem spec_l01Text.mono_l : ∀ k, (∀ y0 y1 y2, LeO (spec_l01Text.l0 k y0 y1 y2) (spec_l01Text.l0 (k + 1) y0 y1 y2))
 | 0 => fun _ _ _ r h => by simp [spec_l01Text.l0] at h
 | k + 1 => by
  have ih0 := spec_l01Text.mono_l k
  ·intro y0 y1 y2
   unfold spec_l01Text.l0
   repeat' first
   | (with_reducible exact ih0 _ _ _)
   | (with_reducible exact spec_l01Dec.mono _ _)
   | (with_reducible exact LeO.refl _)
   | (with_reducible exact LeO.none _)
   | (with_reducible refine LeO.ite ?_ ?_)
   | (with_reducible refine LeO.bind ?_ (fun _ => ?_))
   | exact ih0 _ _ _
   | exact spec_l01Dec.mono _ _
   | exact LeO.none _
   | refine LeO.ite ?_ ?_
   | refine LeO.bind ?_ (fun _ => ?_)
theorem spec_l01Text.mono : ∀ a0 k, LeO (spec_l01Text.f k a0) (spec_l01Text.f (k + 1) a0) := by
 intro a0 k
 have ih0 := spec_l01Text.mono_l k
 unfold spec_l01Text.f
 repeat' first
  | (with_reducible exact ih0 _ _ _)
  | (with_reducible exact spec_l01Dec.mono _ _)
  | (with_reducible exact LeO.refl _)
  | (with_reducible exact LeO.none _)
  | (with_reducible refine LeO.ite ?_ ?_)
  | (with_reducible refine LeO.bind ?_ (fun _ => ?_))
  | exact ih0 _ _ _
  | exact spec_l01Dec.mono _ _
  | exact LeO.none _
  | refine LeO.ite ?_ ?_
  | refine LeO.bind ?_ (fun _ => ?_)
set_option maxHeartbeats 8000000 in
set_option maxRecDepth 100000 in
theorem spec_l01Text.calls (k : Nat) (A0 : Option Addr) (c0 : Nat) (l0 : List Int) (r : ByteArray) (w : World) (hr0 : Kd.C (Kd.int .i64) w A0 l0.length l0) (hc0 : l0.length ≤ c0) (h : spec_l01Text.f k l0 = some r) :
 Calls Tryd.prog 95 #[.slice A0 l0.length c0] w fun e w' => e = .returned (.string r) ∧ Below w.heap.size w w' := by
 have HR0 := Aside0.mk hr0
 have HC0 := Aside0.mk hc0
 clear hr0 hc0
 have HB := Aside0.mk (Below.refl w.heap.size w)
 have H : (spec_l01Text.l0 k l0 (⟨#[]⟩ : ByteArray) 0) = some r := h
 clear h
 have H' := Aside0.mk H
 clear H
 go_enter Tryd.func95, Tryd.ntmps95
 go_wp2
 go_loopg [3, 4] k (fun kq v3 v4 w' => ∃ (x3_1 : ByteArray) (x4_1 : Int), v3 = .string x3_1 ∧ v4 = .int .i64 x4_1 ∧ Aside0 (spec_l01Text.l0 kq l0 x3_1 x4_1 = some r) ∧ Aside0 (kq ≤ k) ∧ Aside0 (Below w.heap.size w w'))
 case atStart => exact ⟨((⟨#[]⟩ : ByteArray)), (0), (by first | rfl | (simp; done) | (simp [*]; done)), (by first | rfl | (simp; done) | (simp [*]; done)), H', ⟨Nat.le_refl _⟩, ⟨by repeat (first | (with_reducible first | exact HB.out | apply below_alloc | apply pw_below_drewN | apply below_drew1) | exact HB.out)⟩⟩
 case round =>
  clear H'
  obtain ⟨x3_1, x4_1, rfl, rfl, HA, HK1, HB⟩ := hrel
  cases gk with
  | zero => exact absurd HA.out (by simp [spec_l01Text.l0])
  | succ k1 =>
   have H := HA.out
   clear HA
   simp only [spec_l01Text.l0] at H
   by_cases c2 : x4_1 < (l0.length : Int)
   ·rw [if_pos c2] at H
    have c2b0 : decide (x4_1 < (l0.length : Int)) = true := decide_eq_true c2
    clear c2
    by_cases c3 : x4_1 > 0
    ·rw [if_pos c3] at H
     have c3b0 : decide (0 < x4_1) = true := decide_eq_true c3
     clear c3
     by_cases c4 : x3_1.size + 1 ≤ 9223372036854775807
     ·rw [if_pos c4] at H
      have c4b0 := eq_true c4
      have c4b1 : decide (x3_1.size + 1 ≤ 9223372036854775807) = true := decide_eq_true c4
      try have c4b2 : (9223372036854775807 < x3_1.size + 1) = False := eq_false (Nat.not_lt.2 c4)
      by_cases c5 : 0 ≤ x4_1
      ·rw [if_pos c5] at H
       have c5b0 : decide (0 ≤ x4_1) = true := decide_eq_true c5
       clear c5
       replace H := Option.bind_eq_some_iff.mp H
       obtain ⟨t184, A60, H⟩ := H
       replace H : (if (x3_1 ++ (⟨#[44]⟩ : ByteArray)).size + t184.size ≤ 9223372036854775807 then (spec_l01Text.l0 k1 l0 ((x3_1 ++ (⟨#[44]⟩ : ByteArray)) ++ t184) (wrap64 (x4_1 + 1))) else (none)) = some r := H
       have A6 := Aside0.mk A60
       clear A60
       by_cases c7 : (x3_1 ++ (⟨#[44]⟩ : ByteArray)).size + t184.size ≤ 9223372036854775807
       ·rw [if_pos c7] at H
        have c7b0 := eq_true c7
        have c7b1 : decide ((x3_1 ++ (⟨#[44]⟩ : ByteArray)).size + t184.size ≤ 9223372036854775807) = true := decide_eq_true c7
        try have c7b2 : (9223372036854775807 < (x3_1 ++ (⟨#[44]⟩ : ByteArray)).size + t184.size) = False := eq_false (Nat.not_lt.2 c7)
        try have c7b4 : (9223372036854775807 < (x3_1.size + 1) + t184.size) = False := eq_false (Nat.not_lt.2 (by have q_ := c7; simp only [ByteArray.size_append] at q_; exact q_))
        have H' := Aside0.mk H
        clear H
        have p183 : 0 ≤ (x4_1 : Int) := of_decide_eq_true (by first | (with_reducible assumption) | assumption)
        have q183 : x4_1 < (l0.length : Int) := of_decide_eq_true (by first | (with_reducible assumption) | assumption)
        obtain ⟨ad183, e183, hx183_0⟩ := Kd.at_int HR0.out x4_1 p183 q183
        cases e183
        replace hx183_0 := (HB.out.cell (World.block_lt_of_cell? w _ hx183_0)).trans hx183_0
        replace p183 := eq_true p183
        replace q183 := eq_true q183
        go_wp2_with (first | ((with_reducible refine gate_callee (f := 47) rfl ?_); refine goesL_ (some 20) rfl rfl Tryd.func47 (by kernel_rfl) rfl #[.int .i64 (rd l0 x4_1)] rfl (by (try simp only [List.map_toArray, List.map_cons, List.map_nil]); first | done | rfl | (simp only [List.length_drop, List.length_take]; rfl)) ?_; (with_reducible refine (spec_l01Dec.calls k1 (rd l0 x4_1) t184 _ A6.out).mono ?_); rintro e w8 ⟨rfl, hb⟩; refine ⟨_, rfl, ?_⟩; have n0_ := Aside0.mk (below_step (by repeat (first | (with_reducible first | exact HB.out | apply below_alloc | apply pw_below_drewN | apply below_drew1) | exact HB.out)) hb); clear HB; have HB := n0_; clear n0_; (try clear hb); (try clear hb2); (try clear hk); (try clear hi)))
        go_roundg k1
        case measure => have := HK1.out; omega
        case rel => exact ⟨((x3_1 ++ (⟨#[44]⟩ : ByteArray)) ++ t184), (wrap64 (x4_1 + 1)), (by first | rfl | (simp; done) | (simp [*]; done) | (simp [show (⟨#[44]⟩ : ByteArray).size = 1 from rfl]; done)), (by first | rfl | (simp; done) | (simp [*]; done)), H', ⟨by have := HK1.out; omega⟩, ⟨by repeat (first | (with_reducible first | exact HB.out | apply below_alloc | apply pw_below_drewN | apply below_drew1) | exact HB.out)⟩⟩
       ·rw [if_neg c7] at H
        exact absurd H (by simp)
      ·rw [if_neg c5] at H
       exact absurd H (by simp)
     ·rw [if_neg c4] at H
      exact absurd H (by simp)
    ·rw [if_neg c3] at H
     have c3b0 : decide (0 < x4_1) = false := decide_eq_false c3
     clear c3
     by_cases c9 : 0 ≤ x4_1
     ·rw [if_pos c9] at H
      have c9b0 : decide (0 ≤ x4_1) = true := decide_eq_true c9
      clear c9
      replace H := Option.bind_eq_some_iff.mp H
      obtain ⟨t186, A100, H⟩ := H
      replace H : (if x3_1.size + t186.size ≤ 9223372036854775807 then (spec_l01Text.l0 k1 l0 (x3_1 ++ t186) (wrap64 (x4_1 + 1))) else (none)) = some r := H
      have A10 := Aside0.mk A100
      clear A100
      by_cases c11 : x3_1.size + t186.size ≤ 9223372036854775807
      ·rw [if_pos c11] at H
       have c11b0 := eq_true c11
       have c11b1 : decide (x3_1.size + t186.size ≤ 9223372036854775807) = true := decide_eq_true c11
       try have c11b2 : (9223372036854775807 < x3_1.size + t186.size) = False := eq_false (Nat.not_lt.2 c11)
       have H' := Aside0.mk H
       clear H
       have p185 : 0 ≤ (x4_1 : Int) := of_decide_eq_true (by first | (with_reducible assumption) | assumption)
       have q185 : x4_1 < (l0.length : Int) := of_decide_eq_true (by first | (with_reducible assumption) | assumption)
       obtain ⟨ad185, e185, hx185_0⟩ := Kd.at_int HR0.out x4_1 p185 q185
       cases e185
       replace hx185_0 := (HB.out.cell (World.block_lt_of_cell? w _ hx185_0)).trans hx185_0
       replace p185 := eq_true p185
       replace q185 := eq_true q185
       go_wp2_with (first | ((with_reducible refine gate_callee (f := 47) rfl ?_); refine goesL_ (some 20) rfl rfl Tryd.func47 (by kernel_rfl) rfl #[.int .i64 (rd l0 x4_1)] rfl (by (try simp only [List.map_toArray, List.map_cons, List.map_nil]); first | done | rfl | (simp only [List.length_drop, List.length_take]; rfl)) ?_; (with_reducible refine (spec_l01Dec.calls k1 (rd l0 x4_1) t186 _ A10.out).mono ?_); rintro e w12 ⟨rfl, hb⟩; refine ⟨_, rfl, ?_⟩; have n0_ := Aside0.mk (below_step (by repeat (first | (with_reducible first | exact HB.out | apply below_alloc | apply pw_below_drewN | apply below_drew1) | exact HB.out)) hb); clear HB; have HB := n0_; clear n0_; (try clear hb); (try clear hb2); (try clear hk); (try clear hi)))
       go_roundg k1
       case measure => have := HK1.out; omega
       case rel => exact ⟨(x3_1 ++ t186), (wrap64 (x4_1 + 1)), (by first | rfl | (simp; done) | (simp [*]; done)), (by first | rfl | (simp; done) | (simp [*]; done)), H', ⟨by have := HK1.out; omega⟩, ⟨by repeat (first | (with_reducible first | exact HB.out | apply below_alloc | apply pw_below_drewN | apply below_drew1) | exact HB.out)⟩⟩
      ·rw [if_neg c11] at H
       exact absurd H (by simp)
     ·rw [if_neg c9] at H
      exact absurd H (by simp)
   ·rw [if_neg c2] at H
    have c2b0 : decide (x4_1 < (l0.length : Int)) = false := decide_eq_false c2
    clear c2
    by_cases c13 : x3_1.toList = ([] : List UInt8)
    ·rw [if_pos c13] at H
     have c13b0 : (x3_1.toList == ([] : List UInt8)) = true := beq_iff_eq.mpr c13
     have c13b1 : (x3_1.toList != ([] : List UInt8)) = false := bne_eq_false_iff_eq.mpr c13
     clear c13
     obtain rfl := Option.some.inj H
     go_wp2
     go_ret
     exact ⟨by first | rfl | (simp [errW_none, errW_some] <;> rfl) | (simp [*, errW_none, errW_some] <;> rfl), by repeat (first | (with_reducible first | exact HB.out | apply below_alloc | apply pw_below_drewN | apply below_drew1) | exact HB.out)⟩
    ·rw [if_neg c13] at H
     have c13b0 : (x3_1.toList == ([] : List UInt8)) = false := beq_eq_false_iff_ne.mpr c13
     have c13b1 : (x3_1.toList != ([] : List UInt8)) = true := bne_iff_ne.mpr c13
     obtain rfl := Option.some.inj H
     go_wp2
     go_ret
     exact ⟨by first | rfl | (simp [errW_none, errW_some] <;> rfl) | (simp [*, errW_none, errW_some] <;> rfl), by repeat (first | (with_reducible first | exact HB.out | apply below_alloc | apply pw_below_drewN | apply below_drew1) | exact HB.out)⟩

/-! ### spec_l11DrawLine: function 59 -/
mutual
def spec_l11DrawLine.j0 : Nat → List ByteArray → ByteArray → Bool → List Int → Int → Int → Option (ByteArray × Int × Int)
 | 0, _, _, _, _, _, _ => none
 | k + 1, x1, x5, x29, x1000, x1001, x1002 => if x29 = true then ((spec_l00Src_text.f x1000 x1001 x1002 x1).bind fun bt196 => (spec_l11DrawLine.j1 k bt196.1 x1000 bt196.2.1 bt196.2.2)) else (spec_l11DrawLine.j1 k x5 x1000 x1001 x1002)
def spec_l11DrawLine.j1 : Nat → ByteArray → List Int → Int → Int → Option (ByteArray × Int × Int)
 | 0, _, _, _, _ => none
 | k + 1, x5, x1000, x1001, x1002 => (spec_l00Src_text.f x1000 x1001 x1002 (([(⟨#[97]⟩ : ByteArray), (⟨#[98]⟩ : ByteArray), (⟨#[110, 101, 119]⟩ : ByteArray), (⟨#[120]⟩ : ByteArray), (⟨#[119, 105, 114, 101]⟩ : ByteArray), (⟨#[81]⟩ : ByteArray)] : List ByteArray))).bind fun bt202 => ((spec_l00Src_pick.f x1000 bt202.2.1 bt202.2.2 9).bind fun bt205 => (if bt205.1 = 0 then ((spec_l00Src_text.f x1000 bt205.2.1 bt205.2.2 (([(⟨#[]⟩ : ByteArray), (⟨#[119, 104, 97, 116]⟩ : ByteArray), (⟨#[115, 101, 116]⟩ : ByteArray), (⟨#[115, 101, 116, 32, 97]⟩ : ByteArray), (⟨#[115, 101, 116, 32, 97, 32, 50]⟩ : ByteArray), (⟨#[115, 101, 116, 32, 97, 32, 110, 111, 110, 101]⟩ : ByteArray), (⟨#[115, 101, 116, 32, 97, 32]⟩ : ByteArray), (⟨#[115, 104, 111, 119]⟩ : ByteArray), (⟨#[98, 108, 111, 99, 107, 115, 32, 120, 32, 49, 32, 50, 32, 45, 49, 32, 48, 44, 49, 44, 49]⟩ : ByteArray), (⟨#[98, 108, 111, 99, 107, 115, 32, 120, 32, 49, 32, 50, 32, 48, 32, 48]⟩ : ByteArray), (⟨#[98, 108, 111, 99, 107, 115, 32, 120, 32, 57, 32, 50, 32, 49, 32, 48]⟩ : ByteArray), (⟨#[100, 97, 116, 97, 32, 97, 32, 49, 32, 50]⟩ : ByteArray), (⟨#[108, 97, 121, 32, 98, 32, 97, 32, 50]⟩ : ByteArray), (⟨#[102, 108, 105, 112, 32, 97, 32, 45, 49]⟩ : ByteArray), (⟨#[118, 111, 116, 101, 32, 98, 32, 97, 32, 50]⟩ : ByteArray), (⟨#[99, 108, 111, 99, 107, 32, 98, 32, 97, 32, 49, 32, 50]⟩ : ByteArray)] : List ByteArray))).bind fun bt211 => (some (bt211.1, bt211.2.1, bt211.2.2))) else (if bt205.1 = 1 then (if 4 + bt202.1.size ≤ 9223372036854775807 then (if ((⟨#[115, 101, 116, 32]⟩ : ByteArray) ++ bt202.1).size + 1 ≤ 9223372036854775807 then ((spec_l11DrawFew.f k x1000 bt205.2.1 bt205.2.2).bind fun bt214 => ((spec_l11Show.f bt214.1).bind fun t217 => (if (((⟨#[115, 101, 116, 32]⟩ : ByteArray) ++ bt202.1) ++ (⟨#[32]⟩ : ByteArray)).size + t217.size ≤ 9223372036854775807 then (some ((((⟨#[115, 101, 116, 32]⟩ : ByteArray) ++ bt202.1) ++ (⟨#[32]⟩ : ByteArray)) ++ t217, bt214.2.1, bt214.2.2)) else (none)))) else (none)) else (none)) else (if bt205.1 = 2 then ((spec_l00Src_text.f x1000 bt205.2.1 bt205.2.2 (([(⟨#[115, 104, 111, 119, 32]⟩ : ByteArray), (⟨#[100, 114, 111, 112, 32]⟩ : ByteArray), (⟨#[115, 104, 111, 119, 32]⟩ : ByteArray)] : List ByteArray))).bind fun bt221 => (if bt221.1.size + x5.size ≤ 9223372036854775807 then (some (bt221.1 ++ x5, bt221.2.1, bt221.2.2)) else (none))) else (if bt205.1 = 3 then (if 5 + x5.size ≤ 9223372036854775807 then (if ((⟨#[102, 108, 105, 112, 32]⟩ : ByteArray) ++ x5).size + 1 ≤ 9223372036854775807 then ((spec_l00Src_pick.f x1000 bt205.2.1 bt205.2.2 26).bind fun bt224 => ((spec_l01Dec.f k (wrap64 (bt224.1 - 1))).bind fun t227 => (if (((⟨#[102, 108, 105, 112, 32]⟩ : ByteArray) ++ x5) ++ (⟨#[32]⟩ : ByteArray)).size + t227.size ≤ 9223372036854775807 then (some ((((⟨#[102, 108, 105, 112, 32]⟩ : ByteArray) ++ x5) ++ (⟨#[32]⟩ : ByteArray)) ++ t227, bt224.2.1, bt224.2.2)) else (none)))) else (none)) else (none)) else (if bt205.1 = 4 then ((spec_l00Src_pick.f x1000 bt205.2.1 bt205.2.2 5).bind fun bt231 => (spec_l11DrawLine.l0 k bt202.1 (([] : List Int)) bt231.1 x1000 bt231.2.1 bt231.2.2)) else (if bt205.1 = 5 then ((spec_l00Src_pick.f x1000 bt205.2.1 bt205.2.2 2).bind fun bt245 => (if 5 + x5.size ≤ 9223372036854775807 then (if ((⟨#[100, 97, 116, 97, 32]⟩ : ByteArray) ++ x5).size + 1 ≤ 9223372036854775807 then ((spec_l00Src_pick.f x1000 bt245.2.1 bt245.2.2 2).bind fun bt248 => ((spec_l01Dec.f k (wrap64 (1 + bt248.1))).bind fun t251 => (if (((⟨#[100, 97, 116, 97, 32]⟩ : ByteArray) ++ x5) ++ (⟨#[32]⟩ : ByteArray)).size + t251.size ≤ 9223372036854775807 then (if ((((⟨#[100, 97, 116, 97, 32]⟩ : ByteArray) ++ x5) ++ (⟨#[32]⟩ : ByteArray)) ++ t251).size + 1 ≤ 9223372036854775807 then (if (((((⟨#[100, 97, 116, 97, 32]⟩ : ByteArray) ++ x5) ++ (⟨#[32]⟩ : ByteArray)) ++ t251) ++ (⟨#[32]⟩ : ByteArray)).size + 2 ≤ 9223372036854775807 then ((spec_l01Dec.f k (wrap64 ((wrap64 (2 * bt245.1)) - 1))).bind fun t252 => (if ((((((⟨#[100, 97, 116, 97, 32]⟩ : ByteArray) ++ x5) ++ (⟨#[32]⟩ : ByteArray)) ++ t251) ++ (⟨#[32]⟩ : ByteArray)) ++ (⟨#[52, 32]⟩ : ByteArray)).size + t252.size ≤ 9223372036854775807 then (some (((((((⟨#[100, 97, 116, 97, 32]⟩ : ByteArray) ++ x5) ++ (⟨#[32]⟩ : ByteArray)) ++ t251) ++ (⟨#[32]⟩ : ByteArray)) ++ (⟨#[52, 32]⟩ : ByteArray)) ++ t252, bt248.2.1, bt248.2.2)) else (none))) else (none)) else (none)) else (none)))) else (none)) else (none))) else (if bt205.1 = 6 then ((spec_l00Src_text.f x1000 bt205.2.1 bt205.2.2 (([(⟨#[108, 97, 121, 32]⟩ : ByteArray), (⟨#[117, 110, 108, 97, 121, 32]⟩ : ByteArray), (⟨#[99, 108, 111, 99, 107, 32]⟩ : ByteArray)] : List ByteArray))).bind fun bt256 => ((spec_l00Src_pick.f x1000 bt256.2.1 bt256.2.2 12).bind fun bt259 => (if bt256.1.size + bt202.1.size ≤ 9223372036854775807 then (if (bt256.1 ++ bt202.1).size + 1 ≤ 9223372036854775807 then (if ((bt256.1 ++ bt202.1) ++ (⟨#[32]⟩ : ByteArray)).size + x5.size ≤ 9223372036854775807 then (if (((bt256.1 ++ bt202.1) ++ (⟨#[32]⟩ : ByteArray)) ++ x5).size + 1 ≤ 9223372036854775807 then ((spec_l01Dec.f k (wrap64 (1 + bt259.1))).bind fun t262 => (if ((((bt256.1 ++ bt202.1) ++ (⟨#[32]⟩ : ByteArray)) ++ x5) ++ (⟨#[32]⟩ : ByteArray)).size + t262.size ≤ 9223372036854775807 then (if (((((bt256.1 ++ bt202.1) ++ (⟨#[32]⟩ : ByteArray)) ++ x5) ++ (⟨#[32]⟩ : ByteArray)) ++ t262).size + 1 ≤ 9223372036854775807 then ((spec_l00Src_pick.f x1000 bt259.2.1 bt259.2.2 12).bind fun bt263 => ((spec_l01Dec.f k (wrap64 (1 + bt263.1))).bind fun t266 => (if ((((((bt256.1 ++ bt202.1) ++ (⟨#[32]⟩ : ByteArray)) ++ x5) ++ (⟨#[32]⟩ : ByteArray)) ++ t262) ++ (⟨#[32]⟩ : ByteArray)).size + t266.size ≤ 9223372036854775807 then (some (((((((bt256.1 ++ bt202.1) ++ (⟨#[32]⟩ : ByteArray)) ++ x5) ++ (⟨#[32]⟩ : ByteArray)) ++ t262) ++ (⟨#[32]⟩ : ByteArray)) ++ t266, bt263.2.1, bt263.2.2)) else (none)))) else (none)) else (none))) else (none)) else (none)) else (none)) else (none)))) else (if bt205.1 = 7 then ((spec_l00Src_text.f x1000 bt205.2.1 bt205.2.2 (([(⟨#[114, 101, 112, 101, 97, 116, 32]⟩ : ByteArray), (⟨#[118, 111, 116, 101, 32]⟩ : ByteArray)] : List ByteArray))).bind fun bt270 => (if bt270.1.size + bt202.1.size ≤ 9223372036854775807 then (if (bt270.1 ++ bt202.1).size + 1 ≤ 9223372036854775807 then (if ((bt270.1 ++ bt202.1) ++ (⟨#[32]⟩ : ByteArray)).size + x5.size ≤ 9223372036854775807 then (if (((bt270.1 ++ bt202.1) ++ (⟨#[32]⟩ : ByteArray)) ++ x5).size + 1 ≤ 9223372036854775807 then ((spec_l00Src_pick.f x1000 bt270.2.1 bt270.2.2 3).bind fun bt273 => ((spec_l01Dec.f k (wrap64 (1 + (wrap64 (2 * bt273.1))))).bind fun t276 => (if ((((bt270.1 ++ bt202.1) ++ (⟨#[32]⟩ : ByteArray)) ++ x5) ++ (⟨#[32]⟩ : ByteArray)).size + t276.size ≤ 9223372036854775807 then (some (((((bt270.1 ++ bt202.1) ++ (⟨#[32]⟩ : ByteArray)) ++ x5) ++ (⟨#[32]⟩ : ByteArray)) ++ t276, bt273.2.1, bt273.2.2)) else (none)))) else (none)) else (none)) else (none)) else (none))) else ((spec_l00Src_among.f x1000 bt205.2.1 bt205.2.2 (([11, 13, 19, 7, 2, 1] : List Int))).bind fun bt280 => ((spec_l00Src_one.f x1000 bt280.2.1 bt280.2.2 2).bind fun bt283 => (if bt283.1 = true then (if 7 + x5.size ≤ 9223372036854775807 then (if ((⟨#[118, 101, 114, 105, 102, 121, 32]⟩ : ByteArray) ++ x5).size + 1 ≤ 9223372036854775807 then ((spec_l01Dec.f k bt280.1).bind fun t286 => (if (((⟨#[118, 101, 114, 105, 102, 121, 32]⟩ : ByteArray) ++ x5) ++ (⟨#[32]⟩ : ByteArray)).size + t286.size ≤ 9223372036854775807 then (some ((((⟨#[118, 101, 114, 105, 102, 121, 32]⟩ : ByteArray) ++ x5) ++ (⟨#[32]⟩ : ByteArray)) ++ t286, bt283.2.1, bt283.2.2)) else (none))) else (none)) else (none)) else (if 6 + bt202.1.size ≤ 9223372036854775807 then (if ((⟨#[99, 104, 101, 99, 107, 32]⟩ : ByteArray) ++ bt202.1).size + 1 ≤ 9223372036854775807 then (if (((⟨#[99, 104, 101, 99, 107, 32]⟩ : ByteArray) ++ bt202.1) ++ (⟨#[32]⟩ : ByteArray)).size + x5.size ≤ 9223372036854775807 then (if ((((⟨#[99, 104, 101, 99, 107, 32]⟩ : ByteArray) ++ bt202.1) ++ (⟨#[32]⟩ : ByteArray)) ++ x5).size + 1 ≤ 9223372036854775807 then ((spec_l01Dec.f k bt280.1).bind fun t287 => (if (((((⟨#[99, 104, 101, 99, 107, 32]⟩ : ByteArray) ++ bt202.1) ++ (⟨#[32]⟩ : ByteArray)) ++ x5) ++ (⟨#[32]⟩ : ByteArray)).size + t287.size ≤ 9223372036854775807 then (some ((((((⟨#[99, 104, 101, 99, 107, 32]⟩ : ByteArray) ++ bt202.1) ++ (⟨#[32]⟩ : ByteArray)) ++ x5) ++ (⟨#[32]⟩ : ByteArray)) ++ t287, bt283.2.1, bt283.2.2)) else (none))) else (none)) else (none)) else (none)) else (none))))))))))))))
def spec_l11DrawLine.l0 : Nat → ByteArray → List Int → Int → List Int → Int → Int → Option (ByteArray × Int × Int)
 | 0, _, _, _, _, _, _ => none
 | k + 1, x6, x8, x9, x1000, x1001, x1002 => if x9 > 0 then ((spec_l00Src_pick.f x1000 x1001 x1002 4).bind fun bt234 => (if x8.length < 17592186044416 then (spec_l11DrawLine.l0 k x6 (x8 ++ [bt234.1]) (wrap64 (x9 - 1)) x1000 bt234.2.1 bt234.2.2) else (none))) else ((spec_l00Src_pick.f x1000 x1001 x1002 2).bind fun bt240 => (if 7 + x6.size ≤ 9223372036854775807 then (if ((⟨#[98, 108, 111, 99, 107, 115, 32]⟩ : ByteArray) ++ x6).size + 5 ≤ 9223372036854775807 then ((spec_l01Dec.f k (wrap64 ((wrap64 (2 * bt240.1)) - 1))).bind fun t243 => (if (((⟨#[98, 108, 111, 99, 107, 115, 32]⟩ : ByteArray) ++ x6) ++ (⟨#[32, 50, 32, 52, 32]⟩ : ByteArray)).size + t243.size ≤ 9223372036854775807 then (if ((((⟨#[98, 108, 111, 99, 107, 115, 32]⟩ : ByteArray) ++ x6) ++ (⟨#[32, 50, 32, 52, 32]⟩ : ByteArray)) ++ t243).size + 1 ≤ 9223372036854775807 then ((spec_l01Text.f k x8).bind fun t244 => (if (((((⟨#[98, 108, 111, 99, 107, 115, 32]⟩ : ByteArray) ++ x6) ++ (⟨#[32, 50, 32, 52, 32]⟩ : ByteArray)) ++ t243) ++ (⟨#[32]⟩ : ByteArray)).size + t244.size ≤ 9223372036854775807 then (some ((((((⟨#[98, 108, 111, 99, 107, 115, 32]⟩ : ByteArray) ++ x6) ++ (⟨#[32, 50, 32, 52, 32]⟩ : ByteArray)) ++ t243) ++ (⟨#[32]⟩ : ByteArray)) ++ t244, bt240.2.1, bt240.2.2)) else (none))) else (none)) else (none))) else (none)) else (none)))
end
def spec_l11DrawLine.f (k : Nat) (s0_0 : List Int) (s0_1 : Int) (s0_2 : Int) (l1 : List ByteArray) : Option (ByteArray × Int × Int) := (spec_l00Src_text.f s0_0 s0_1 s0_2 (([(⟨#[97]⟩ : ByteArray), (⟨#[98]⟩ : ByteArray), (⟨#[110, 105, 120]⟩ : ByteArray), (⟨#[]⟩ : ByteArray)] : List ByteArray))).bind fun bt190 => (if (l1.length : Int) > 0 then ((spec_l00Src_one.f s0_0 bt190.2.1 bt190.2.2 6).bind fun bt193 => (spec_l11DrawLine.j0 k l1 bt190.1 (!bt193.1) s0_0 bt193.2.1 bt193.2.2)) else (spec_l11DrawLine.j0 k l1 bt190.1 false s0_0 bt190.2.1 bt190.2.2))
theorem spec_l11DrawLine.mono_l : ∀ k, (∀ y0 y1 y2 y3 y4 y5, LeO (spec_l11DrawLine.j0 k y0 y1 y2 y3 y4 y5) (spec_l11DrawLine.j0 (k + 1) y0 y1 y2 y3 y4 y5)) ∧ (∀ y0 y1 y2 y3, LeO (spec_l11DrawLine.j1 k y0 y1 y2 y3) (spec_l11DrawLine.j1 (k + 1) y0 y1 y2 y3)) ∧ (∀ y0 y1 y2 y3 y4 y5, LeO (spec_l11DrawLine.l0 k y0 y1 y2 y3 y4 y5) (spec_l11DrawLine.l0 (k + 1) y0 y1 y2 y3 y4 y5))
 | 0 => ⟨fun _ _ _ _ _ _ r h => by simp [spec_l11DrawLine.j0] at h, fun _ _ _ _ r h => by simp [spec_l11DrawLine.j1] at h, fun _ _ _ _ _ _ r h => by simp [spec_l11DrawLine.l0] at h⟩
 | k + 1 => by
  obtain ⟨ih0, ih1, ih2⟩ := spec_l11DrawLine.mono_l k
  refine ⟨?_, ?_, ?_⟩
  ·intro y0 y1 y2 y3 y4 y5
   unfold spec_l11DrawLine.j0
   repeat' first
   | (with_reducible exact ih0 _ _ _ _ _ _)
   | (with_reducible exact ih1 _ _ _ _)
   | (with_reducible exact ih2 _ _ _ _ _ _)
   | (with_reducible exact spec_l01Dec.mono _ _)
   | (with_reducible exact spec_l01Text.mono _ _)
   | (with_reducible exact spec_l11DrawFew.mono _ _ _ _)
   | (with_reducible exact LeO.refl _)
   | (with_reducible exact LeO.none _)
   | (with_reducible refine LeO.ite ?_ ?_)
   | (with_reducible refine LeO.bind ?_ (fun _ => ?_))
   | exact ih0 _ _ _ _ _ _
   | exact ih1 _ _ _ _
   | exact ih2 _ _ _ _ _ _
   | exact spec_l01Dec.mono _ _
   | exact spec_l01Text.mono _ _
   | exact spec_l11DrawFew.mono _ _ _ _
   | exact LeO.none _
   | refine LeO.ite ?_ ?_
   | refine LeO.bind ?_ (fun _ => ?_)
  ·intro y0 y1 y2 y3
   unfold spec_l11DrawLine.j1
   repeat' first
   | (with_reducible exact ih0 _ _ _ _ _ _)
   | (with_reducible exact ih1 _ _ _ _)
   | (with_reducible exact ih2 _ _ _ _ _ _)
   | (with_reducible exact spec_l01Dec.mono _ _)
   | (with_reducible exact spec_l01Text.mono _ _)
   | (with_reducible exact spec_l11DrawFew.mono _ _ _ _)
   | (with_reducible exact LeO.refl _)
   | (with_reducible exact LeO.none _)
   | (with_reducible refine LeO.ite ?_ ?_)
   | (with_reducible refine LeO.bind ?_ (fun _ => ?_))
   | exact ih0 _ _ _ _ _ _
   | exact ih1 _ _ _ _
   | exact ih2 _ _ _ _ _ _
   | exact spec_l01Dec.mono _ _
   | exact spec_l01Text.mono _ _
   | exact spec_l11DrawFew.mono _ _ _ _
   | exact LeO.none _
   | refine LeO.ite ?_ ?_
   | refine LeO.bind ?_ (fun _ => ?_)
  ·intro y0 y1 y2 y3 y4 y5
   unfold spec_l11DrawLine.l0
   repeat' first
   | (with_reducible exact ih0 _ _ _ _ _ _)
   | (with_reducible exact ih1 _ _ _ _)
   | (with_reducible exact ih2 _ _ _ _ _ _)
   | (with_reducible exact spec_l01Dec.mono _ _)
   | (with_reducible exact spec_l01Text.mono _ _)
   | (with_reducible exact spec_l11DrawFew.mono _ _ _ _)
   | (with_reducible exact LeO.refl _)
   | (with_reducible exact LeO.none _)
   | (with_reducible refine LeO.ite ?_ ?_)
   | (with_reducible refine LeO.bind ?_ (fun _ => ?_))
   | exact ih0 _ _ _ _ _ _
   | exact ih1 _ _ _ _
   | exact ih2 _ _ _ _ _ _
   | exact spec_l01Dec.mono _ _
   | exact spec_l01Text.mono _ _
   | exact spec_l11DrawFew.mono _ _ _ _
   | exact LeO.none _
   | refine LeO.ite ?_ ?_
   | refine LeO.bind ?_ (fun _ => ?_)
theorem spec_l11DrawLine.mono : ∀ a0 a1 a2 a3 k, LeO (spec_l11DrawLine.f k a0 a1 a2 a3) (spec_l11DrawLine.f (k + 1) a0 a1 a2 a3) := by
 intro a0 a1 a2 a3 k
 obtain ⟨ih0, ih1, ih2⟩ := spec_l11DrawLine.mono_l k
 unfold spec_l11DrawLine.f
 repeat' first
  | (with_reducible exact ih0 _ _ _ _ _ _)
  | (with_reducible exact ih1 _ _ _ _)
  | (with_reducible exact ih2 _ _ _ _ _ _)
  | (with_reducible exact spec_l01Dec.mono _ _)
  | (with_reducible exact spec_l01Text.mono _ _)
  | (with_reducible exact spec_l11DrawFew.mono _ _ _ _)
  | (with_reducible exact LeO.refl _)
  | (with_reducible exact LeO.none _)
  | (with_reducible refine LeO.ite ?_ ?_)
  | (with_reducible refine LeO.bind ?_ (fun _ => ?_))
  | exact ih0 _ _ _ _ _ _
  | exact ih1 _ _ _ _
  | exact ih2 _ _ _ _ _ _
  | exact spec_l01Dec.mono _ _
  | exact spec_l01Text.mono _ _
  | exact spec_l11DrawFew.mono _ _ _ _
  | exact LeO.none _
  | refine LeO.ite ?_ ?_
  | refine LeO.bind ?_ (fun _ => ?_)
theorem pt_cell {w w1 : World} {g b j : Nat} {v : Value} (h : KeepBut w w1 g none) (hc : w.cell? ⟨b, j, none⟩ = some v) (hb : b ≠ g) : w1.cell? ⟨b, j, none⟩ = some v := by
 have hl := World.block_lt_of_cell? w _ hc
 have e := h.2 b hl hb (by simp)
 unfold World.cell? at hc ⊢
 rw [e]; exact hc

end Go.Proofs.YtohdepanfnaddaaDoor.QFnJournal
