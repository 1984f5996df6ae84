/- FnExactSyncWord: functions that it reaches, with what they compute and the proof that they do; written by a program of this session (wip/myprint.py). -/
import Derived.Test.YtohdepanfnaddaaDoorQFnExactSyncWordx0
import Derived.Test.YtohdepanfnaddaaDoorQFnExactSyncWordx5
namespace Go.Proofs.YtohdepanfnaddaaDoor.QFnExactSyncWord
open Go.RowKit Go.Proofs.YtohdepanfnaddaaDoorW.PrintWords Go.Proofs.YtohdepanfnaddaaDoorW.PrintLast Go.Proofs.YtohdepanfnaddaaDoorW.PrintMore
attribute [local go_sem] max2_int min2_int max_two min_two max_three min_three max_four min_four   -- for this text's walks alone
set_option linter.unusedVariables false
set_option linter.unusedSimpArgs false

/-! ### impl_kraft: function 101 -/
def impl_kraft.l0 : Nat → Int → List ByteArray → Int → Int → Option (Int)
  | 0, _, _, _, _ => none
  | k + 1, x3, x6, x7, x8 => if x8 < x7 then (if 0 ≤ x8 then (if x8 < (x6.length : Int) then (if 0 ≤ (wrap64 (12 - ((rdOf ByteArray.empty x6 x8).size : Int))) then (impl_kraft.l0 k (wrap64 (x3 + (shl .i64 1 (wrap64 (12 - ((rdOf ByteArray.empty x6 x8).size : Int)))))) x6 x7 (wrap64 (x8 + 1))) else (none)) else (none)) else (none)) else (some x3)
def impl_kraft.f (k : Nat) (l0 : List ByteArray) : Option (Int) := impl_kraft.l0 k 0 l0 (l0.length : Int) 0
theorem impl_kraft.mono_l : ∀ k, (∀ y0 y1 y2 y3, LeO (impl_kraft.l0 k y0 y1 y2 y3) (impl_kraft.l0 (k + 1) y0 y1 y2 y3))
  | 0 => fun _ _ _ _ r h => by simp [impl_kraft.l0] at h
  | k + 1 => by
    have ih0 := impl_kraft.mono_l k
    · intro y0 y1 y2 y3
      unfold impl_kraft.l0
      repeat' first
      | (with_reducible exact ih0 _ _ _ _)
      | (with_reducible exact LeO.refl _)
      | (with_reducible exact LeO.none _)
      | (with_reducible refine LeO.ite ?_ ?_)
      | (with_reducible refine LeO.bind ?_ (fun _ => ?_))
      | exact ih0 _ _ _ _
      | exact LeO.none _
      | refine LeO.ite ?_ ?_
      | refine LeO.bind ?_ (fun _ => ?_)
theorem impl_kraft.mono : ∀ a0 k, LeO (impl_kraft.f k a0) (impl_kraft.f (k + 1) a0) := by
  intro a0 k
  have ih0 := impl_kraft.mono_l k
  unfold impl_kraft.f
  repeat' first
      | (with_reducible exact ih0 _ _ _ _)
      | (with_reducible exact LeO.refl _)
      | (with_reducible exact LeO.none _)
      | (with_reducible refine LeO.ite ?_ ?_)
      | (with_reducible refine LeO.bind ?_ (fun _ => ?_))
      | exact ih0 _ _ _ _
      | exact LeO.none _
      | refine LeO.ite ?_ ?_
      | refine LeO.bind ?_ (fun _ => ?_)
set_option maxHeartbeats 8000000 in
set_option maxRecDepth 100000 in
theorem impl_kraft.calls (k : Nat) (A0 : Option Addr) (c0 : Nat) (l0 : List ByteArray) (r : Int) (w : World) (hr0 : Kd.C Kd.string w A0 l0.length l0) (hc0 : l0.length ≤ c0) (h : impl_kraft.f k l0 = some r) :
    Calls Tryd.prog 101 #[.slice A0 l0.length c0] w fun e w' => e = .returned (.int .i64 r) ∧ Drawn0 w w' := by
  have HR0 := Aside0.mk hr0
  have HC0 := Aside0.mk hc0
  clear hr0 hc0
  have H : (impl_kraft.l0 k 0 l0 (l0.length : Int) 0) = some r := h
  clear h
  have H' := Aside0.mk H
  clear H
  go_enter Tryd.func101, Tryd.ntmps101
  go_wp2
  go_loopg [3, 8] k (fun kq v3 v8 w' => ∃ (x3_1 : Int) (x8_1 : Int), v3 = .int .i64 x3_1 ∧ v8 = .int .i64 x8_1 ∧ Aside0 (impl_kraft.l0 kq x3_1 l0 (l0.length : Int) x8_1 = some r) ∧ Aside0 (kq ≤ k) ∧ Drawn0 w w')
  case atStart => exact ⟨(0), (0), (by first | rfl | (simp; done) | (simp [*]; done)), (by first | rfl | (simp; done) | (simp [*]; done)), H', ⟨Nat.le_refl _⟩, by repeat (first | exact Drawn0.refl _ | apply Drawn0.step)⟩
  case round =>
    clear H'
    try clear c1
    obtain ⟨x3_1, x8_1, rfl, rfl, HA, HK1, ⟨m1, rfl⟩⟩ := hrel
    cases gk with
    | zero => exact absurd HA.out (by simp [impl_kraft.l0])
    | succ k1 =>
      have H := HA.out
      clear HA
      simp only [impl_kraft.l0] at H
      by_cases c2 : x8_1 < (l0.length : Int)
      · rw [if_pos c2] at H
        have c2b0 : decide (x8_1 < (l0.length : Int)) = true := decide_eq_true c2
        clear c2
        by_cases c3 : 0 ≤ x8_1
        · rw [if_pos c3] at H
          have c3b0 : decide (0 ≤ x8_1) = true := decide_eq_true c3
          clear c3
          by_cases c4 : x8_1 < (l0.length : Int)
          · rw [if_pos c4] at H
            have c4b0 : decide (x8_1 < (l0.length : Int)) = true := decide_eq_true c4
            clear c4
            obtain ⟨ji5, hji5⟩ : ∃ j_ : Int, (wrap64 (12 - ((rdOf ByteArray.empty l0 x8_1).size : Int))) = j_ := ⟨_, rfl⟩
            replace H : (if 0 ≤ (ji5) then (impl_kraft.l0 k1 (wrap64 (x3_1 + (shl .i64 1 (ji5)))) l0 (l0.length : Int) (wrap64 (x8_1 + 1))) else (none)) = some r := by first | (rw [hji5] at H; exact H) | (simp only [hji5] at H ⊢; exact H)
            have hji5w : (IntKind.i64.wrap (12 - ((rdOf ByteArray.empty l0 x8_1).size : Int))) = ji5 := (i64_w _).trans hji5
            (try rw [hji5])
            by_cases c6 : 0 ≤ (ji5)
            · rw [if_pos c6] at H
              have c6b0 := eq_true c6
              have c6b1 : decide (0 ≤ (ji5)) = true := decide_eq_true c6
              clear c6
              obtain ⟨ji7, hji7⟩ : ∃ j_ : Int, (shl .i64 1 (ji5)) = j_ := ⟨_, rfl⟩
              replace H : (impl_kraft.l0 k1 (wrap64 (x3_1 + (ji7))) l0 (l0.length : Int) (wrap64 (x8_1 + 1))) = some r := by first | (rw [hji7] at H; exact H) | (simp only [hji7] at H ⊢; exact H)
              have hji7_ : (IntKind.i64.wrap (1 * 2 ^ min (ji5).toNat 64)) = ji7 := hji7
              have hji7z : (ji5) ≤ 64 → (IntKind.i64.wrap (1 * 2 ^ (ji5).toNat)) = ji7 := shl_small hji7
              have hji7u : (IntKind.i64.wrap (2 ^ min (ji5).toNat 64)) = ji7 := by have h_ := hji7_; rw [Int.one_mul] at h_; exact h_
              have hji7v : (ji5) ≤ 64 → (IntKind.i64.wrap (2 ^ (ji5).toNat)) = ji7 := fun hle_ => by have h_ := hji7z hle_; rw [Int.one_mul] at h_; exact h_
              have hji7y : (wrap64 (1 * 2 ^ min (ji5).toNat 64)) = ji7 := (i64_w _).symm.trans hji7_
              have hji7x : (ji5) ≤ 64 → (wrap64 (1 * 2 ^ (ji5).toNat)) = ji7 := fun h_ => (i64_w _).symm.trans (hji7z h_)
              have H' := Aside0.mk H
              clear H
              have p197 : 0 ≤ (x8_1 : Int) := of_decide_eq_true (by first | (with_reducible assumption) | assumption)
              have q197 : x8_1 < (l0.length : Int) := of_decide_eq_true (by first | (with_reducible assumption) | assumption)
              obtain ⟨ad197, e197, hx197_0⟩ := Kd.at_string HR0.out x8_1 p197 q197
              cases e197
              replace p197 := eq_true p197
              replace q197 := eq_true q197
              go_wp2
              go_roundg k1
              case measure => have := HK1.out; omega
              case rel => exact ⟨(wrap64 (x3_1 + (ji7))), (wrap64 (x8_1 + 1)), (by first | rfl | (simp; done) | (simp only [← hji7] <;> (first | rfl | simp)) | (simp [*]; done)), (by first | rfl | (simp; done) | (simp [*]; done)), H', ⟨by have := HK1.out; omega⟩, by repeat (first | exact Drawn0.refl _ | apply Drawn0.step)⟩
            · rw [if_neg c6] at H
              exact absurd H (by simp)
          · rw [if_neg c4] at H
            exact absurd H (by simp)
        · rw [if_neg c3] at H
          exact absurd H (by simp)
      · rw [if_neg c2] at H
        have c2b0 : decide (x8_1 < (l0.length : Int)) = false := decide_eq_false c2
        clear c2
        obtain rfl := Option.some.inj H
        go_wp2
        go_ret
        exact ⟨by first | rfl | (simp; done) | (simp [*]; done), by repeat (first | exact Drawn0.refl _ | apply Drawn0.step)⟩

/-! ### impl_IsCompleteCode: function 67 -/
def impl_IsCompleteCode.f (k : Nat) (l0 : List ByteArray) : Option (Bool) := (impl_IsPrefixCode.f k l0).bind fun t198 => (if t198 = true then ((impl_kraft.f k l0).bind fun t199 => (some (t199 == 4096))) else (some false))
theorem impl_IsCompleteCode.mono : ∀ a0 k, LeO (impl_IsCompleteCode.f k a0) (impl_IsCompleteCode.f (k + 1) a0) := by
  intro a0 k
  unfold impl_IsCompleteCode.f
  repeat' first
      | (with_reducible exact impl_IsPrefixCode.mono _ _)
      | (with_reducible exact impl_kraft.mono _ _)
      | (with_reducible exact LeO.refl _)
      | (with_reducible exact LeO.none _)
      | (with_reducible refine LeO.ite ?_ ?_)
      | (with_reducible refine LeO.bind ?_ (fun _ => ?_))
      | exact impl_IsPrefixCode.mono _ _
      | exact impl_kraft.mono _ _
      | exact LeO.none _
      | refine LeO.ite ?_ ?_
      | refine LeO.bind ?_ (fun _ => ?_)
set_option maxHeartbeats 8000000 in
set_option maxRecDepth 100000 in
theorem impl_IsCompleteCode.calls (k : Nat) (A0 : Option Addr) (c0 : Nat) (l0 : List ByteArray) (r : Bool) (w : World) (hr0 : Kd.C Kd.string w A0 l0.length l0) (hc0 : l0.length ≤ c0) (h : impl_IsCompleteCode.f k l0 = some r) :
    Calls Tryd.prog 67 #[.slice A0 l0.length c0] w fun e w' => e = .returned (.bool r) ∧ Below w.heap.size w w' := by
  have HR0 := Aside0.mk hr0
  have HC0 := Aside0.mk hc0
  clear hr0 hc0
  have HB := Aside0.mk (Below.refl w.heap.size w)
  have H : ((impl_IsPrefixCode.f k l0).bind fun t198 => (if t198 = true then ((impl_kraft.f k l0).bind fun t199 => (some (t199 == 4096))) else (some false))) = some r := h
  clear h
  replace H := Option.bind_eq_some_iff.mp H
  obtain ⟨t198, A20, H⟩ := H
  replace H : (if t198 = true then ((impl_kraft.f k l0).bind fun t199 => (some (t199 == 4096))) else (some false)) = some r := H
  have A2 := Aside0.mk A20
  clear A20
  by_cases c3 : t198 = true
  · subst c3
    have H1 : ((impl_kraft.f k l0).bind fun t199 => (some (t199 == 4096))) = some r := by rw [if_pos rfl] at H; exact H
    clear H
    have H := H1
    clear H1
    replace H := Option.bind_eq_some_iff.mp H
    obtain ⟨t199, A40, H⟩ := H
    replace H : (some (t199 == 4096)) = some r := H
    have A4 := Aside0.mk A40
    clear A40
    obtain rfl := Option.some.inj H
    go_enter Tryd.func67, Tryd.ntmps67
    go_wp2_with (first | ((with_reducible refine gate_callee (f := 100) rfl ?_); refine goesL_ (some 4) rfl rfl Tryd.func100 (by kernel_rfl) rfl #[.slice A0 l0.length c0] rfl (by (try simp only [List.map_toArray, List.map_cons, List.map_nil]); first | done | rfl | (simp only [List.length_drop, List.length_take]; rfl)) ?_; (with_reducible refine (impl_IsPrefixCode.calls k _ _ l0 true _ ?side1 ?side2 A2.out).mono ?_); (case side1 => repeat (first | exact HR0.out | (with_reducible refine Kd.C_alloc ?_ _) | (with_reducible refine Kd.C_drewN ?_ _) | (with_reducible refine Kd.C_drew ?_))); (case side2 => exact HC0.out); rintro e w5 ⟨rfl, hb⟩; refine ⟨_, rfl, ?_⟩; have n0_ := Aside0.mk (below_step (by repeat (first | (with_reducible first | exact HB.out | apply below_alloc | apply pw_below_drewN | apply below_drew1) | exact HB.out)) hb); clear HB; have HB := n0_; clear n0_; (try clear hb); (try clear hb2); (try clear hk); (try clear hi)) | (go_at_call 101; (with_reducible refine (impl_kraft.calls k _ _ l0 t199 _ ?side1 ?side2 A4.out).mono ?_); (case side1 => repeat (first | exact (Kd.C_below HR0.out HB.out) | (with_reducible refine Kd.C_alloc ?_ _) | (with_reducible refine Kd.C_drewN ?_ _) | (with_reducible refine Kd.C_drew ?_))); (case side2 => exact HC0.out); rintro e w' ⟨rfl, ⟨nd, rfl⟩⟩))
    go_ret
    exact ⟨by first | rfl | (simp [errW_none, errW_some] <;> rfl) | (simp [*, errW_none, errW_some] <;> rfl), by repeat (first | (with_reducible first | exact HB.out | apply below_alloc | apply pw_below_drewN | apply below_drew1) | exact HB.out)⟩
  · replace c3 := Bool.eq_false_iff.mpr c3
    subst c3
    have H1 : (some false) = some r := by rw [if_neg (show ¬ (false = true) by decide)] at H; exact H
    clear H
    have H := H1
    clear H1
    obtain rfl := Option.some.inj H
    go_enter Tryd.func67, Tryd.ntmps67
    go_wp2_with (first | ((with_reducible refine gate_callee (f := 100) rfl ?_); refine goesL_ (some 4) rfl rfl Tryd.func100 (by kernel_rfl) rfl #[.slice A0 l0.length c0] rfl (by (try simp only [List.map_toArray, List.map_cons, List.map_nil]); first | done | rfl | (simp only [List.length_drop, List.length_take]; rfl)) ?_; (with_reducible refine (impl_IsPrefixCode.calls k _ _ l0 false _ ?side1 ?side2 A2.out).mono ?_); (case side1 => repeat (first | exact HR0.out | (with_reducible refine Kd.C_alloc ?_ _) | (with_reducible refine Kd.C_drewN ?_ _) | (with_reducible refine Kd.C_drew ?_))); (case side2 => exact HC0.out); rintro e w6 ⟨rfl, hb⟩; refine ⟨_, rfl, ?_⟩; have n0_ := Aside0.mk (below_step (by repeat (first | (with_reducible first | exact HB.out | apply below_alloc | apply pw_below_drewN | apply below_drew1) | exact HB.out)) hb); clear HB; have HB := n0_; clear n0_; (try clear hb); (try clear hb2); (try clear hk); (try clear hi)))
    go_ret
    exact ⟨by first | rfl | (simp [errW_none, errW_some] <;> rfl) | (simp [*, errW_none, errW_some] <;> rfl), by repeat (first | (with_reducible first | exact HB.out | apply below_alloc | apply pw_below_drewN | apply below_drew1) | exact HB.out)⟩

/-! ### slices_Sort_string_string: function 76 -/
/-- Texts in their order. -/
def sortT (xs : List ByteArray) : List ByteArray := ((xs.map (fun x => x.data.toList)).mergeSort fun x y => decide (x ≤ y)).map (fun l => (⟨l.toArray⟩ : ByteArray))
theorem sortT_length (xs : List ByteArray) : (sortT xs).length = xs.length := by unfold sortT; simp
theorem encs_str (ls : List (List UInt8)) : ls.map encStr = encs Value.string (ls.map (fun l => (⟨l.toArray⟩ : ByteArray))) := by
  unfold encs
  rw [List.map_map]
  rfl
theorem lists_str (xs : List ByteArray) : (xs.map (fun x => x.data.toList)).map (fun l => (⟨l.toArray⟩ : ByteArray)) = xs := by
  rw [List.map_map]
  conv => rhs; rw [← List.map_id xs]
  exact List.map_congr_left (fun x _ => ByteArray.ext (Array.ext' rfl))
def slices_Sort_string_string.f (l0 : List ByteArray) : Option (List ByteArray) := if l0.length < 4611686018427387904 then some (sortT l0) else none
theorem slices_Sort_string_string.calls (P0_ : Nat → Prop) (u9000_ : Value) (l0 r1 : List ByteArray) (w0 w : World) (hB : Below w0.heap.size w0 w) (ho0 : Kd.R Kd.string 9 w w0.heap.size P0_ u9000_ l0) (h : slices_Sort_string_string.f l0 = some r1) :
    Calls Tryd.prog 76 #[u9000_] w fun e w' => e = .returned (.tuple #[]) ∧ Kd.R Kd.string 9 w' w0.heap.size (fun k_ => (P0_ k_ ∨ w.heap.size ≤ k_)) u9000_ r1 ∧ Below w0.heap.size w0 w' ∧ Kept w w' (fun k_ => P0_ k_) := by
  unfold slices_Sort_string_string.f at h
  by_cases hl : l0.length < 4611686018427387904
  · rw [if_pos hl] at h
    obtain rfl := Option.some.inj h
    have hown := Kd.own_of_R ho0
    have hok := ho0.1
    rcases hown.2 with ⟨rfl, hn⟩ | ⟨g, cap, cur, rfl, hbase, hb, h1, h2, h3, h4⟩
    · have hnil : l0 = [] := List.length_eq_zero_iff.1 hn
      subst hnil
      refine (Tryd.slices_Sort_none none 0 w).mono fun e w' ⟨he, hw⟩ => ?_
      subst hw
      have e0 : sortT [] = [] := by simp [sortT]
      rw [e0]
      exact ⟨he, Kd.R_nil _ _ _ _ _, hB, Kept.refl _ _⟩
    · have hss : (l0.map (fun x => x.data.toList)).length = l0.length := List.length_map ..
      have hcur : cur.toList.take (l0.map (fun x => x.data.toList)).length = (l0.map (fun x => x.data.toList)).map encStr := by
        rw [encs_str, lists_str, hss]
        have := h4
        rw [Nat.mul_one] at this
        exact this
      have hg : g < w.heap.size := (Array.getElem?_eq_some_iff.1 hb).1
      have hH : Go.Sort.Holds encStr w g 0 (l0.map (fun x => x.data.toList)).toArray := holds_of_block hb hcur
      have hc := Tryd.slices_Sort_string g 0 cap (l0.map (fun x => x.data.toList)) w hH hg (by rw [hss]; exact hl)
      rw [hss] at hc
      refine hc.mono fun e w' ⟨he, n, os, hw⟩ => ?_
      subst hw
      have ho := ownsRow_sorted (n := n) (os := os) (ss := l0.map (fun x => x.data.toList)) (ts := (l0.map (fun x => x.data.toList)).mergeSort fun x y => decide (x ≤ y)) (by simp) hbase hb (by rw [hss]; exact h1) h2 h3
      rw [hss, encs_str] at ho
      have hgr : w.grownBy _ (some g) := grownBy_sorted (w := w) (g := g) (n := n) (os := os) ((l0.map (fun x => x.data.toList)).mergeSort fun x y => decide (x ≤ y)).toArray
      refine ⟨he, ?_, hB.grown hgr hB.size (fun k e => by cases e; exact hbase), ⟨hgr.size, fun i hi hS => hgr.block i hi (fun e => hS (hok i (by rw [e]; rfl)))⟩⟩
      rw [← sortT_length l0] at ho ⊢
      exact Kd.R_of_own ho (fun k hk => .inl (hok k hk))
  · rw [if_neg hl] at h
    exact absurd h (by simp)

/-! ### slices_Compact_string_string: function 77 -/
/-- Texts without those that stand behind themselves. -/
def compactT (xs : List ByteArray) : List ByteArray := (Lib.compact (xs.map (fun x => x.data.toList))).map (fun l => (⟨l.toArray⟩ : ByteArray))
theorem owns_take {w : World} {base g cap n m : Nat} {e : TypeId} {xs : List Value} (h : w.ownsRow base e 1 (.slice (some ⟨g, 0, none⟩) n cap) n xs) (hm : m ≤ n) : w.ownsRow base e 1 (.slice (some ⟨g, 0, none⟩) m cap) m (xs.take m) := by
  obtain ⟨hl, h⟩ := h
  rcases h with ⟨h, _⟩ | ⟨g', cap', cur, hv, hb, hh, h1, h2, h3, h4⟩
  · exact absurd h (by simp)
  · injection hv with ha _ hc
    injection ha with ha
    injection ha with ha
    subst ha
    subst hc
    refine ⟨by rw [List.length_take]; omega, .inr ⟨g, cap, cur, rfl, hb, hh, by omega, h2, h3, ?_⟩⟩
    rw [← h4, List.take_take, Nat.mul_one, Nat.mul_one, Nat.min_eq_left hm]
theorem compact_le : ∀ (zs : List (List UInt8)), (Lib.compact zs).length ≤ zs.length := by
  intro zs
  have h := Lib.compact_length_le zs
  exact h
def slices_Compact_string_string.f (l0 : List ByteArray) : Option (List ByteArray) := if l0.length ≤ 9223372036854775807 then some (compactT l0) else none
theorem slices_Compact_string_string.calls (P0_ : Nat → Prop) (u9000_ : Value) (l0 r1 : List ByteArray) (w0 w : World) (hB : Below w0.heap.size w0 w) (ho0 : Kd.R Kd.string 9 w w0.heap.size P0_ u9000_ l0) (h : slices_Compact_string_string.f l0 = some r1) :
    Calls Tryd.prog 77 #[u9000_] w fun e w' => ∃ v_ : Value, e = .returned v_ ∧ Kd.R Kd.string 9 w' w0.heap.size (fun k_ => (P0_ k_ ∨ w.heap.size ≤ k_)) v_ r1 ∧ Below w0.heap.size w0 w' ∧ Kept w w' (fun k_ => P0_ k_) ∧ v_.ownBlock = u9000_.ownBlock := by
  unfold slices_Compact_string_string.f at h
  by_cases hl : l0.length ≤ 9223372036854775807
  · rw [if_pos hl] at h
    obtain rfl := Option.some.inj h
    have hown := Kd.own_of_R ho0
    have hok := ho0.1
    rcases hown.2 with ⟨rfl, hn⟩ | ⟨g, cap, cur, rfl, hbase, hb, h1, h2, h3, h4⟩
    · have hnil : l0 = [] := List.length_eq_zero_iff.1 hn
      subst hnil
      refine (Tryd.slices_Compact_none none 0 w).mono fun e w' ⟨he, hw⟩ => ?_
      subst hw
      have e0 : compactT [] = [] := rfl
      rw [e0]
      exact ⟨_, he, Kd.R_nil _ _ _ _ _, hB, Kept.refl _ _, rfl⟩
    · have hss : (l0.map (fun x : ByteArray => x.data.toList)).length = l0.length := List.length_map ..
      have hcur : cur.toList.take (l0.map (fun x : ByteArray => x.data.toList)).length = (l0.map (fun x : ByteArray => x.data.toList)).map encStr := by
        rw [encs_str, lists_str, hss]
        have := h4
        rw [Nat.mul_one] at this
        exact this
      have hH : Go.Sort.Holds encStr w g 0 (l0.map (fun x : ByteArray => x.data.toList)).toArray := holds_of_block hb hcur
      have hc := Tryd.slices_Compact_string g 0 cap (l0.map (fun x : ByteArray => x.data.toList)) w hH (by rw [hss]; exact hl) (by rw [hss]; exact h1)
      rw [hss] at hc
      have hle := compact_le (l0.map (fun x : ByteArray => x.data.toList))
      rw [hss] at hle
      refine hc.mono fun e w' ⟨he, n, hw⟩ => ?_
      have ho := ownsRow_sorted (n := n) (os := #[]) (ss := l0.map (fun x : ByteArray => x.data.toList)) (ts := Lib.compact (l0.map (fun x : ByteArray => x.data.toList)) ++ List.replicate (l0.length - (Lib.compact (l0.map (fun x : ByteArray => x.data.toList))).length) []) (by rw [List.length_append, List.length_replicate, hss]; omega) hbase hb (by rw [hss]; exact h1) h2 h3
      have hgr : w.grownBy _ (some g) := grownBy_sorted (w := w) (g := g) (n := n) (os := #[]) (Lib.compact (l0.map (fun x : ByteArray => x.data.toList)) ++ List.replicate (l0.length - (Lib.compact (l0.map (fun x : ByteArray => x.data.toList))).length) []).toArray
      rw [Go.Sort.grow_empty, ← hw] at ho hgr
      rw [hss] at ho
      have ho2 := owns_take ho hle
      rw [List.map_append, List.take_append_of_le_length (by rw [List.length_map]; exact Nat.le_refl _), List.take_of_length_le (by rw [List.length_map]; exact Nat.le_refl _), encs_str] at ho2
      have hlen : (compactT l0).length = (Lib.compact (l0.map (fun x : ByteArray => x.data.toList))).length := by unfold compactT; rw [List.length_map]
      rw [← hlen] at ho2 he
      refine ⟨_, he, Kd.R_of_own ho2 (fun k hk => .inl (hok k hk)), hB.grown hgr hB.size (fun k e => by cases e; exact hbase), ⟨hgr.size, fun i hi hS => hgr.block i hi (fun e => hS (hok i (by rw [e]; rfl)))⟩, rfl⟩
  · rw [if_neg hl] at h
    exact absurd h (by simp)

/-! ### strings_Join: function 78 -/
/-- strings.Join: the shelf's contract. -/
def joinT (xs : List ByteArray) (sep : ByteArray) : ByteArray := ⟨(Lib.join (xs.map (·.data.toList)) sep.data.toList).toArray⟩
def strings_Join.f (l0 : List ByteArray) (a1 : ByteArray) : Option (ByteArray) := if l0.length ≤ 140737488355328 ∧ (joinT l0 a1).size ≤ 140737488355328 then some (joinT l0 a1) else none
theorem strings_Join.calls (A0 : Option Addr) (c0 : Nat) (l0 : List ByteArray) (a1 : ByteArray) (r : ByteArray) (w : World) (hr0 : Kd.C Kd.string w A0 l0.length l0) (hc0 : l0.length ≤ c0) (h : strings_Join.f l0 a1 = some r) :
    Calls Tryd.prog 78 #[.slice A0 l0.length c0, .string a1] w fun e w' => e = .returned (.string r) ∧ Below w.heap.size w w' := by
  unfold strings_Join.f at h
  by_cases hl : l0.length ≤ 140737488355328 ∧ (joinT l0 a1).size ≤ 140737488355328
  · rw [if_pos hl] at h
    obtain rfl := Option.some.inj h
    by_cases h0 : l0.length = 0
    · have hnil : l0 = [] := List.length_eq_zero_iff.1 h0
      subst hnil
      refine (Tryd.strings_Join_none A0 c0 a1 w).mono fun e w' ⟨he, hw⟩ => ?_
      subst hw
      exact ⟨he, Below.refl _ _⟩
    · obtain ⟨⟨bk, o, sp⟩, hA, hx⟩ := Kd.at_string hr0 0 (by decide) (by omega)
      subst hA
      have hx0 : w.cell? ⟨bk, o, sp⟩ = some (.string (rdOf ByteArray.empty l0 0)) := by simpa [Addr.add] using hx
      cases sp with
      | some s =>
        exfalso
        simp only [World.cell?] at hx0
        split at hx0
        · exact absurd hx0 (by simp)
        · exact absurd hx0 (by simp)
      | none =>
        have hcell : ∀ (j : Nat) x, l0[j]? = some x → w.cell? ⟨bk, o + j, none⟩ = some (.string x) := by
          intro j x hj
          obtain ⟨hjl, rfl⟩ := List.getElem?_eq_some_iff.1 hj
          obtain ⟨ad2, hA2, hx2⟩ := Kd.at_string hr0 (j : Int) (by omega) (by omega)
          injection hA2 with hA2
          subst hA2
          have e : rdOf ByteArray.empty l0 (j : Int) = l0[j] := by
            unfold rdOf
            rw [Int.toNat_natCast, List.getD_eq_getElem?_getD, List.getElem?_eq_getElem hjl]; rfl
          rw [e, Int.toNat_natCast] at hx2
          by_cases hj0 : j = 0
          · subst hj0
            simpa [Addr.add] using hx2
          · simpa [Addr.add, hj0] using hx2
        have hb : bk < w.heap.size := World.block_lt_of_cell? w _ hx0
        exact Tryd.strings_Join bk o c0 l0 a1 w hcell hb hl.1 hc0 (by have := hl.2; unfold joinT at this; exact this)
  · rw [if_neg hl] at h
    exact absurd h (by simp)

/-! ### impl_read: function 79 -/
def impl_read.f (k : Nat) (l0 : List ByteArray) (a1 : ByteArray) (a2 : ByteArray) : Option (ByteArray) := if a1.size + a2.size ≤ 9223372036854775807 then ((slices_Contains_string_string.f k l0 (a1 ++ a2)).bind fun t200 => (if t200 = true then (some (⟨#[]⟩ : ByteArray)) else (some (a1 ++ a2)))) else (none)
theorem impl_read.mono : ∀ a0 a1 a2 k, LeO (impl_read.f k a0 a1 a2) (impl_read.f (k + 1) a0 a1 a2) := by
  intro a0 a1 a2 k
  unfold impl_read.f
  repeat' first
      | (with_reducible exact slices_Contains_string_string.mono _ _ _)
      | (with_reducible exact LeO.refl _)
      | (with_reducible exact LeO.none _)
      | (with_reducible refine LeO.ite ?_ ?_)
      | (with_reducible refine LeO.bind ?_ (fun _ => ?_))
      | exact slices_Contains_string_string.mono _ _ _
      | exact LeO.none _
      | refine LeO.ite ?_ ?_
      | refine LeO.bind ?_ (fun _ => ?_)
set_option maxHeartbeats 8000000 in
set_option maxRecDepth 100000 in
theorem impl_read.calls (k : Nat) (A0 : Option Addr) (c0 : Nat) (l0 : List ByteArray) (a1 : ByteArray) (a2 : ByteArray) (r : ByteArray) (w : World) (hr0 : Kd.C Kd.string w A0 l0.length l0) (hc0 : l0.length ≤ c0) (h : impl_read.f k l0 a1 a2 = some r) :
    Calls Tryd.prog 79 #[.slice A0 l0.length c0, .string a1, .string a2] w fun e w' => e = .returned (.string r) ∧ Drawn0 w w' := by
  have HR0 := Aside0.mk hr0
  have HC0 := Aside0.mk hc0
  clear hr0 hc0
  have H : (if a1.size + a2.size ≤ 9223372036854775807 then ((slices_Contains_string_string.f k l0 (a1 ++ a2)).bind fun t200 => (if t200 = true then (some (⟨#[]⟩ : ByteArray)) else (some (a1 ++ a2)))) else (none)) = some r := h
  clear h
  by_cases c4 : a1.size + a2.size ≤ 9223372036854775807
  · rw [if_pos c4] at H
    have c4b0 := eq_true c4
    have c4b1 : decide (a1.size + a2.size ≤ 9223372036854775807) = true := decide_eq_true c4
    try have c4b2 : (9223372036854775807 < a1.size + a2.size) = False := eq_false (Nat.not_lt.2 c4)
    replace H := Option.bind_eq_some_iff.mp H
    obtain ⟨t200, A50, H⟩ := H
    replace H : (if t200 = true then (some (⟨#[]⟩ : ByteArray)) else (some (a1 ++ a2))) = some r := H
    have A5 := Aside0.mk A50
    clear A50
    by_cases c6 : t200 = true
    · subst c6
      have H1 : (some (⟨#[]⟩ : ByteArray)) = some r := by rw [if_pos rfl] at H; exact H
      clear H
      have H := H1
      clear H1
      obtain rfl := Option.some.inj H
      go_enter Tryd.func79, Tryd.ntmps79
      go_wp2_with (first | ((with_reducible refine gate_callee (f := 107) rfl ?_); refine goesL_ (some 11) rfl rfl Tryd.func107 (by kernel_rfl) rfl #[.slice A0 l0.length c0, .string (a1 ++ a2)] rfl (by (try simp only [List.map_toArray, List.map_cons, List.map_nil]); first | done | rfl | (simp only [List.length_drop, List.length_take]; rfl)) ?_; (with_reducible refine (slices_Contains_string_string.calls k _ _ l0 (a1 ++ a2) true _ ?side1 ?side2 A5.out).mono ?_); (case side1 => repeat (first | exact HR0.out | (with_reducible refine Kd.C_alloc ?_ _) | (with_reducible refine Kd.C_drewN ?_ _) | (with_reducible refine Kd.C_drew ?_))); (case side2 => exact HC0.out); rintro e w' ⟨rfl, ⟨nd, rfl⟩⟩; refine ⟨_, rfl, ?_⟩))
      go_ret
      exact ⟨by first | rfl | (simp; done) | (simp [*]; done), by repeat (first | exact Drawn0.refl _ | apply Drawn0.step)⟩
    · replace c6 := Bool.eq_false_iff.mpr c6
      subst c6
      have H1 : (some (a1 ++ a2)) = some r := by rw [if_neg (show ¬ (false = true) by decide)] at H; exact H
      clear H
      have H := H1
      clear H1
      obtain rfl := Option.some.inj H
      go_enter Tryd.func79, Tryd.ntmps79
      go_wp2_with (first | ((with_reducible refine gate_callee (f := 107) rfl ?_); refine goesL_ (some 11) rfl rfl Tryd.func107 (by kernel_rfl) rfl #[.slice A0 l0.length c0, .string (a1 ++ a2)] rfl (by (try simp only [List.map_toArray, List.map_cons, List.map_nil]); first | done | rfl | (simp only [List.length_drop, List.length_take]; rfl)) ?_; (with_reducible refine (slices_Contains_string_string.calls k _ _ l0 (a1 ++ a2) false _ ?side1 ?side2 A5.out).mono ?_); (case side1 => repeat (first | exact HR0.out | (with_reducible refine Kd.C_alloc ?_ _) | (with_reducible refine Kd.C_drewN ?_ _) | (with_reducible refine Kd.C_drew ?_))); (case side2 => exact HC0.out); rintro e w' ⟨rfl, ⟨nd, rfl⟩⟩; refine ⟨_, rfl, ?_⟩))
      go_ret
      exact ⟨by first | rfl | (simp; done) | (simp [*]; done), by repeat (first | exact Drawn0.refl _ | apply Drawn0.step)⟩
  · rw [if_neg c4] at H
    exact absurd H (by simp)

end Go.Proofs.YtohdepanfnaddaaDoor.QFnExactSyncWord
