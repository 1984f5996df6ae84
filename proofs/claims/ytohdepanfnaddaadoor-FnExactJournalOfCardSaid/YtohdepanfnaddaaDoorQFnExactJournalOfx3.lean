/- FnExactJournalOf: functions that it reaches, with what they compute and the proof that they do; written by a program of this session (wip/myprint.py). -/
import Derived.Test.YtohdepanfnaddaaDoorQFnExactJournalOfx0
import Derived.Test.YtohdepanfnaddaaDoorQFnExactJournalOfx1
import Derived.Test.YtohdepanfnaddaaDoorQFnExactJournalOfx2
namespace Go.Proofs.YtohdepanfnaddaaDoor.QFnExactJournalOf
open Go.RowKit Go.Proofs.YtohdepanfnaddaaDoorW.PrintWords Go.Proofs.YtohdepanfnaddaaDoorW.PrintLast Go.Proofs.YtohdepanfnaddaaDoorW.PrintMore
attribute [local go_sem] max2_int min2_int max_two min_two max_three min_three max_four min_four   -- for this text's walks alone
set_option linter.unusedVariables false
set_option linter.unusedSimpArgs false

/-! ### impl_JournalOf: function 28 -/
def impl_JournalOf.l0 : Nat → List ByteArray → ByteArray → Int → Int → Option (ByteArray × Bool)
  | 0, _, _, _, _ => none
  | k + 1, xs, x5, n, i => if i < (xs.length : Int) then (if 0 ≤ i then ((strings_Contains.f (rdOf ByteArray.empty xs i) (⟨#[10]⟩ : ByteArray)).bind fun t1 => (if t1 = true then (some ((⟨#[]⟩ : ByteArray), false)) else ((impl_CheckOf.f k n (rdOf ByteArray.empty xs i)).bind fun bt2 => ((impl_Decimal.f bt2.1).bind fun t3 => (if t3.size + 1 + (rdOf ByteArray.empty xs i).size + 1 ≤ 9223372036854775807 then (if x5.size + (((t3 ++ (⟨#[32]⟩ : ByteArray)) ++ (rdOf ByteArray.empty xs i)) ++ (⟨#[10]⟩ : ByteArray)).size ≤ 140737488355328 then (if ((x5 ++ (((t3 ++ (⟨#[32]⟩ : ByteArray)) ++ (rdOf ByteArray.empty xs i)) ++ (⟨#[10]⟩ : ByteArray))).size : Int) > 4000 then (some ((⟨#[]⟩ : ByteArray), false)) else (impl_JournalOf.l0 k xs (x5 ++ (((t3 ++ (⟨#[32]⟩ : ByteArray)) ++ (rdOf ByteArray.empty xs i)) ++ (⟨#[10]⟩ : ByteArray))) bt2.1 (wrap64 (i + 1)))) else (none)) else (none)))))) else (none)) else (some (x5, true))
theorem impl_JournalOf.mono_l : ∀ k, (∀ y0 y1 y2 y3, LeO (impl_JournalOf.l0 k y0 y1 y2 y3) (impl_JournalOf.l0 (k + 1) y0 y1 y2 y3))
  | 0 => fun _ _ _ _ r h => by simp [impl_JournalOf.l0] at h
  | k + 1 => by
    have ih0 := impl_JournalOf.mono_l k
    · intro y0 y1 y2 y3
      unfold impl_JournalOf.l0
      repeat' first
      | (with_reducible exact ih0 _ _ _ _)
      | (with_reducible exact impl_CheckOf.mono _ _ _)
      | (with_reducible exact LeO.refl _)
      | (with_reducible exact LeO.none _)
      | (with_reducible refine LeO.ite ?_ ?_)
      | (with_reducible refine LeO.bind ?_ (fun _ => ?_))
def impl_JournalOf.f (k : Nat) (l0 : List ByteArray) : Option (ByteArray × Bool) := impl_JournalOf.l0 k l0 (⟨#[]⟩ : ByteArray) 0 0
theorem impl_JournalOf.mono : ∀ a0 k, LeO (impl_JournalOf.f k a0) (impl_JournalOf.f (k + 1) a0) := fun _ k => impl_JournalOf.mono_l k _ _ _ _
theorem impl_JournalOf.cells (s t : ByteArray) : Lib.byteCells s.data.toList ++ Lib.strCells t = Lib.byteCells (s ++ t).data.toList := by
  rw [ByteArray.data_append, Array.toList_append]
  simp [Lib.byteCells, Lib.strCells]
theorem impl_JournalOf.len (s : ByteArray) : (Lib.byteCells s.data.toList).length = s.size := by
  unfold Lib.byteCells
  rw [List.length_map, Array.length_toList]; rfl
theorem impl_JournalOf.keepAt {T e B b : Nat} {p : Value} {bs : List Value} {W W' : World} (h : Lib.BuilderAt T e B b p bs W) (hb : Below W.heap.size W W') : Lib.BuilderAt T e B b p bs W' := by
  obtain ⟨h1, v, h2, h3, h4⟩ := h
  have hlt : b < W.heap.size := by
    rcases Nat.lt_or_ge b W.heap.size with h5 | h5
    · exact h5
    · rw [Array.getElem?_eq_none h5] at h2
      cases h2
  exact ⟨h1, v, (hb.block b hlt).trans h2, own_move h3 (fun k hk => hb.block k (own_lt h3 k hk)), h4⟩
theorem impl_JournalOf.keep {T e B b : Nat} {bs : List Value} {W W' : World} (h : Lib.IsBuilder T e B b bs W) (hb : Below W.heap.size W W') : Lib.IsBuilder T e B b bs W' :=
  h.elim (fun h => .inl (impl_JournalOf.keepAt h hb)) (fun h => .inr (impl_JournalOf.keepAt h hb))
set_option maxHeartbeats 8000000 in
set_option maxRecDepth 100000 in
theorem impl_JournalOf.calls (k : Nat) (A0 : Option Addr) (c0 : Nat) (l0 : List ByteArray) (r1 : ByteArray) (r2 : Bool) (w : World) (hr0 : Kd.C Kd.string w A0 l0.length l0) (hc0 : l0.length ≤ c0) (hT : Lib.TabIs Tryd.prog w "internal/strconv.uint64pow10" .u64 Lib.pow10Tab) (h : impl_JournalOf.f k l0 = some (r1, r2)) :
    Calls Tryd.prog 28 #[.slice A0 l0.length c0] w fun e w' => e = .returned (.tuple #[.string r1, .bool r2]) ∧ Below w.heap.size w w' := by
  have HT := Aside0.mk hT
  have HR0 := Aside0.mk hr0
  clear hT hr0 hc0
  have H : impl_JournalOf.l0 k l0 (⟨#[]⟩ : ByteArray) 0 0 = some (r1, r2) := h
  clear h
  have H' := Aside0.mk H
  clear H
  have HB0 : Below w.heap.size w (w.alloc (.cells #[.pointer none, .slice none 0 0] 72)) := (Below.refl _ w).alloc (Nat.le_refl _) _
  have HF := Aside0.mk (Lib.fresh_isBuilder 72 5 w)
  have HB := Aside0.mk HB0
  clear HB0
  go_enter Tryd.func28, Tryd.ntmps28
  go_wp2
  go_loopg [5, 11] k (fun kq v5 v11 w' => ∃ (n_1 : Int) (x5_1 : ByteArray) (i_1 : Int), v5 = .int .i64 n_1 ∧ v11 = .int .i64 i_1 ∧ Aside0 (impl_JournalOf.l0 kq l0 x5_1 n_1 i_1 = some (r1, r2)) ∧ Aside0 (kq ≤ k) ∧ Aside0 (Lib.IsBuilder 72 5 w.heap.size w.heap.size (Lib.byteCells x5_1.data.toList) w') ∧ Aside0 (Below w.heap.size w w'))
  case atStart => exact ⟨0, (⟨#[]⟩ : ByteArray), 0, rfl, rfl, H', ⟨Nat.le_refl _⟩, ⟨HF.out⟩, ⟨HB.out⟩⟩
  case round =>
    clear H' HF HB
    obtain ⟨n_1, x5_1, i_1, rfl, rfl, HA, HK1, HO, HB⟩ := hrel
    cases gk with
    | zero => exact absurd HA.out (by simp [impl_JournalOf.l0])
    | succ k1 =>
      have H := HA.out
      clear HA
      simp only [impl_JournalOf.l0] at H
      by_cases c1 : i_1 < (l0.length : Int)
      rotate_left
      · rw [if_neg c1] at H
        have c1b0 : decide (i_1 < (l0.length : Int)) = false := decide_eq_false c1
        clear c1
        obtain ⟨rfl, rfl⟩ := Prod.mk.inj (Option.some.inj H)
        go_wp2_with (first | (go_at_call 56; refine (Tryd.Builder_String_any w.heap.size w.heap.size x5_1.data.toList _ ?s1 ?s2).mono ?_; (case s1 => exact HO.out); (case s2 => exact HB.out.size); rintro e w9 ⟨rfl, hb⟩; have n0_ := Aside0.mk (HB.out.trans hb); clear HB; have HB := n0_; clear n0_ hb))
        go_ret2
        exact ⟨by first | rfl | (simp; done) | (simp [*]; done), HB.out⟩
      rw [if_pos c1] at H
      by_cases c2 : 0 ≤ i_1
      rotate_left
      · rw [if_neg c2] at H
        exact absurd H (by simp)
      rw [if_pos c2] at H
      obtain ⟨t1, A10, H⟩ := Option.bind_eq_some_iff.mp H
      obtain ⟨ad1, e1, hx1⟩ := Kd.at_string HR0.out i_1 c2 c1
      cases e1
      replace hx1 := (HB.out.cell (World.block_lt_of_cell? w _ hx1)).trans hx1
      have c1b0 : decide (i_1 < (l0.length : Int)) = true := decide_eq_true c1
      have p1 := eq_true c2
      have q1 := eq_true c1
      have A1 := Aside0.mk A10
      clear A10 c1 c2
      cases t1 with
      | true =>
        replace H : some ((⟨#[]⟩ : ByteArray), false) = some (r1, r2) := H
        obtain ⟨rfl, rfl⟩ := Prod.mk.inj (Option.some.inj H)
        go_wp2_with (first | (go_at_call 53; (with_reducible refine (strings_Contains.calls _ _ _ _ A1.out).mono ?_); rintro e w' ⟨rfl, ⟨nd, rfl⟩⟩))
        go_ret2
        exact ⟨by first | rfl | (simp; done) | (simp [*]; done), by repeat (first | (with_reducible first | exact HB.out | apply below_alloc | apply pw_below_drewN | apply below_drew1) | exact HB.out)⟩
      | false =>
        obtain ⟨x1, hx1e⟩ : ∃ x_, x_ = rdOf ByteArray.empty l0 i_1 := ⟨_, rfl⟩
        rw [← hx1e] at hx1 H A1
        replace H : ((impl_CheckOf.f k1 n_1 x1).bind fun bt2 => ((impl_Decimal.f bt2.1).bind fun t3 => (if t3.size + 1 + x1.size + 1 ≤ 9223372036854775807 then (if x5_1.size + (((t3 ++ (⟨#[32]⟩ : ByteArray)) ++ x1) ++ (⟨#[10]⟩ : ByteArray)).size ≤ 140737488355328 then (if ((x5_1 ++ (((t3 ++ (⟨#[32]⟩ : ByteArray)) ++ x1) ++ (⟨#[10]⟩ : ByteArray))).size : Int) > 4000 then (some ((⟨#[]⟩ : ByteArray), false)) else (impl_JournalOf.l0 k1 l0 (x5_1 ++ (((t3 ++ (⟨#[32]⟩ : ByteArray)) ++ x1) ++ (⟨#[10]⟩ : ByteArray))) bt2.1 (wrap64 (i_1 + 1)))) else (none)) else (none)))) = some (r1, r2) := H
        clear hx1e
        obtain ⟨⟨t2, b2⟩, A20, H⟩ := Option.bind_eq_some_iff.mp H
        obtain ⟨t3, A30, H⟩ := Option.bind_eq_some_iff.mp H
        have A2 := Aside0.mk A20
        have A3 := Aside0.mk A30
        clear A20 A30
        by_cases c6 : t3.size + 1 + x1.size + 1 ≤ 9223372036854775807
        rotate_left
        · rw [if_neg c6] at H
          exact absurd H (by simp)
        rw [if_pos c6] at H
        have c6b1 : (9223372036854775807 < t3.size + 1) = False := eq_false (by omega)
        have c6b2 : (9223372036854775807 < t3.size + 1 + x1.size) = False := eq_false (by omega)
        have c6b3 : (9223372036854775807 < t3.size + 1 + x1.size + 1) = False := eq_false (by omega)
        clear c6
        obtain ⟨pc, hpc⟩ : ∃ p_ : ByteArray, p_ = (((t3 ++ (⟨#[32]⟩ : ByteArray)) ++ x1) ++ (⟨#[10]⟩ : ByteArray)) := ⟨_, rfl⟩
        rw [← hpc] at H
        by_cases c7 : x5_1.size + pc.size ≤ 140737488355328
        rotate_left
        · rw [if_neg c7] at H
          exact absurd H (by simp)
        rw [if_pos c7] at H
        have LM := Aside0.mk c7
        have HP := Aside0.mk hpc
        clear c7 hpc
        obtain ⟨y5, hy5⟩ : ∃ y_ : ByteArray, y_ = x5_1 ++ pc := ⟨_, rfl⟩
        rw [← hy5] at H
        have HY := Aside0.mk hy5
        clear hy5
        by_cases c8 : (y5.size : Int) > 4000
        · rw [if_pos c8] at H
          obtain ⟨rfl, rfl⟩ := Prod.mk.inj (Option.some.inj H)
          have c8b0 : decide (4000 < (y5.size : Int)) = true := decide_eq_true c8
          have c8b1 : decide (4000 < y5.size) = true := decide_eq_true (by omega)
          clear c8
          go_wp2_with (first | (go_at_call 53; (with_reducible refine (strings_Contains.calls _ _ _ _ A1.out).mono ?_); rintro e w' ⟨rfl, ⟨nd, rfl⟩⟩) | (go_at_call 50; (with_reducible refine (impl_CheckOf.calls k1 n_1 x1 t2 b2 _ A2.out).mono ?_); rintro e w' ⟨rfl, ⟨nd, rfl⟩⟩) | (go_at_call 51; (with_reducible refine (impl_Decimal.calls t2 t3 _ ?tb A3.out).mono ?_); (case tb => exact tabBelow HT.out (by repeat (first | (with_reducible first | exact HB.out | apply below_alloc | apply pw_below_drewN | apply below_drew1) | exact HB.out))); rintro e w8 ⟨rfl, hb⟩; have n1_ := Aside0.mk (impl_JournalOf.keep HO.out (below_step (by repeat (first | (with_reducible exact Below.refl _ _) | (with_reducible apply pw_below_drewN))) hb)); have n0_ := Aside0.mk (below_step (by repeat (first | (with_reducible first | exact HB.out | apply below_alloc | apply pw_below_drewN | apply below_drew1) | exact HB.out)) hb); clear HB HO; have HB := n0_; have HO := n1_; clear n0_ n1_ hb) | (go_at_call 54; (try rw [← HP.out]); refine (Tryd.Builder_WriteString w.heap.size w.heap.size (Lib.byteCells x5_1.data.toList) pc _ ?s1 ?s2 ?s3).mono ?_; (case s1 => exact HO.out); (case s2 => exact (by rw [impl_JournalOf.len x5_1]; exact LM.out)); (case s3 => exact HB.out.size); rintro e w9 ⟨rfl, hbu, hb⟩; have n0_ := Aside0.mk (HB.out.trans hb); have n1_ : Aside0 (Lib.IsBuilder 72 5 w.heap.size w.heap.size (Lib.byteCells y5.data.toList) w9) := Aside0.mk (by rw [HY.out, ← impl_JournalOf.cells]; exact Or.inr hbu); clear HB HO; have HB := n0_; have HO := n1_; clear n0_ n1_ hbu hb) | (go_at_call 55; refine (Tryd.Builder_Len w.heap.size w.heap.size (Lib.byteCells y5.data.toList) _ HO.out).mono ?_; rintro e w10 ⟨rfl, rfl⟩; rw [impl_JournalOf.len y5]))
          go_ret2
          exact ⟨by first | rfl | (simp; done) | (simp [*]; done), HB.out⟩
        · rw [if_neg c8] at H
          have c8b0 : decide (4000 < (y5.size : Int)) = false := decide_eq_false c8
          have c8b1 : decide (4000 < y5.size) = false := decide_eq_false (by omega)
          clear c8
          have H' := Aside0.mk H
          clear H
          go_wp2_with (first | (go_at_call 53; (with_reducible refine (strings_Contains.calls _ _ _ _ A1.out).mono ?_); rintro e w' ⟨rfl, ⟨nd, rfl⟩⟩) | (go_at_call 50; (with_reducible refine (impl_CheckOf.calls k1 n_1 x1 t2 b2 _ A2.out).mono ?_); rintro e w' ⟨rfl, ⟨nd, rfl⟩⟩) | (go_at_call 51; (with_reducible refine (impl_Decimal.calls t2 t3 _ ?tb A3.out).mono ?_); (case tb => exact tabBelow HT.out (by repeat (first | (with_reducible first | exact HB.out | apply below_alloc | apply pw_below_drewN | apply below_drew1) | exact HB.out))); rintro e w8 ⟨rfl, hb⟩; have n1_ := Aside0.mk (impl_JournalOf.keep HO.out (below_step (by repeat (first | (with_reducible exact Below.refl _ _) | (with_reducible apply pw_below_drewN))) hb)); have n0_ := Aside0.mk (below_step (by repeat (first | (with_reducible first | exact HB.out | apply below_alloc | apply pw_below_drewN | apply below_drew1) | exact HB.out)) hb); clear HB HO; have HB := n0_; have HO := n1_; clear n0_ n1_ hb) | (go_at_call 54; (try rw [← HP.out]); refine (Tryd.Builder_WriteString w.heap.size w.heap.size (Lib.byteCells x5_1.data.toList) pc _ ?s1 ?s2 ?s3).mono ?_; (case s1 => exact HO.out); (case s2 => exact (by rw [impl_JournalOf.len x5_1]; exact LM.out)); (case s3 => exact HB.out.size); rintro e w9 ⟨rfl, hbu, hb⟩; have n0_ := Aside0.mk (HB.out.trans hb); have n1_ : Aside0 (Lib.IsBuilder 72 5 w.heap.size w.heap.size (Lib.byteCells y5.data.toList) w9) := Aside0.mk (by rw [HY.out, ← impl_JournalOf.cells]; exact Or.inr hbu); clear HB HO; have HB := n0_; have HO := n1_; clear n0_ n1_ hbu hb) | (go_at_call 55; refine (Tryd.Builder_Len w.heap.size w.heap.size (Lib.byteCells y5.data.toList) _ HO.out).mono ?_; rintro e w10 ⟨rfl, rfl⟩; rw [impl_JournalOf.len y5]))
          go_roundg k1
          case measure => have := HK1.out; omega
          case rel => exact ⟨t2, y5, (wrap64 (i_1 + 1)), (by first | rfl | (simp; done) | (simp [*]; done)), (by first | rfl | (simp; done) | (simp [*]; done)), H', ⟨by have := HK1.out; omega⟩, ⟨HO.out⟩, ⟨HB.out⟩⟩

/-! ### laws_FnExactJournalOf: function 6 -/
def laws_FnExactJournalOf.j0 : Nat → List ByteArray → List ByteArray → Bool → Option (Bool)
  | 0, _, _, _ => none
  | k + 1, x0, x6, x34 => if x34 = true then (some false) else ((laws_toStringS.f k x0).bind fun t151 => ((laws_eqStringS.f k x6 t151).bind fun t154 => (if t154 = true then (some true) else (some false))))
def laws_FnExactJournalOf.f (k : Nat) (l0 : List ByteArray) : Option (Bool) := (laws_szStringS.f k l0 1048576).bind fun t140 => (if t140 < 0 then (some true) else ((laws_toStringS.f k l0).bind fun t141 => ((spec_JournalOf.f k t141).bind fun bt144 => ((laws_toStringS.f k l0).bind fun t146 => ((impl_JournalOf.f k t146).bind fun bt149 => (if bt149.1.toList = bt144.1.toList then (laws_FnExactJournalOf.j0 k l0 t146 (bt149.2 != bt144.2)) else (laws_FnExactJournalOf.j0 k l0 t146 true)))))))
theorem laws_FnExactJournalOf.mono_l : ∀ k, (∀ y0 y1 y2, LeO (laws_FnExactJournalOf.j0 k y0 y1 y2) (laws_FnExactJournalOf.j0 (k + 1) y0 y1 y2))
  | 0 => fun _ _ _ r h => by simp [laws_FnExactJournalOf.j0] at h
  | k + 1 => by
    have ih0 := laws_FnExactJournalOf.mono_l k
    · intro y0 y1 y2
      unfold laws_FnExactJournalOf.j0
      repeat' first
      | (with_reducible exact ih0 _ _ _)
      | (with_reducible exact impl_JournalOf.mono _ _)
      | (with_reducible exact laws_eqStringS.mono _ _ _)
      | (with_reducible exact laws_szStringS.mono _ _ _)
      | (with_reducible exact laws_toStringS.mono _ _)
      | (with_reducible exact spec_JournalOf.mono _ _)
      | (with_reducible exact LeO.refl _)
      | (with_reducible exact LeO.none _)
      | (with_reducible refine LeO.ite ?_ ?_)
      | (with_reducible refine LeO.bind ?_ (fun _ => ?_))
      | exact ih0 _ _ _
      | exact impl_JournalOf.mono _ _
      | exact laws_eqStringS.mono _ _ _
      | exact laws_szStringS.mono _ _ _
      | exact laws_toStringS.mono _ _
      | exact spec_JournalOf.mono _ _
      | exact LeO.none _
      | refine LeO.ite ?_ ?_
      | refine LeO.bind ?_ (fun _ => ?_)
theorem laws_FnExactJournalOf.mono : ∀ a0 k, LeO (laws_FnExactJournalOf.f k a0) (laws_FnExactJournalOf.f (k + 1) a0) := by
  intro a0 k
  have ih0 := laws_FnExactJournalOf.mono_l k
  unfold laws_FnExactJournalOf.f
  repeat' first
      | (with_reducible exact ih0 _ _ _)
      | (with_reducible exact impl_JournalOf.mono _ _)
      | (with_reducible exact laws_eqStringS.mono _ _ _)
      | (with_reducible exact laws_szStringS.mono _ _ _)
      | (with_reducible exact laws_toStringS.mono _ _)
      | (with_reducible exact spec_JournalOf.mono _ _)
      | (with_reducible exact LeO.refl _)
      | (with_reducible exact LeO.none _)
      | (with_reducible refine LeO.ite ?_ ?_)
      | (with_reducible refine LeO.bind ?_ (fun _ => ?_))
      | exact ih0 _ _ _
      | exact impl_JournalOf.mono _ _
      | exact laws_eqStringS.mono _ _ _
      | exact laws_szStringS.mono _ _ _
      | exact laws_toStringS.mono _ _
      | exact spec_JournalOf.mono _ _
      | exact LeO.none _
      | refine LeO.ite ?_ ?_
      | refine LeO.bind ?_ (fun _ => ?_)
set_option maxHeartbeats 8000000 in
set_option maxRecDepth 100000 in
theorem laws_FnExactJournalOf.calls (k : Nat) (A0 : Option Addr) (c0 : Nat) (l0 : List ByteArray) (r : Bool) (w : World) (hr0 : Kd.C Kd.string w A0 l0.length l0) (hc0 : l0.length ≤ c0) (hT : Lib.TabIs Tryd.prog w "internal/strconv.uint64pow10" .u64 Lib.pow10Tab) (h : laws_FnExactJournalOf.f k l0 = some r) :
    Calls Tryd.prog 6 #[.slice A0 l0.length c0] w fun e w' => e = .returned (.bool r) ∧ Below w.heap.size w w' := by
  have HT := Aside0.mk hT
  clear hT
  have HR0 := Aside0.mk hr0
  have HC0 := Aside0.mk hc0
  clear hr0 hc0
  have HB := Aside0.mk (Below.refl w.heap.size w)
  have H : ((laws_szStringS.f k l0 1048576).bind fun t140 => (if t140 < 0 then (some true) else ((laws_toStringS.f k l0).bind fun t141 => ((spec_JournalOf.f k t141).bind fun bt144 => ((laws_toStringS.f k l0).bind fun t146 => ((impl_JournalOf.f k t146).bind fun bt149 => (if bt149.1.toList = bt144.1.toList then (laws_FnExactJournalOf.j0 k l0 t146 (bt149.2 != bt144.2)) else (laws_FnExactJournalOf.j0 k l0 t146 true)))))))) = some r := h
  clear h
  replace H := Option.bind_eq_some_iff.mp H
  obtain ⟨t140, A20, H⟩ := H
  replace H : (if t140 < 0 then (some true) else ((laws_toStringS.f k l0).bind fun t141 => ((spec_JournalOf.f k t141).bind fun bt144 => ((laws_toStringS.f k l0).bind fun t146 => ((impl_JournalOf.f k t146).bind fun bt149 => (if bt149.1.toList = bt144.1.toList then (laws_FnExactJournalOf.j0 k l0 t146 (bt149.2 != bt144.2)) else (laws_FnExactJournalOf.j0 k l0 t146 true))))))) = some r := H
  have A2 := Aside0.mk A20
  clear A20
  by_cases c3 : t140 < 0
  · rw [if_pos c3] at H
    have c3b0 : decide (t140 < 0) = true := decide_eq_true c3
    clear c3
    obtain rfl := Option.some.inj H
    go_enter Tryd.func6, Tryd.ntmps6
    go_wp2_with (first | ((with_reducible refine gate_callee (f := 15) rfl ?_); refine goesL_ (some 11) rfl rfl Tryd.func15 (by kernel_rfl) rfl #[.slice A0 l0.length c0, .int .i64 1048576] rfl (by (try simp only [List.map_toArray, List.map_cons, List.map_nil]); first | done | rfl | (simp only [List.length_drop, List.length_take]; rfl)) ?_; (with_reducible refine (laws_szStringS.calls k _ _ l0 1048576 t140 _ ?side1 ?side2 A2.out).mono ?_); (case side1 => repeat (first | exact HR0.out | (with_reducible refine Kd.C_alloc ?_ _) | (with_reducible refine Kd.C_drewN ?_ _) | (with_reducible refine Kd.C_drew ?_))); (case side2 => exact HC0.out); rintro e w' ⟨rfl, ⟨nd, rfl⟩⟩; refine ⟨_, rfl, ?_⟩))
    go_ret
    exact ⟨by first | rfl | (simp [errW_none, errW_some] <;> rfl) | (simp [*, errW_none, errW_some] <;> rfl), by repeat (first | (with_reducible first | exact HB.out | apply below_alloc | apply pw_below_drewN | apply below_drew1) | exact HB.out)⟩
  · rw [if_neg c3] at H
    have c3b0 : decide (t140 < 0) = false := decide_eq_false c3
    clear c3
    replace H := Option.bind_eq_some_iff.mp H
    obtain ⟨t141, A40, H⟩ := H
    replace H : ((spec_JournalOf.f k t141).bind fun bt144 => ((laws_toStringS.f k l0).bind fun t146 => ((impl_JournalOf.f k t146).bind fun bt149 => (if bt149.1.toList = bt144.1.toList then (laws_FnExactJournalOf.j0 k l0 t146 (bt149.2 != bt144.2)) else (laws_FnExactJournalOf.j0 k l0 t146 true))))) = some r := H
    have A4 := Aside0.mk A40
    clear A40
    replace H := Option.bind_eq_some_iff.mp H
    obtain ⟨⟨t144, t145⟩, A50, H⟩ := H
    replace H : ((laws_toStringS.f k l0).bind fun t146 => ((impl_JournalOf.f k t146).bind fun bt149 => (if bt149.1.toList = t144.toList then (laws_FnExactJournalOf.j0 k l0 t146 (bt149.2 != t145)) else (laws_FnExactJournalOf.j0 k l0 t146 true)))) = some r := H
    have A5 := Aside0.mk A50
    clear A50
    replace H := Option.bind_eq_some_iff.mp H
    obtain ⟨t146, A60, H⟩ := H
    replace H : ((impl_JournalOf.f k t146).bind fun bt149 => (if bt149.1.toList = t144.toList then (laws_FnExactJournalOf.j0 k l0 t146 (bt149.2 != t145)) else (laws_FnExactJournalOf.j0 k l0 t146 true))) = some r := H
    have A6 := Aside0.mk A60
    clear A60
    replace H := Option.bind_eq_some_iff.mp H
    obtain ⟨⟨t149, t150⟩, A70, H⟩ := H
    replace H : (if t149.toList = t144.toList then (laws_FnExactJournalOf.j0 k l0 t146 (t150 != t145)) else (laws_FnExactJournalOf.j0 k l0 t146 true)) = some r := H
    have A7 := Aside0.mk A70
    clear A70
    have HC8 := Aside0.mk H
    clear H
    go_enter Tryd.func6, Tryd.ntmps6
    go_upto_region 8 with (first | ((with_reducible refine gate_callee (f := 15) rfl ?_); refine goesL_ (some 11) rfl rfl Tryd.func15 (by kernel_rfl) rfl #[.slice A0 l0.length c0, .int .i64 1048576] rfl (by (try simp only [List.map_toArray, List.map_cons, List.map_nil]); first | done | rfl | (simp only [List.length_drop, List.length_take]; rfl)) ?_; (with_reducible refine (laws_szStringS.calls k _ _ l0 1048576 t140 _ ?side1 ?side2 A2.out).mono ?_); (case side1 => repeat (first | exact HR0.out | (with_reducible refine Kd.C_alloc ?_ _) | (with_reducible refine Kd.C_drewN ?_ _) | (with_reducible refine Kd.C_drew ?_))); (case side2 => exact HC0.out); rintro e w' ⟨rfl, ⟨nd, rfl⟩⟩; refine ⟨_, rfl, ?_⟩) | ((with_reducible refine gate_callee (f := 17) rfl ?_); refine goesL_ (some 16) rfl rfl Tryd.func17 (by kernel_rfl) rfl #[.slice A0 l0.length c0] rfl (by (try simp only [List.map_toArray, List.map_cons, List.map_nil]); first | done | rfl | (simp only [List.length_drop, List.length_take]; rfl)) ?_; (with_reducible refine (laws_toStringS.calls k _ _ l0 t141 _ ?side1 ?side2 A4.out).mono ?_); (case side1 => repeat (first | exact HR0.out | (with_reducible refine Kd.C_alloc ?_ _) | (with_reducible refine Kd.C_drewN ?_ _) | (with_reducible refine Kd.C_drew ?_))); (case side2 => exact HC0.out); rintro e w9 ⟨v142, rfl, ho0, hb⟩; refine ⟨_, rfl, ?_⟩; have n0_ := Aside0.mk (Kd.R_lower ho0 (below_size (by repeat (first | (with_reducible first | exact HB.out | apply below_alloc | apply pw_below_drewN | apply below_drew1) | exact HB.out)))); have n1_ := Aside0.mk (below_step (by repeat (first | (with_reducible first | exact HB.out | apply below_alloc | apply pw_below_drewN | apply below_drew1) | exact HB.out)) hb); clear HB; have HO143 := n0_; have HB := n1_; clear n0_ n1_; (try clear hb); (try clear hb2); (try clear hk); (try clear hi); (try clear ho0); obtain ⟨Ao10, co10, eo10⟩ := Kd.R_slice HO143.out; subst eo10) | ((with_reducible refine gate_callee (f := 27) rfl ?_); refine goesL_ (some 17) rfl rfl Tryd.func27 (by kernel_rfl) rfl #[.slice Ao10 t141.length co10] rfl (by (try simp only [List.map_toArray, List.map_cons, List.map_nil]); first | done | rfl | (simp only [List.length_drop, List.length_take]; rfl)) ?_; (with_reducible refine (spec_JournalOf.calls k _ _ t141 t144 t145 _ ?side1 ?side2 A5.out).mono ?_); (case side1 => repeat (first | exact (Kd.R_reads' HO143.out).2.2 | (with_reducible refine Kd.C_alloc ?_ _) | (with_reducible refine Kd.C_drewN ?_ _) | (with_reducible refine Kd.C_drew ?_))); (case side2 => exact (Kd.R_reads' HO143.out).2.1); rintro e w11 ⟨rfl, hb⟩; refine ⟨_, rfl, ?_⟩; have n0_ := Aside0.mk (Kd.R_below (by (with_reducible repeat (first | apply Kd.R_alloc | apply Kd.R_drewN | apply Kd.R_drew)); exact HO143.out) hb); have n1_ := Aside0.mk (below_step (by repeat (first | (with_reducible first | exact HB.out | apply below_alloc | apply pw_below_drewN | apply below_drew1) | exact HB.out)) hb); clear HO143; clear HB; have HO143 := n0_; have HB := n1_; clear n0_ n1_; (try clear hb); (try clear hb2); (try clear hk); (try clear hi)) | ((with_reducible refine gate_callee (f := 17) rfl ?_); refine goesL_ (some 21) rfl rfl Tryd.func17 (by kernel_rfl) rfl #[.slice A0 l0.length c0] rfl (by (try simp only [List.map_toArray, List.map_cons, List.map_nil]); first | done | rfl | (simp only [List.length_drop, List.length_take]; rfl)) ?_; (with_reducible refine (laws_toStringS.calls k _ _ l0 t146 _ ?side1 ?side2 A6.out).mono ?_); (case side1 => repeat (first | exact (Kd.C_below HR0.out HB.out) | (with_reducible refine Kd.C_alloc ?_ _) | (with_reducible refine Kd.C_drewN ?_ _) | (with_reducible refine Kd.C_drew ?_))); (case side2 => exact HC0.out); rintro e w12 ⟨v147, rfl, ho0, hb⟩; refine ⟨_, rfl, ?_⟩; have n0_ := Aside0.mk (Kd.R_elder' (by (with_reducible repeat (first | apply Kd.R_alloc | apply Kd.R_drewN | apply Kd.R_drew)); exact HO143.out) (Kd.R_base ho0) hb); have n1_ := Aside0.mk (Kd.R_lower (Kd.R_new' ho0 (Kd.R_lt (by (with_reducible repeat (first | apply Kd.R_alloc | apply Kd.R_drewN | apply Kd.R_drew)); exact HO143.out))) (below_size (by repeat (first | (with_reducible first | exact HB.out | apply below_alloc | apply pw_below_drewN | apply below_drew1) | exact HB.out)))); have n2_ := Aside0.mk (below_step (by repeat (first | (with_reducible first | exact HB.out | apply below_alloc | apply pw_below_drewN | apply below_drew1) | exact HB.out)) hb); clear HO143; clear HB; have HO143 := n0_; have HO148 := n1_; have HB := n2_; clear n0_ n1_ n2_; (try clear hb); (try clear hb2); (try clear hk); (try clear hi); (try clear ho0); obtain ⟨Ao13, co13, eo13⟩ := Kd.R_slice HO148.out; subst eo13) | ((with_reducible refine gate_callee (f := 28) rfl ?_); refine goesL_ (some 24) rfl rfl Tryd.func28 (by kernel_rfl) rfl #[.slice Ao13 t146.length co13] rfl (by (try simp only [List.map_toArray, List.map_cons, List.map_nil]); first | done | rfl | (simp only [List.length_drop, List.length_take]; rfl)) ?_; (with_reducible refine (impl_JournalOf.calls k _ _ t146 t149 t150 _ ?side1 ?side2 ?tb A7.out).mono ?_); (case tb => first | exact HT.out | exact tabBelow HT.out (by repeat (first | (with_reducible first | exact HB.out | apply below_alloc | apply pw_below_drewN | apply below_drew1) | exact HB.out))); (case side1 => repeat (first | exact (Kd.R_reads' HO148.out).2.2 | (with_reducible refine Kd.C_alloc ?_ _) | (with_reducible refine Kd.C_drewN ?_ _) | (with_reducible refine Kd.C_drew ?_))); (case side2 => exact (Kd.R_reads' HO148.out).2.1); rintro e w14 ⟨rfl, hb⟩; refine ⟨_, rfl, ?_⟩; have n0_ := Aside0.mk (Kd.R_below (by (with_reducible repeat (first | apply Kd.R_alloc | apply Kd.R_drewN | apply Kd.R_drew)); exact HO143.out) hb); have n1_ := Aside0.mk (Kd.R_below (by (with_reducible repeat (first | apply Kd.R_alloc | apply Kd.R_drewN | apply Kd.R_drew)); exact HO148.out) hb); have n2_ := Aside0.mk (below_step (by repeat (first | (with_reducible first | exact HB.out | apply below_alloc | apply pw_below_drewN | apply below_drew1) | exact HB.out)) hb); clear HO143; clear HO148; clear HB; have HO143 := n0_; have HO148 := n1_; have HB := n2_; clear n0_ n1_ n2_; (try clear hb); (try clear hb2); (try clear hk); (try clear hi)))
    (try simp only [Act.put, List.setIfInBounds_toArray, List.set_cons_zero, List.set_cons_succ])
    go_cut [34] (fun v34 wc => ∃ (kq : Nat) (x34_7 : Bool), v34 = .bool x34_7 ∧ Aside0 (laws_FnExactJournalOf.j0 kq l0 t146 x34_7 = some r) ∧ Aside0 (kq ≤ k) ∧ Aside0 (Kd.R Kd.string 9 wc w.heap.size (fun _ => True) (.slice Ao13 t146.length co13) t146) ∧ Aside0 (Below w.heap.size w wc))
    case first =>
      have H := HC8.out
      clear HC8
      by_cases c15 : t149.toList = t144.toList
      · rw [if_pos c15] at H
        have c15b0 : (t149.toList == t144.toList) = true := beq_iff_eq.mpr c15
        have c15b1 : (t149.toList != t144.toList) = false := bne_eq_false_iff_eq.mpr c15
        clear c15
        (first | rw [c15b0] | (simp only [i64_w, i32_w]; rw [c15b0]) | skip)
        have H' := Aside0.mk H
        clear H
        go_wp2
        go_meet
        case rel => exact ⟨_, ((t150 != t145)), (by first | rfl | (simp; done) | (simp [*]; done)), H', ⟨by first | omega | exact Nat.le_refl _⟩, ⟨by (with_reducible repeat (first | apply Kd.R_alloc | apply Kd.R_drewN | apply Kd.R_drew)); exact Kd.R_mono HO148.out (fun _ hk => trivial)⟩, ⟨by repeat (first | (with_reducible first | exact HB.out | apply below_alloc | apply pw_below_drewN | apply below_drew1) | exact HB.out)⟩⟩
      · rw [if_neg c15] at H
        have c15b0 : (t149.toList == t144.toList) = false := beq_eq_false_iff_ne.mpr c15
        have c15b1 : (t149.toList != t144.toList) = true := bne_iff_ne.mpr c15
        (first | rw [c15b0] | (simp only [i64_w, i32_w]; rw [c15b0]) | skip)
        have H' := Aside0.mk H
        clear H
        go_wp2
        go_meet
        case rel => exact ⟨_, (true), (by first | rfl | (simp; done) | (simp [*]; done)), H', ⟨by first | omega | exact Nat.le_refl _⟩, ⟨by (with_reducible repeat (first | apply Kd.R_alloc | apply Kd.R_drewN | apply Kd.R_drew)); exact Kd.R_mono HO148.out (fun _ hk => trivial)⟩, ⟨by repeat (first | (with_reducible first | exact HB.out | apply below_alloc | apply pw_below_drewN | apply below_drew1) | exact HB.out)⟩⟩
    case rest =>
      clear HC8
      try clear c1
      try clear c2
      try clear p2
      try clear c3
      try clear c3b0
      try clear c6
      try clear c15
      try clear c15b0
      try clear c15b1
      obtain ⟨kq, x34_7, rfl, HA, HJ7, HO_6, HB⟩ := hcut
      cases kq with
      | zero => exact absurd HA.out (by simp [laws_FnExactJournalOf.j0])
      | succ kj7 =>
        have H := HA.out
        clear HA
        simp only [laws_FnExactJournalOf.j0] at H
        by_cases c16 : x34_7 = true
        · subst c16
          have H1 : (some false) = some r := by rw [if_pos rfl] at H; exact H
          clear H
          have H := H1
          clear H1
          obtain rfl := Option.some.inj H
          go_wp2
          go_ret
          exact ⟨by first | rfl | (simp [errW_none, errW_some] <;> rfl) | (simp [*, errW_none, errW_some] <;> rfl), by repeat (first | (with_reducible first | exact HB.out | apply below_alloc | apply pw_below_drewN | apply below_drew1) | exact HB.out)⟩
        · replace c16 := Bool.eq_false_iff.mpr c16
          subst c16
          have H1 : ((laws_toStringS.f kj7 l0).bind fun t151 => ((laws_eqStringS.f kj7 t146 t151).bind fun t154 => (if t154 = true then (some true) else (some false)))) = some r := by rw [if_neg (show ¬ (false = true) by decide)] at H; exact H
          clear H
          have H := H1
          clear H1
          replace H := Option.bind_eq_some_iff.mp H
          obtain ⟨t151, A170, H⟩ := H
          replace H : ((laws_eqStringS.f kj7 t146 t151).bind fun t154 => (if t154 = true then (some true) else (some false))) = some r := H
          have A17 := Aside0.mk A170
          clear A170
          replace H := Option.bind_eq_some_iff.mp H
          obtain ⟨t154, A180, H⟩ := H
          replace H : (if t154 = true then (some true) else (some false)) = some r := H
          have A18 := Aside0.mk A180
          clear A180
          by_cases c19 : t154 = true
          · subst c19
            have H1 : (some true) = some r := by rw [if_pos rfl] at H; exact H
            clear H
            have H := H1
            clear H1
            obtain rfl := Option.some.inj H
            go_wp2_with (first | ((with_reducible refine gate_callee (f := 17) rfl ?_); refine goesL_ (some 37) rfl rfl Tryd.func17 (by kernel_rfl) rfl #[.slice A0 l0.length c0] rfl (by (try simp only [List.map_toArray, List.map_cons, List.map_nil]); first | done | rfl | (simp only [List.length_drop, List.length_take]; rfl)) ?_; (with_reducible refine (laws_toStringS.calls kj7 _ _ l0 t151 _ ?side1 ?side2 A17.out).mono ?_); (case side1 => repeat (first | exact (Kd.C_below HR0.out HB.out) | (with_reducible refine Kd.C_alloc ?_ _) | (with_reducible refine Kd.C_drewN ?_ _) | (with_reducible refine Kd.C_drew ?_))); (case side2 => exact HC0.out); rintro e w20 ⟨v152, rfl, ho0, hb⟩; refine ⟨_, rfl, ?_⟩; have n0_ := Aside0.mk (Kd.R_elder' (by (with_reducible repeat (first | apply Kd.R_alloc | apply Kd.R_drewN | apply Kd.R_drew)); exact HO_6.out) (Kd.R_base ho0) hb); have n1_ := Aside0.mk (Kd.R_lower (Kd.R_new' ho0 (Kd.R_lt (by (with_reducible repeat (first | apply Kd.R_alloc | apply Kd.R_drewN | apply Kd.R_drew)); exact HO_6.out))) (below_size (by repeat (first | (with_reducible first | exact HB.out | apply below_alloc | apply pw_below_drewN | apply below_drew1) | exact HB.out)))); have n2_ := Aside0.mk (below_step (by repeat (first | (with_reducible first | exact HB.out | apply below_alloc | apply pw_below_drewN | apply below_drew1) | exact HB.out)) hb); clear HO_6; clear HB; have HO_6 := n0_; have HO153 := n1_; have HB := n2_; clear n0_ n1_ n2_; (try clear hb); (try clear hb2); (try clear hk); (try clear hi); (try clear ho0); obtain ⟨Ao21, co21, eo21⟩ := Kd.R_slice HO153.out; subst eo21) | ((with_reducible refine gate_callee (f := 20) rfl ?_); refine goesL_ (some 38) rfl rfl Tryd.func20 (by kernel_rfl) rfl #[.slice Ao13 t146.length co13, .slice Ao21 t151.length co21] rfl (by (try simp only [List.map_toArray, List.map_cons, List.map_nil]); first | done | rfl | (simp only [List.length_drop, List.length_take]; rfl)) ?_; (with_reducible refine (laws_eqStringS.calls kj7 _ _ t146 _ _ t151 true _ ?side1 ?side2 ?side3 ?side4 A18.out).mono ?_); (case side1 => repeat (first | exact (Kd.R_reads' HO_6.out).2.2 | (with_reducible refine Kd.C_alloc ?_ _) | (with_reducible refine Kd.C_drewN ?_ _) | (with_reducible refine Kd.C_drew ?_))); (case side2 => exact (Kd.R_reads' HO_6.out).2.1); (case side3 => repeat (first | exact (Kd.R_reads' HO153.out).2.2 | (with_reducible refine Kd.C_alloc ?_ _) | (with_reducible refine Kd.C_drewN ?_ _) | (with_reducible refine Kd.C_drew ?_))); (case side4 => exact (Kd.R_reads' HO153.out).2.1); rintro e w' ⟨rfl, ⟨nd, rfl⟩⟩; refine ⟨_, rfl, ?_⟩))
            go_ret
            exact ⟨by first | rfl | (simp [errW_none, errW_some] <;> rfl) | (simp [*, errW_none, errW_some] <;> rfl), by repeat (first | (with_reducible first | exact HB.out | apply below_alloc | apply pw_below_drewN | apply below_drew1) | exact HB.out)⟩
          · replace c19 := Bool.eq_false_iff.mpr c19
            subst c19
            have H1 : (some false) = some r := by rw [if_neg (show ¬ (false = true) by decide)] at H; exact H
            clear H
            have H := H1
            clear H1
            obtain rfl := Option.some.inj H
            go_wp2_with (first | ((with_reducible refine gate_callee (f := 17) rfl ?_); refine goesL_ (some 37) rfl rfl Tryd.func17 (by kernel_rfl) rfl #[.slice A0 l0.length c0] rfl (by (try simp only [List.map_toArray, List.map_cons, List.map_nil]); first | done | rfl | (simp only [List.length_drop, List.length_take]; rfl)) ?_; (with_reducible refine (laws_toStringS.calls kj7 _ _ l0 t151 _ ?side1 ?side2 A17.out).mono ?_); (case side1 => repeat (first | exact (Kd.C_below HR0.out HB.out) | (with_reducible refine Kd.C_alloc ?_ _) | (with_reducible refine Kd.C_drewN ?_ _) | (with_reducible refine Kd.C_drew ?_))); (case side2 => exact HC0.out); rintro e w22 ⟨v152, rfl, ho0, hb⟩; refine ⟨_, rfl, ?_⟩; have n0_ := Aside0.mk (Kd.R_elder' (by (with_reducible repeat (first | apply Kd.R_alloc | apply Kd.R_drewN | apply Kd.R_drew)); exact HO_6.out) (Kd.R_base ho0) hb); have n1_ := Aside0.mk (Kd.R_lower (Kd.R_new' ho0 (Kd.R_lt (by (with_reducible repeat (first | apply Kd.R_alloc | apply Kd.R_drewN | apply Kd.R_drew)); exact HO_6.out))) (below_size (by repeat (first | (with_reducible first | exact HB.out | apply below_alloc | apply pw_below_drewN | apply below_drew1) | exact HB.out)))); have n2_ := Aside0.mk (below_step (by repeat (first | (with_reducible first | exact HB.out | apply below_alloc | apply pw_below_drewN | apply below_drew1) | exact HB.out)) hb); clear HO_6; clear HB; have HO_6 := n0_; have HO153 := n1_; have HB := n2_; clear n0_ n1_ n2_; (try clear hb); (try clear hb2); (try clear hk); (try clear hi); (try clear ho0); obtain ⟨Ao23, co23, eo23⟩ := Kd.R_slice HO153.out; subst eo23) | ((with_reducible refine gate_callee (f := 20) rfl ?_); refine goesL_ (some 38) rfl rfl Tryd.func20 (by kernel_rfl) rfl #[.slice Ao13 t146.length co13, .slice Ao23 t151.length co23] rfl (by (try simp only [List.map_toArray, List.map_cons, List.map_nil]); first | done | rfl | (simp only [List.length_drop, List.length_take]; rfl)) ?_; (with_reducible refine (laws_eqStringS.calls kj7 _ _ t146 _ _ t151 false _ ?side1 ?side2 ?side3 ?side4 A18.out).mono ?_); (case side1 => repeat (first | exact (Kd.R_reads' HO_6.out).2.2 | (with_reducible refine Kd.C_alloc ?_ _) | (with_reducible refine Kd.C_drewN ?_ _) | (with_reducible refine Kd.C_drew ?_))); (case side2 => exact (Kd.R_reads' HO_6.out).2.1); (case side3 => repeat (first | exact (Kd.R_reads' HO153.out).2.2 | (with_reducible refine Kd.C_alloc ?_ _) | (with_reducible refine Kd.C_drewN ?_ _) | (with_reducible refine Kd.C_drew ?_))); (case side4 => exact (Kd.R_reads' HO153.out).2.1); rintro e w' ⟨rfl, ⟨nd, rfl⟩⟩; refine ⟨_, rfl, ?_⟩))
            go_ret
            exact ⟨by first | rfl | (simp [errW_none, errW_some] <;> rfl) | (simp [*, errW_none, errW_some] <;> rfl), by repeat (first | (with_reducible first | exact HB.out | apply below_alloc | apply pw_below_drewN | apply below_drew1) | exact HB.out)⟩

/-- THE PURE STATEMENT of laws_FnExactJournalOf. -/
def laws_FnExactJournalOf.Pure : Prop := ∀ (l0 : List ByteArray), l0.length ≤ maxLen → (∀ s ∈ l0, s.size ≤ maxLen) → ∃ k, laws_FnExactJournalOf.f k l0 = some true
theorem laws_FnExactJournalOf.walk (P : laws_FnExactJournalOf.Pure) (w : World) (A0 : Option Addr) (c0 : Nat) (l0 : List ByteArray) (hm0 : l0.length ≤ maxLen) (hx0 : ∀ s ∈ l0, s.size ≤ maxLen) (hr0 : Kd.C Kd.string w A0 l0.length l0) (hc0 : l0.length ≤ c0) (hT : Lib.TabIs Tryd.prog w "internal/strconv.uint64pow10" .u64 Lib.pow10Tab) :
    Calls Tryd.prog 6 #[.slice A0 l0.length c0] w fun e w' => e = .returned (.bool true) ∧ Below w.heap.size w w' := by
  obtain ⟨k, h⟩ := P l0 hm0 hx0
  refine (laws_FnExactJournalOf.calls k A0 c0 l0 true w hr0 hc0 hT h).mono ?_
  rintro e w' ⟨rfl, hd⟩
  exact ⟨rfl, hd⟩

end Go.Proofs.YtohdepanfnaddaaDoor.QFnExactJournalOf
