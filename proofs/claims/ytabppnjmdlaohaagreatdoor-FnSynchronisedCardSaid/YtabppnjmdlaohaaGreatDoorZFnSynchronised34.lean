/- A text of this claim, made small by a program of this session (wip/pack.py): lemmas and contracts that the law's row leans on. -/
import Derived.Test.YtabppnjmdlaohaaGreatDoorZFnSynchronised25
import Derived.Test.YtabppnjmdlaohaaGreatDoorZFnSynchronised28
namespace Go.Proofs.YtabppnjmdlaohaaGreatDoor.QFnSynchronised
open Go.RowKit Go.Proofs.YtabppnjmdlaohaaGreatDoorW.PrintWords Go.Proofs.YtabppnjmdlaohaaGreatDoorW.PrintLast Go.Proofs.YtabppnjmdlaohaaGreatDoorW.PrintMore
attribute [local go_sem] max2_int min2_int max_two min_two max_three min_three max_four min_four
set_option linter.unusedVariables false
set_option linter.unusedSimpArgs false
def impl_ends.l0 : Nat → List ByteArray → ByteArray → List Bool → ByteArray → Int → Int → Option (List Bool)
 | 0, _, _, _, _, _, _ => none
 | k + 1, x0, x1, x5, x6, x10, x11 => if x11 < x10 then (if 0 ≤ x11 then (if x11 ≤ (wrap64 (x11 + 1)) then (if (wrap64 (x11 + 1)) ≤ (x1.size : Int) then ((impl_read.f k x0 x6 (x1.extract (x11 : Int).toNat ((wrap64 (x11 + 1)) : Int).toNat)).bind fun t255 => (if x5.length < 140737488355328 then (impl_ends.l0 k x0 x1 (x5 ++ [(t255.toList == ([] : List UInt8))]) t255 x10 (wrap64 (x11 + 1))) else (none))) else (none)) else (none)) else (none)) else (some x5)
def impl_ends.f (k : Nat) (l0 : List ByteArray) (a1 : ByteArray) : Option (List Bool) := impl_ends.l0 k l0 a1 (([true] : List Bool)) (⟨#[]⟩ : ByteArray) (a1.size : Int) 0
set_option maxHeartbeats 8000000 in
set_option maxRecDepth 100000 in
theorem impl_ends.calls (k : Nat) (A0 : Option Addr) (c0 : Nat) (l0 : List ByteArray) (a1 : ByteArray) (r : List Bool) (w : World) (hr0 : Kd.C Kd.string w A0 l0.length l0) (hc0 : l0.length ≤ c0) (h : impl_ends.f k l0 a1 = some r) :
 Calls Tryz.prog 33 #[.slice A0 l0.length c0, .string a1] w fun e w' => ∃ v0_ : Value, e = .returned (v0_) ∧ Kd.R Kd.bool 4 w' w.heap.size (fun _ => True) v0_ r ∧ Below w.heap.size w w' := by
 have HR0 := Aside0.mk hr0
 have HC0 := Aside0.mk hc0
 clear hr0 hc0
 have HB := Aside0.mk (Below.refl w.heap.size w)
 have H : (impl_ends.l0 k l0 a1 (([true] : List Bool)) (⟨#[]⟩ : ByteArray) (a1.size : Int) 0) = some r := h
 clear h
 obtain ⟨y252, hy252⟩ : ∃ y_ : List Bool, y_ = (([true] : List Bool)) := ⟨_, rfl⟩
 replace H : (impl_ends.l0 k l0 a1 y252 (⟨#[]⟩ : ByteArray) (a1.size : Int) 0) = some r := by first | (rw [hy252]; with_reducible exact H) | (have H2_ := (Option.bind_some _ _).symm.trans H; rw [hy252]; with_reducible exact H2_) | (have H2_ := (Option.bind_some _ _).symm.trans H; with_reducible exact H2_) | with_reducible exact H | (rw [hy252]; exact H) | exact H
 have Ny252 := Aside0.mk hy252
 clear hy252
 have H' := Aside0.mk H
 clear H
 go_enter Tryz.func33, Tryz.ntmps33
 go_wp2_with (first | ((with_reducible refine gate_dst (N := 8) rfl ?_); refine Kd.R_lit Kd.bool _ 4 ?hg (N := 8) ?hd (xs := ([true] : List Bool)) (inner := [.bool true]) (ok := fun _ => True) (okp := fun _ => True) ?hr ?hp (fun _ hk => hk) trivial (Below.refl _ _) (Nat.le_refl _) (by simp) ?_; (case hd => rfl); (case hg => rfl); (case hr => first | (go_simp; done) | (go_simp; rfl)); (case hp => exact (Reps.one (show Kd.M Kd.bool _ _ _ true [.bool true] from rfl) (Reps.none _ _))); intro v253 w3 ho4 hb hg_ hnew_; clear hg_ hnew_; (first | rw [← Ny252.out] at ho4 | (simp only [Int.reduceToNat] at ho4; rw [← Ny252.out] at ho4)); have n0_ := Aside0.mk (Kd.R_lower ho4 (below_size (by repeat (first | (with_reducible first | exact HB.out | apply below_alloc | apply pw_below_drewN | apply below_drew1) | exact HB.out)))); have n1_ := Aside0.mk (below_step (by repeat (first | (with_reducible first | exact HB.out | apply below_alloc | apply pw_below_drewN | apply below_drew1) | exact HB.out)) hb); clear HB; have HO254 := n0_; have HB := n1_; clear n0_ n1_; clear hb ho4))
 go_loopg [5, 6, 11] k (fun kq v5 v6 v11 w' => ∃ (x5_1 : List Bool) (x6_1 : ByteArray) (x11_1 : Int), v6 = .string x6_1 ∧ v11 = .int .i64 x11_1 ∧ Aside0 (impl_ends.l0 kq l0 a1 x5_1 x6_1 (a1.size : Int) x11_1 = some r) ∧ Aside0 (kq ≤ k) ∧ Aside0 (Kd.R Kd.bool 4 w' w.heap.size (fun _ => True) v5 x5_1) ∧ Aside0 (Below w.heap.size w w'))
 case atStart => exact ⟨(y252), ((⟨#[]⟩ : ByteArray)), (0), (by first | rfl | (simp; done) | (simp [*]; done)), (by first | rfl | (simp; done) | (simp [*]; done)), H', ⟨Nat.le_refl _⟩, ⟨by (with_reducible repeat (first | apply Kd.R_alloc | apply Kd.R_drewN | apply Kd.R_drew)); exact HO254.out⟩, ⟨by repeat (first | (with_reducible first | exact HB.out | apply below_alloc | apply pw_below_drewN | apply below_drew1) | exact HB.out)⟩⟩
 case round =>
  clear H'
  try clear p2
  try clear c3
  obtain ⟨x5_1, x6_1, x11_1, rfl, rfl, HA, HK1, HO_5, HB⟩ := hrel
  cases gk with
  | zero => exact absurd HA.out (by simp [impl_ends.l0])
  | succ k1 =>
   have H := HA.out
   clear HA
   simp only [impl_ends.l0] at H
   by_cases c5 : x11_1 < (a1.size : Int)
   ·rw [if_pos c5] at H
    have c5b0 : decide (x11_1 < (a1.size : Int)) = true := decide_eq_true c5
    clear c5
    by_cases c6 : 0 ≤ x11_1
    ·rw [if_pos c6] at H
     have c6b0 := eq_true c6
     have c6b1 : decide (0 ≤ x11_1) = true := decide_eq_true c6
     clear c6
     by_cases c7 : x11_1 ≤ (wrap64 (x11_1 + 1))
     ·rw [if_pos c7] at H
      have c7b0 := eq_true c7
      have c7b1 : decide (x11_1 ≤ (wrap64 (x11_1 + 1))) = true := decide_eq_true c7
      by_cases c8 : (wrap64 (x11_1 + 1)) ≤ (a1.size : Int)
      ·rw [if_pos c8] at H
       have c8b0 := eq_true c8
       have c8b1 : decide ((wrap64 (x11_1 + 1)) ≤ (a1.size : Int)) = true := decide_eq_true c8
       replace H := Option.bind_eq_some_iff.mp H
       obtain ⟨t255, A90, H⟩ := H
       replace H : (if x5_1.length < 140737488355328 then (impl_ends.l0 k1 l0 a1 (x5_1 ++ [(t255.toList == ([] : List UInt8))]) t255 (a1.size : Int) (wrap64 (x11_1 + 1))) else (none)) = some r := H
       have A9 := Aside0.mk A90
       clear A90
       by_cases c10 : x5_1.length < 140737488355328
       ·rw [if_pos c10] at H
        have LMc10 := Aside0.mk c10
        clear c10
        obtain ⟨y256, hy256⟩ : ∃ y_ : List Bool, y_ = (x5_1 ++ [(t255.toList == ([] : List UInt8))]) := ⟨_, rfl⟩
        replace H : (impl_ends.l0 k1 l0 a1 y256 t255 (a1.size : Int) (wrap64 (x11_1 + 1))) = some r := by first | (rw [hy256]; with_reducible exact H) | (have H2_ := (Option.bind_some _ _).symm.trans H; rw [hy256]; with_reducible exact H2_) | (have H2_ := (Option.bind_some _ _).symm.trans H; with_reducible exact H2_) | with_reducible exact H | (rw [hy256]; exact H) | exact H
        obtain ⟨tb256_, htb256_⟩ : ∃ b_ : Bool, (t255.toList == ([] : List UInt8)) = b_ := ⟨_, rfl⟩
        rw [htb256_] at hy256
        have htb256_2 : t255.toList.isEmpty = tb256_ := by rw [← htb256_]; cases t255.toList <;> rfl
        have Ny256 := Aside0.mk hy256
        clear hy256
        have H' := Aside0.mk H
        clear H
        go_wp2_with (first | ((with_reducible refine gate_callee (f := 20) rfl ?_); refine goesL_ (some 21) rfl rfl Tryz.func20 (by kernel_rfl) rfl #[.slice A0 l0.length c0, .string x6_1, .string (a1.extract (x11_1 : Int).toNat ((wrap64 (x11_1 + 1)) : Int).toNat)] rfl (by (try simp only [List.map_toArray, List.map_cons, List.map_nil]); first | done | rfl | (simp only [List.length_drop, List.length_take]; rfl)) ?_; (with_reducible refine (impl_read.calls k1 _ _ l0 x6_1 (a1.extract (x11_1 : Int).toNat ((wrap64 (x11_1 + 1)) : Int).toNat) t255 _ ?side1 ?side2 A9.out).mono ?_); (case side1 => repeat (first | exact (Kd.C_below HR0.out HB.out) | (with_reducible refine Kd.C_alloc ?_ _) | (with_reducible refine Kd.C_drewN ?_ _) | (with_reducible refine Kd.C_drew ?_))); (case side2 => exact HC0.out); rintro e w' ⟨rfl, ⟨nd, rfl⟩⟩; refine ⟨_, rfl, ?_⟩) | ((with_reducible refine gate_builtin (b := .append) (xs := #[.tmp 22, .tmp 25]) rfl ?_); at_builtin; refine Kd.R_append Kd.bool (w0 := w) w.heap.size rfl (.tmp 22) (.tmp 25) 58 4 (.bool false) 1 rfl Tryz.underlying58 info4 rfl (by decide) (by omega) u5 x5_1 tb256_ [.bool tb256_] (fun _ => True) (fun _ => False) rfl rfl ?aP (fun _ hk => hk.elim) ?aF ?aO ?aB ?aS ?aL ?_; (case aP => exact rfl); (case aB => exact (by repeat (first | (with_reducible first | exact HB.out | apply below_alloc | apply pw_below_drewN | apply below_drew1) | exact HB.out))); (case aF => exact (fun _ _ => trivial)); (case aO => exact (by (with_reducible repeat (first | apply Kd.R_alloc | apply Kd.R_drewN | apply Kd.R_drew)); exact HO_5.out)); (case aS => exact (below_size (by repeat (first | (with_reducible first | exact HB.out | apply below_alloc | apply pw_below_drewN | apply below_drew1) | exact HB.out)))); (case aL => have := LMc10.out; omega); intro v257 w11 ho hb hg hat; rw [← Ny256.out] at ho; have n0_ := Aside0.mk (hb); have n1_ := Aside0.mk (ho); clear HB; clear HO_5; have HB := n0_; have HO258 := n1_; clear n0_ n1_; clear ho hb hg hat))
        go_roundg k1
        case measure => have := HK1.out; omega
        case rel => exact ⟨(y256), (t255), (wrap64 (x11_1 + 1)), (by first | rfl | (simp; done) | (simp [*]; done)), (by first | rfl | (simp; done) | (simp [*]; done)), H', ⟨by have := HK1.out; omega⟩, ⟨by (with_reducible repeat (first | apply Kd.R_alloc | apply Kd.R_drewN | apply Kd.R_drew)); exact HO258.out⟩, ⟨by repeat (first | (with_reducible first | exact HB.out | apply below_alloc | apply pw_below_drewN | apply below_drew1) | exact HB.out)⟩⟩
       ·rw [if_neg c10] at H
        exact absurd H (by simp)
      ·rw [if_neg c8] at H
       exact absurd H (by simp)
     ·rw [if_neg c7] at H
      exact absurd H (by simp)
    ·rw [if_neg c6] at H
     exact absurd H (by simp)
   ·rw [if_neg c5] at H
    have c5b0 : decide (x11_1 < (a1.size : Int)) = false := decide_eq_false c5
    clear c5
    obtain rfl := Option.some.inj H
    go_wp2
    go_ret
    exact ⟨_, by first | rfl | (simp [errW_none, errW_some] <;> rfl) | (simp [*, errW_none, errW_some] <;> rfl), by (with_reducible repeat (first | apply Kd.R_alloc | apply Kd.R_drewN | apply Kd.R_drew)); exact HO_5.out, by repeat (first | (with_reducible first | exact HB.out | apply below_alloc | apply pw_below_drewN | apply below_drew1) | exact HB.out)⟩
def impl_bitOf.f (a0 : Bool) : Option (ByteArray) := if a0 = true then (some (⟨#[49]⟩ : ByteArray)) else (some (⟨#[48]⟩ : ByteArray))
set_option maxHeartbeats 8000000 in
set_option maxRecDepth 100000 in
theorem impl_bitOf.calls (a0 : Bool) (r : ByteArray) (w : World) (h : impl_bitOf.f a0 = some r) :
 Calls Tryz.prog 70 #[.bool a0] w fun e w' => e = .returned (.string r) ∧ Drawn0 w w' := by
 have H : (if a0 = true then (some (⟨#[49]⟩ : ByteArray)) else (some (⟨#[48]⟩ : ByteArray))) = some r := h
 clear h
 by_cases c2 : a0 = true
 ·subst c2
  have H1 : (some (⟨#[49]⟩ : ByteArray)) = some r := by rw [if_pos rfl] at H; exact H
  clear H
  have H := H1
  clear H1
  obtain rfl := Option.some.inj H
  go_enter Tryz.func70, Tryz.ntmps70
  go_wp2
  go_ret
  exact ⟨by first | rfl | (simp; done) | (simp [*]; done), by repeat (first | exact Drawn0.refl _ | apply Drawn0.step)⟩
 ·replace c2 := Bool.eq_false_iff.mpr c2
  subst c2
  have H1 : (some (⟨#[48]⟩ : ByteArray)) = some r := by rw [if_neg (show ¬ (false = true) by decide)] at H; exact H
  clear H
  have H := H1
  clear H1
  obtain rfl := Option.some.inj H
  go_enter Tryz.func70, Tryz.ntmps70
  go_wp2
  go_ret
  exact ⟨by first | rfl | (simp; done) | (simp [*]; done), by repeat (first | exact Drawn0.refl _ | apply Drawn0.step)⟩
def impl_xorBits.l0 : Nat → ByteArray → ByteArray → ByteArray → Int → Option (ByteArray)
 | 0, _, _, _, _ => none
 | k + 1, x0, x1, x5, x10 => if x10 < (x0.size : Int) then (if 0 ≤ x10 then (if x10 < (x1.size : Int) then ((impl_bitOf.f ((bt x0 x10) != (bt x1 x10))).bind fun t20 => (if x5.size + t20.size ≤ 140737488355328 then (impl_xorBits.l0 k x0 x1 (x5 ++ t20) (wrap64 (x10 + 1))) else (none))) else (none)) else (none)) else (some x5)
def impl_xorBits.f (k : Nat) (a0 : ByteArray) (a1 : ByteArray) : Option (ByteArray) := impl_xorBits.l0 k a0 a1 (⟨#[]⟩ : ByteArray) 0
theorem impl_xorBits.cells (s t : ByteArray) : Lib.byteCells s.data.toList ++ Lib.strCells t = Lib.byteCells (s ++ t).data.toList := by
 rw [ByteArray.data_append, Array.toList_append]
 simp [Lib.byteCells, Lib.strCells]
theorem impl_xorBits.len (s : ByteArray) : (Lib.byteCells s.data.toList).length = s.size := by
 unfold Lib.byteCells
 rw [List.length_map, Array.length_toList]; rfl
set_option maxHeartbeats 8000000 in
set_option maxRecDepth 100000 in
theorem impl_xorBits.calls (k : Nat) (a0 : ByteArray) (a1 : ByteArray) (r : ByteArray) (w : World) (h : impl_xorBits.f k a0 a1 = some r) :
 Calls Tryz.prog 52 #[.string a0, .string a1] w fun e w' => e = .returned (.string r) ∧ Below w.heap.size w w' := by
 have H : impl_xorBits.l0 k a0 a1 (⟨#[]⟩ : ByteArray) 0 = some r := h
 clear h
 have H' := Aside0.mk H
 clear H
 have HB0 : Below w.heap.size w (w.alloc (.cells #[.pointer none, .slice none 0 0] 70)) := (Below.refl _ w).alloc (Nat.le_refl _) _
 have HF := Aside0.mk (Lib.fresh_isBuilder 70 5 w)
 have HB := Aside0.mk HB0
 clear HB0
 go_enter Tryz.func52, Tryz.ntmps52
 go_wp2
 go_loopg [10] k (fun kq v10 w' => ∃ (x5_1 : ByteArray) (x10_1 : Int), v10 = .int .i64 x10_1 ∧ Aside0 (impl_xorBits.l0 kq a0 a1 x5_1 x10_1 = some r) ∧ Aside0 (kq ≤ k) ∧ Aside0 (Lib.IsBuilder 70 5 w.heap.size w.heap.size (Lib.byteCells x5_1.data.toList) w') ∧ Aside0 (Below w.heap.size w w'))
 case atStart => exact ⟨(⟨#[]⟩ : ByteArray), 0, rfl, H', ⟨Nat.le_refl _⟩, ⟨HF.out⟩, ⟨HB.out⟩⟩
 case round =>
  clear H' HF HB
  obtain ⟨x5_1, x10_1, rfl, HA, HK1, HO, HB⟩ := hrel
  cases gk with
  | zero => exact absurd HA.out (by simp [impl_xorBits.l0])
  | succ k1 =>
   have H := HA.out
   clear HA
   simp only [impl_xorBits.l0] at H
   by_cases c7 : x10_1 < (a0.size : Int)
   ·rw [if_pos c7] at H
    have c7b0 : decide (x10_1 < (a0.size : Int)) = true := decide_eq_true c7
    by_cases c8 : 0 ≤ x10_1
    ·rw [if_pos c8] at H
     by_cases c9 : x10_1 < (a1.size : Int)
     ·rw [if_pos c9] at H
      obtain ⟨t20, A20, H⟩ := Option.bind_eq_some_iff.mp H
      by_cases c10 : x5_1.size + t20.size ≤ 140737488355328
      ·rw [if_pos c10] at H
       have H' := Aside0.mk H
       have A2 := Aside0.mk A20
       have LM := Aside0.mk c10
       clear H A20 c10
       have p14 := eq_true c8
       have q14 := eq_true c7
       have q15 := eq_true c9
       have hx14 := bt_at a0 x10_1
       have hx15 := bt_at a1 x10_1
       clear c7 c8 c9
       go_wp2
       go_still_tail 7, (by kernel_rfl)
       go_wp2_with (first | (go_at_call 70; (with_reducible refine (impl_bitOf.calls _ _ _ A2.out).mono ?_); rintro e w' ⟨rfl, ⟨nd, rfl⟩⟩) | (go_at_call 43; refine (Tryz.Builder_WriteString w.heap.size w.heap.size (Lib.byteCells x5_1.data.toList) t20 _ ?s1 ?s2 ?s3).mono ?_; (case s1 => exact HO.out); (case s2 => exact (by rw [show (Lib.byteCells x5_1.data.toList).length = x5_1.size from impl_xorBits.len x5_1]; exact LM.out)); (case s3 => exact HB.out.size); rintro e w9 ⟨rfl, hbu, hb⟩; have n0_ := Aside0.mk ((pw_below_drewN HB.out _).trans hb); have n1_ := Aside0.mk hbu; clear HB HO; have HB := n0_; have HO := n1_; clear n0_ n1_ hbu hb))
       go_roundg k1
       case measure => have := HK1.out; omega
       case rel => exact ⟨x5_1 ++ t20, (wrap64 (x10_1 + 1)), (by first | rfl | (simp; done) | (simp [*]; done)), H', ⟨by have := HK1.out; omega⟩, ⟨by rw [← impl_xorBits.cells]; exact Or.inr HO.out⟩, ⟨by repeat (first | (with_reducible first | exact HB.out | apply below_alloc | apply pw_below_drewN | apply below_drew1) | exact HB.out)⟩⟩
      ·rw [if_neg c10] at H
       exact absurd H (by simp)
     ·rw [if_neg c9] at H
      exact absurd H (by simp)
    ·rw [if_neg c8] at H
     exact absurd H (by simp)
   ·rw [if_neg c7] at H
    have c7b0 : decide (x10_1 < (a0.size : Int)) = false := decide_eq_false c7
    clear c7
    obtain rfl := Option.some.inj H
    go_wp2_with (first | (go_at_call 44; refine (Tryz.Builder_String_any w.heap.size w.heap.size x5_1.data.toList _ ?s1 ?s2).mono ?_; (case s1 => exact HO.out); (case s2 => exact HB.out.size); rintro e w9 ⟨rfl, hb⟩; have n0_ := Aside0.mk (HB.out.trans hb); clear HB; have HB := n0_; clear n0_ hb))
    go_ret
    exact ⟨by first | rfl | (simp; done) | (simp [*]; done), HB.out⟩
def strings_Repeat.f (a0 : ByteArray) (a1 : Int) : Option (ByteArray) := if 0 ≤ a1 ∧ a1 ≤ 9223372036854775807 ∧ a0.size * a1.toNat ≤ 140737488355328 then some ⟨(Lib.repeatL a0.data.toList a1.toNat).toArray⟩ else none
theorem strings_Repeat.calls (a0 : ByteArray) (a1 : Int) (r : ByteArray) (w : World) (h : strings_Repeat.f a0 a1 = some r) :
 Calls Tryz.prog 53 #[.string a0, .int .i64 a1] w fun e w' => e = .returned (.string r) ∧ Below w.heap.size w w' := by
 unfold strings_Repeat.f at h
 by_cases hc : 0 ≤ a1 ∧ a1 ≤ 9223372036854775807 ∧ a0.size * a1.toNat ≤ 140737488355328
 ·rw [if_pos hc] at h
  obtain rfl := Option.some.inj h
  have e := Int.toNat_of_nonneg hc.1
  have hq := Tryz.strings_Repeat a0 a1.toNat w (by omega) hc.2.2
  rw [e] at hq
  exact hq
 ·rw [if_neg hc] at h
  cases h
def impl_opposite.f (k : Nat) (a0 : ByteArray) : Option (ByteArray) := (strings_Repeat.f (⟨#[49]⟩ : ByteArray) (a0.size : Int)).bind fun t259 => ((impl_xorBits.f k a0 t259).bind fun t260 => (some t260))
set_option maxHeartbeats 8000000 in
set_option maxRecDepth 100000 in
theorem impl_opposite.calls (k : Nat) (a0 : ByteArray) (r : ByteArray) (w : World) (h : impl_opposite.f k a0 = some r) :
 Calls Tryz.prog 34 #[.string a0] w fun e w' => e = .returned (.string r) ∧ Below w.heap.size w w' := by
 have HB := Aside0.mk (Below.refl w.heap.size w)
 have H : ((strings_Repeat.f (⟨#[49]⟩ : ByteArray) (a0.size : Int)).bind fun t259 => ((impl_xorBits.f k a0 t259).bind fun t260 => (some t260))) = some r := h
 clear h
 replace H := Option.bind_eq_some_iff.mp H
 obtain ⟨t259, A20, H⟩ := H
 replace H : ((impl_xorBits.f k a0 t259).bind fun t260 => (some t260)) = some r := H
 have A2 := Aside0.mk A20
 clear A20
 replace H := Option.bind_eq_some_iff.mp H
 obtain ⟨t260, A30, H⟩ := H
 replace H : (some t260) = some r := H
 have A3 := Aside0.mk A30
 clear A30
 obtain rfl := Option.some.inj H
 go_enter Tryz.func34, Tryz.ntmps34
 go_wp2_with (first | ((with_reducible refine gate_callee (f := 53) rfl ?_); refine goesL_ (some 6) rfl rfl Tryz.func53 (by kernel_rfl) rfl #[.string (⟨#[49]⟩ : ByteArray), .int .i64 (a0.size : Int)] rfl (by (try simp only [List.map_toArray, List.map_cons, List.map_nil]); first | done | rfl | (simp only [List.length_drop, List.length_take]; rfl)) ?_; (with_reducible refine (strings_Repeat.calls (⟨#[49]⟩ : ByteArray) (a0.size : Int) t259 _ A2.out).mono ?_); rintro e w4 ⟨rfl, hb⟩; refine ⟨_, rfl, ?_⟩; have n0_ := Aside0.mk (below_step (by repeat (first | (with_reducible first | exact HB.out | apply below_alloc | apply pw_below_drewN | apply below_drew1) | exact HB.out)) hb); clear HB; have HB := n0_; clear n0_; (try clear hb); (try clear hb2); (try clear hk); (try clear hi)) | ((with_reducible refine gate_callee (f := 52) rfl ?_); refine goesL_ (some 7) rfl rfl Tryz.func52 (by kernel_rfl) rfl #[.string a0, .string t259] rfl (by (try simp only [List.map_toArray, List.map_cons, List.map_nil]); first | done | rfl | (simp only [List.length_drop, List.length_take]; rfl)) ?_; (with_reducible refine (impl_xorBits.calls k a0 t259 t260 _ A3.out).mono ?_); rintro e w5 ⟨rfl, hb⟩; refine ⟨_, rfl, ?_⟩; have n0_ := Aside0.mk (below_step (by repeat (first | (with_reducible first | exact HB.out | apply below_alloc | apply pw_below_drewN | apply below_drew1) | exact HB.out)) hb); clear HB; have HB := n0_; clear n0_; (try clear hb); (try clear hb2); (try clear hk); (try clear hi)))
 go_ret
 exact ⟨by first | rfl | (simp [errW_none, errW_some] <;> rfl) | (simp [*, errW_none, errW_some] <;> rfl), by repeat (first | (with_reducible first | exact HB.out | apply below_alloc | apply pw_below_drewN | apply below_drew1) | exact HB.out)⟩
end Go.Proofs.YtabppnjmdlaohaaGreatDoor.QFnSynchronised
