/- Made small by wip/pack.py: lemmas and contracts that the law's row leans on. -/
import Derived.Test.YtbjmbfjbjkhhdaaGreatDoorZFnTopOfAll27
import Derived.Test.YtbjmbfjbjkhhdaaGreatDoorZFnTopOfAll31
import Derived.Test.YtbjmbfjbjkhhdaaGreatDoorZFnTopOfAll32
import Derived.Test.YtbjmbfjbjkhhdaaGreatDoorZFnTopOfAll35
namespace Go.Proofs.YtbjmbfjbjkhhdaaGreatDoor.QFnTopOfAll
open Go.RowKit Go.Proofs.YtbjmbfjbjkhhdaaGreatDoorW.PrintWords Go.Proofs.YtbjmbfjbjkhhdaaGreatDoorW.PrintLast Go.Proofs.YtbjmbfjbjkhhdaaGreatDoorW.PrintMore
attribute [local go_sem] max2_int min2_int max_two min_two max_three min_three max_four min_four
set_option linter.unusedVariables false
set_option linter.unusedSimpArgs false
mutual
def spec_RepeatBits.j0 : Nat → ByteArray → Int → Bool → Option (ByteArray × Bool)
 | 0, _, _, _ => none
 | k + 1, x0, x1, x23 => if x23 = true then (some ((⟨#[]⟩ : ByteArray), false)) else (spec_RepeatBits.l0 k x0 x1 (([] : List Int)) 0)
def spec_RepeatBits.l0 : Nat → ByteArray → Int → List Int → Int → Option (ByteArray × Bool)
 | 0, _, _, _, _ => none
 | k + 1, x0, x1, x6, x7 => if x7 < (x0.size : Int) then (spec_RepeatBits.l1 k x0 x1 x6 x7 0) else (some (strOfNums x6, true))
def spec_RepeatBits.l1 : Nat → ByteArray → Int → List Int → Int → Int → Option (ByteArray × Bool)
 | 0, _, _, _, _, _ => none
 | k + 1, x0, x1, x6, x7, x8 => if x8 < x1 then (if 0 ≤ x7 then (if x7 < (x0.size : Int) then (if x6.length < 140737488355328 then (spec_RepeatBits.l1 k x0 x1 (x6 ++ [bt x0 x7]) x7 (wrap64 (x8 + 1))) else (none)) else (none)) else (none)) else (spec_RepeatBits.l0 k x0 x1 x6 (wrap64 (x7 + 1)))
end
def spec_RepeatBits.f (k : Nat) (a0 : ByteArray) (a1 : Int) : Option (ByteArray × Bool) := (spec_l01Bits.f k a0).bind fun t248 => (if t248 = true then ((spec_l07Votes.f a1).bind fun t249 => (if t249 = true then (spec_RepeatBits.j0 k a0 a1 (decide ((wrap64 ((a0.size : Int) * a1)) > 400))) else (spec_RepeatBits.j0 k a0 a1 true))) else (spec_RepeatBits.j0 k a0 a1 true))
set_option maxHeartbeats 8000000 in
set_option maxRecDepth 100000 in
theorem spec_RepeatBits.calls (k : Nat) (a0 : ByteArray) (a1 : Int) (r1 : ByteArray) (r2 : Bool) (w : World) (h : spec_RepeatBits.f k a0 a1 = some (r1, r2)) :
 Calls Tryz.prog 15 #[.string a0, .int .i64 a1] w fun e w' => e = .returned (.tuple #[.string r1, .bool r2]) ∧ Below w.heap.size w w' := by
 have HB := Aside0.mk (Below.refl w.heap.size w)
 have H : ((spec_l01Bits.f k a0).bind fun t248 => (if t248 = true then ((spec_l07Votes.f a1).bind fun t249 => (if t249 = true then (spec_RepeatBits.j0 k a0 a1 (decide ((wrap64 ((a0.size : Int) * a1)) > 400))) else (spec_RepeatBits.j0 k a0 a1 true))) else (spec_RepeatBits.j0 k a0 a1 true))) = some (r1, r2) := h
 clear h
 have HC3 := Aside0.mk H
 clear H
 go_enter Tryz.func15, Tryz.ntmps15
 go_upto_region 1 with (fail)
 go_cut [23] (fun v23 wc => ∃ (kq : Nat) (x23_2 : Bool), v23 = .bool x23_2 ∧ Aside0 (spec_RepeatBits.j0 kq a0 a1 x23_2 = some (r1, r2)) ∧ Aside0 (kq ≤ k) ∧ Aside0 (Below w.heap.size w wc))
 case first =>
  have H := HC3.out
  clear HC3
  replace H := Option.bind_eq_some_iff.mp H
  obtain ⟨t248, A40, H⟩ := H
  try dsimp only at H
  have A4 := Aside0.mk A40
  clear A40
  by_cases c5 : t248 = true
  ·subst c5
   rw [if_pos rfl] at H
   have H1 := H
   clear H
   have H := H1
   clear H1
   replace H := Option.bind_eq_some_iff.mp H
   obtain ⟨t249, A60, H⟩ := H
   try dsimp only at H
   have A6 := Aside0.mk A60
   clear A60
   by_cases c7 : t249 = true
   ·subst c7
    rw [if_pos rfl] at H
    have H1 := H
    clear H
    have H := H1
    clear H1
    have H' := Aside0.mk H
    clear H
    go_wp2_with (first | ((with_reducible refine gate_callee (f := 47) rfl ?_); refine goesL_ (some 10) rfl rfl Tryz.func47 Qi0_ rfl #[.string a0] rfl Qb0_ ?_; (with_reducible refine (spec_l01Bits.calls k a0 true _ A4.out).mono ?_); rintro e w' ⟨rfl, ⟨nd, rfl⟩⟩; refine ⟨_, rfl, ?_⟩) | (go_at_call 48; (with_reducible refine (spec_l07Votes.calls a1 true _ A6.out).mono ?_); rintro e w' ⟨rfl, ⟨nd, rfl⟩⟩))
    go_meet
    case rel => exact ⟨_, (decide ((wrap64 ((a0.size : Int) * a1)) > 400)), Qc0_, H', ⟨Qa1_⟩, ⟨Qa0_⟩⟩
   ·replace c7 := Bool.eq_false_iff.mpr c7
    subst c7
    rw [if_neg (show ¬ (false = true) by decide)] at H
    have H1 := H
    clear H
    have H := H1
    clear H1
    have H' := Aside0.mk H
    clear H
    go_wp2_with (first | ((with_reducible refine gate_callee (f := 47) rfl ?_); refine goesL_ (some 10) rfl rfl Tryz.func47 Qi0_ rfl #[.string a0] rfl Qb0_ ?_; (with_reducible refine (spec_l01Bits.calls k a0 true _ A4.out).mono ?_); rintro e w' ⟨rfl, ⟨nd, rfl⟩⟩; refine ⟨_, rfl, ?_⟩) | (go_at_call 48; (with_reducible refine (spec_l07Votes.calls a1 false _ A6.out).mono ?_); rintro e w' ⟨rfl, ⟨nd, rfl⟩⟩))
    go_meet
    case rel => exact ⟨_, (true), Qc0_, H', ⟨Qa1_⟩, ⟨Qa0_⟩⟩
  ·replace c5 := Bool.eq_false_iff.mpr c5
   subst c5
   rw [if_neg (show ¬ (false = true) by decide)] at H
   have H1 := H
   clear H
   have H := H1
   clear H1
   have H' := Aside0.mk H
   clear H
   go_wp2_with (first | ((with_reducible refine gate_callee (f := 47) rfl ?_); refine goesL_ (some 10) rfl rfl Tryz.func47 Qi0_ rfl #[.string a0] rfl Qb0_ ?_; (with_reducible refine (spec_l01Bits.calls k a0 false _ A4.out).mono ?_); rintro e w' ⟨rfl, ⟨nd, rfl⟩⟩; refine ⟨_, rfl, ?_⟩))
   go_meet
   case rel => exact ⟨_, (true), Qc0_, H', ⟨Qa1_⟩, ⟨Qa0_⟩⟩
 case rest =>
  clear HC3
  try clear c1
  try clear p2
  try clear c4
  try clear c5
  try clear p6
  try clear c7
  obtain ⟨kq, x23_2, rfl, HA, HJ2, HB⟩ := hcut
  cases kq with
  | zero => exact absurd HA.out (by simp [spec_RepeatBits.j0])
  | succ kj2 =>
   have H := HA.out
   clear HA
   simp only [spec_RepeatBits.j0] at H
   by_cases c8 : x23_2 = true
   ·subst c8
    rw [if_pos rfl] at H
    have H1 := H
    clear H
    have H := H1
    clear H1
    simp only [Option.some.injEq, Prod.mk.injEq] at H
    obtain ⟨rfl, rfl⟩ := H
    go_wp2
    go_ret2
    exact ⟨Qe0_, Qa0_⟩
   ·replace c8 := Bool.eq_false_iff.mpr c8
    subst c8
    rw [if_neg (show ¬ (false = true) by decide)] at H
    have H1 := H
    clear H
    have H := H1
    clear H1
    obtain ⟨y250, hy250⟩ : ∃ y_ : List Int, y_ = (([] : List Int)) := ⟨_, rfl⟩
    replace H : (spec_RepeatBits.l0 kj2 a0 a1 y250 0) = some (r1, r2) := by first | (rw [hy250]; with_reducible exact H) | (have H2_ := (Option.bind_some _ _).symm.trans H; rw [hy250]; with_reducible exact H2_) | (have H2_ := (Option.bind_some _ _).symm.trans H; with_reducible exact H2_) | with_reducible exact H | (rw [hy250]; exact H) | exact H
    have Ny250 := Aside0.mk hy250
    clear hy250
    have H' := Aside0.mk H
    clear H
    go_wp2_with (first | ((with_reducible refine gate_dst (N := 24) rfl ?_); (try (refine gate_guard (by rfl) ?_; dsimp only)); refine Kd.R_lit (Kd.int .u8) _ 5 ?hg (N := 24) ?hd (xs := ([] : List Int)) (inner := []) (ok := fun _ => True) (okp := fun _ => True) ?hr ?hp (fun _ hk => hk) trivial (Below.refl _ _) (Nat.le_refl _) (by simp) ?_; (case hd => rfl); (case hg => rfl); (case hr => exact Qh0_); (case hp => exact (Reps.none _ _)); intro v251 w9 ho10 hb hg_ hnew_; clear hg_ hnew_; (first | rw [← Ny250.out] at ho10 | (simp only [Int.reduceToNat] at ho10; rw [← Ny250.out] at ho10)); have n0_ := Aside0.mk (Kd.R_lower ho10 (below_size Qa0_)); have n1_ := Aside0.mk (below_step Qa0_ hb); clear HB; have HO252 := n0_; have HB := n1_; clear n0_ n1_; clear hb ho10))
    go_loopg [6, 7] kj2 (fun kq v6 v7 w' => ∃ (x6_2 : List Int) (x7_2 : Int), v7 = .int .i64 x7_2 ∧ Aside0 (spec_RepeatBits.l0 kq a0 a1 x6_2 x7_2 = some (r1, r2)) ∧ Aside0 (kq ≤ kj2) ∧ Aside0 (Kd.R (Kd.int .u8) 5 w' w.heap.size (fun _ => True) v6 x6_2) ∧ Aside0 (Below w.heap.size w w'))
    case atStart => exact ⟨(y250), (0), Qc0_, H', ⟨Nat.le_refl _⟩, ⟨Qr_ HO252.out⟩, ⟨Qa0_⟩⟩
    case round =>
     clear H'
     try clear c1
     try clear p2
     try clear c4
     try clear c5
     try clear p6
     try clear c7
     try clear c8
     try clear p2
     try clear p6
     obtain ⟨x6_2, x7_2, rfl, HA, HK2, HO_6, HB⟩ := hrel
     cases gk with
     | zero => exact absurd HA.out (by simp [spec_RepeatBits.l0])
     | succ k2 =>
      have H := HA.out
      clear HA
      simp only [spec_RepeatBits.l0] at H
      by_cases c11 : x7_2 < (a0.size : Int)
      ·rw [if_pos c11] at H
       have c11b0 := decide_eq_true c11
       clear c11
       have H' := Aside0.mk H
       clear H
       go_wp2
       go_loopg [6, 8] k2 (fun kq v6 v8 w' => ∃ (x6_3 : List Int) (x8_3 : Int), v8 = .int .i64 x8_3 ∧ Aside0 (spec_RepeatBits.l1 kq a0 a1 x6_3 x7_2 x8_3 = some (r1, r2)) ∧ Aside0 (kq ≤ k2) ∧ Aside0 (Kd.R (Kd.int .u8) 5 w' w.heap.size (fun _ => True) v6 x6_3) ∧ Aside0 (Below w.heap.size w w'))
       case atStart => exact ⟨(x6_2), (0), Qc0_, H', ⟨Nat.le_refl _⟩, ⟨Qr_ HO_6.out⟩, ⟨Qa0_⟩⟩
       case round =>
        clear H'
        try clear c1
        try clear p2
        try clear c4
        try clear c5
        try clear p6
        try clear c7
        try clear c8
        try clear c11
        try clear c11b0
        try clear p2
        try clear p6
        obtain ⟨x6_3, x8_3, rfl, HA, HK3, HO_6, HB⟩ := hrel
        cases gk with
        | zero => exact absurd HA.out (by simp [spec_RepeatBits.l1])
        | succ k3 =>
         have H := HA.out
         clear HA
         simp only [spec_RepeatBits.l1] at H
         by_cases c12 : x8_3 < a1
         ·rw [if_pos c12] at H
          have c12b0 := decide_eq_true c12
          clear c12
          by_cases c13 : 0 ≤ x7_2
          ·rw [if_pos c13] at H
           have c13b0 := decide_eq_true c13
           clear c13
           by_cases c14 : x7_2 < (a0.size : Int)
           ·rw [if_pos c14] at H
            have c14b0 := decide_eq_true c14
            clear c14
            by_cases c16 : x6_3.length < 140737488355328
            ·rw [if_pos c16] at H
             have LMc16 := Aside0.mk c16
             clear c16
             obtain ⟨y253, hy253⟩ : ∃ y_ : List Int, y_ = (x6_3 ++ [bt a0 x7_2]) := ⟨_, rfl⟩
             replace H : (spec_RepeatBits.l1 k3 a0 a1 y253 x7_2 (wrap64 (x8_3 + 1))) = some (r1, r2) := by first | (rw [hy253]; with_reducible exact H) | (have H2_ := (Option.bind_some _ _).symm.trans H; rw [hy253]; with_reducible exact H2_) | (have H2_ := (Option.bind_some _ _).symm.trans H; with_reducible exact H2_) | with_reducible exact H | (rw [hy253]; exact H) | exact H
             have Ny253 := Aside0.mk hy253
             clear hy253
             have H' := Aside0.mk H
             clear H
             have p15 : 0 ≤ (x7_2 : Int) := of_decide_eq_true Qf0_
             have q15 : x7_2 < (a0.size : Int) := of_decide_eq_true Qf0_
             have hx15 := bt_at a0 x7_2
             replace p15 := eq_true p15
             replace q15 := eq_true q15
             go_wp2_with (first | ((with_reducible refine gate_builtin (b := .append) (xs := #[.tmp 36, .tmp 40]) rfl ?_); (try (refine gate_guard (by rfl) ?_; dsimp only)); at_builtin; refine Kd.R_append (Kd.int .u8) (w0 := w) w.heap.size rfl (.tmp 36) (.tmp 40) 59 5 (.int .u8 0) 1 rfl Tryz.underlying59 info5 rfl (by decide) (by omega) u6 x6_3 (bt a0 x7_2) [.int .u8 (bt a0 x7_2)] (fun _ => True) (fun _ => False) rfl rfl ?aP (fun _ hk => hk.elim) ?aF ?aO ?aB ?aS ?aL ?_; (case aP => exact rfl); (case aB => exact Qa0_); (case aF => exact (fun _ _ => trivial)); (case aO => exact (Qr_ HO_6.out)); (case aS => exact (below_size Qa0_)); (case aL => have := LMc16.out; omega); intro v254 w17 ho hb hg hat; rw [← Ny253.out] at ho; have n0_ := Aside0.mk (hb); have n1_ := Aside0.mk (ho); clear HB; clear HO_6; have HB := n0_; have HO255 := n1_; clear n0_ n1_; clear ho hb hg hat))
             go_roundg k3
             case measure => have := HJ2.out; have := HK2.out; have := HK3.out; omega
             case rel => exact ⟨(y253), (wrap64 (x8_3 + 1)), Qc0_, H', ⟨by have := HJ2.out; have := HK2.out; have := HK3.out; omega⟩, ⟨Qr_ HO255.out⟩, ⟨Qa0_⟩⟩
            ·rw [if_neg c16] at H
             exact absurd H (by simp)
           ·rw [if_neg c14] at H
            exact absurd H (by simp)
          ·rw [if_neg c13] at H
           exact absurd H (by simp)
         ·rw [if_neg c12] at H
          have c12b0 := decide_eq_false c12
          clear c12
          have H' := Aside0.mk H
          clear H
          go_wp2
          go_roundg k3
          case measure => have := HJ2.out; have := HK2.out; have := HK3.out; omega
          case rel => exact ⟨(x6_3), (wrap64 (x7_2 + 1)), Qc0_, H', ⟨by have := HJ2.out; have := HK2.out; have := HK3.out; omega⟩, ⟨Qr_ HO_6.out⟩, ⟨Qa0_⟩⟩
      ·rw [if_neg c11] at H
       have c11b0 := decide_eq_false c11
       clear c11
       simp only [Option.some.injEq, Prod.mk.injEq] at H
       obtain ⟨rfl, rfl⟩ := H
       have hcv18 := own_string (P := Tryz.prog) Tryz.underlying59 Tryz.underlying5 Tryz.underlying9 (Kd.own_of_R HO_6.out)
       go_wp2
       go_ret2
       exact ⟨Qe0_, Qa0_⟩
def spec_l08Check.f (a0 : Int) : Option (Bool) := (spec_l00In.f a0 2 131071).bind fun t256 => (some t256)
set_option maxHeartbeats 8000000 in
set_option maxRecDepth 100000 in
theorem spec_l08Check.calls (a0 : Int) (r : Bool) (w : World) (h : spec_l08Check.f a0 = some r) :
 Calls Tryz.prog 49 #[.int .i64 a0] w fun e w' => e = .returned (.bool r) ∧ Drawn0 w w' := by
 have H : ((spec_l00In.f a0 2 131071).bind fun t256 => (some t256)) = some r := h
 clear h
 replace H := Option.bind_eq_some_iff.mp H
 obtain ⟨t256, A20, H⟩ := H
 try dsimp only at H
 have A2 := Aside0.mk A20
 clear A20
 obtain rfl := Option.some.inj H
 go_enter Tryz.func49, Tryz.ntmps49
 go_wp2_with (first | ((with_reducible refine gate_callee (f := 70) rfl ?_); refine goesL_ (some 4) rfl rfl Tryz.func70 Qi0_ rfl #[.int .i64 a0, .int .i64 2, .int .i64 131071] rfl Qb0_ ?_; (with_reducible refine (spec_l00In.calls a0 2 131071 t256 _ A2.out).mono ?_); rintro e w' ⟨rfl, ⟨nd, rfl⟩⟩; refine ⟨_, rfl, ?_⟩))
 go_ret
 exact ⟨Qc0_, Qd0_⟩
def spec_l08Degree.l0 : Nat → Int → Int → Option (Int)
 | 0, _, _ => none
 | k + 1, x0, x3 => if x0 > 1 then (spec_l08Degree.l0 k (x0 / 2) (wrap64 (x3 + 1))) else (some x3)
def spec_l08Degree.f (k : Nat) (a0 : Int) : Option (Int) := spec_l08Degree.l0 k a0 0
set_option maxHeartbeats 8000000 in
set_option maxRecDepth 100000 in
theorem spec_l08Degree.calls (k : Nat) (a0 : Int) (r : Int) (w : World) (h : spec_l08Degree.f k a0 = some r) :
 Calls Tryz.prog 50 #[.int .i64 a0] w fun e w' => e = .returned (.int .i64 r) ∧ Drawn0 w w' := by
 have H : (spec_l08Degree.l0 k a0 0) = some r := h
 clear h
 have H' := Aside0.mk H
 clear H
 go_enter Tryz.func50, Tryz.ntmps50
 go_wp2
 go_loopg [0, 3] k (fun kq v0 v3 w' => ∃ (x0_1 : Int) (x3_1 : Int), v0 = .int .i64 x0_1 ∧ v3 = .int .i64 x3_1 ∧ Aside0 (spec_l08Degree.l0 kq x0_1 x3_1 = some r) ∧ Aside0 (kq ≤ k) ∧ Drawn0 w w')
 case atStart => exact ⟨(a0), (0), Qc0_, Qc0_, H', ⟨Nat.le_refl _⟩, Qd0_⟩
 case round =>
  clear H'
  obtain ⟨x0_1, x3_1, rfl, rfl, HA, HK1, ⟨m1, rfl⟩⟩ := hrel
  cases gk with
  | zero => exact absurd HA.out (by simp [spec_l08Degree.l0])
  | succ k1 =>
   have H := HA.out
   clear HA
   simp only [spec_l08Degree.l0] at H
   by_cases c2 : x0_1 > 1
   ·rw [if_pos c2] at H
    have c2b0 := decide_eq_true c2
    clear c2
    have H' := Aside0.mk H
    clear H
    go_wp2
    go_roundg k1
    case measure => have := HK1.out; omega
    case rel => exact ⟨(x0_1 / 2), (wrap64 (x3_1 + 1)), Qc0_, Qc0_, H', ⟨Qp0_⟩, Qd0_⟩
   ·rw [if_neg c2] at H
    have c2b0 := decide_eq_false c2
    clear c2
    obtain rfl := Option.some.inj H
    go_wp2
    go_ret
    exact ⟨Qc0_, Qd0_⟩
def spec_l08Next.f (k : Nat) (a0 : Int) (a1 : Int) (a2 : Int) : Option (Int) := (spec_l08Degree.f k a0).bind fun t257 => (if 0 ≤ (IntKind.u64.wrap (t257)) then (if (shr .i64 (Go.bits .or .i64 (wrap64 (a1 * 2)) a2) (IntKind.u64.wrap (t257))) > 0 then (some (Go.bits .xor .i64 (Go.bits .or .i64 (wrap64 (a1 * 2)) a2) a0)) else (some (Go.bits .or .i64 (wrap64 (a1 * 2)) a2))) else (none))
set_option maxHeartbeats 8000000 in
set_option maxRecDepth 100000 in
theorem spec_l08Next.calls (k : Nat) (a0 : Int) (a1 : Int) (a2 : Int) (r : Int) (w : World) (h : spec_l08Next.f k a0 a1 a2 = some r) :
 Calls Tryz.prog 87 #[.int .i64 a0, .int .i64 a1, .int .i64 a2] w fun e w' => e = .returned (.int .i64 r) ∧ Drawn0 w w' := by
 have H : ((spec_l08Degree.f k a0).bind fun t257 => (if 0 ≤ (IntKind.u64.wrap (t257)) then (if (shr .i64 (Go.bits .or .i64 (wrap64 (a1 * 2)) a2) (IntKind.u64.wrap (t257))) > 0 then (some (Go.bits .xor .i64 (Go.bits .or .i64 (wrap64 (a1 * 2)) a2) a0)) else (some (Go.bits .or .i64 (wrap64 (a1 * 2)) a2))) else (none))) = some r := h
 clear h
 replace H := Option.bind_eq_some_iff.mp H
 obtain ⟨t257, A40, H⟩ := H
 try dsimp only at H
 have A4 := Aside0.mk A40
 clear A40
 obtain ⟨ji5, hji5⟩ : ∃ j_ : Int, (IntKind.u64.wrap (t257)) = j_ := ⟨_, rfl⟩
 replace H : (if 0 ≤ (ji5) then (if (shr .i64 (Go.bits .or .i64 (wrap64 (a1 * 2)) a2) (ji5)) > 0 then (some (Go.bits .xor .i64 (Go.bits .or .i64 (wrap64 (a1 * 2)) a2) a0)) else (some (Go.bits .or .i64 (wrap64 (a1 * 2)) a2))) else (none)) = some r := by first | (rw [hji5] at H; exact H) | (simp only [hji5] at H ⊢; exact H)
 (try rw [hji5] at A4)
 by_cases c6 : 0 ≤ (ji5)
 ·rw [if_pos c6] at H
  have c6b0 := eq_true c6
  have c6b1 := decide_eq_true c6
  clear c6
  obtain ⟨ji7, hji7⟩ : ∃ j_ : Int, (shr .i64 (Go.bits .or .i64 (wrap64 (a1 * 2)) a2) (ji5)) = j_ := ⟨_, rfl⟩
  replace H : (if (ji7) > 0 then (some (Go.bits .xor .i64 (Go.bits .or .i64 (wrap64 (a1 * 2)) a2) a0)) else (some (Go.bits .or .i64 (wrap64 (a1 * 2)) a2))) = some r := by first | (rw [hji7] at H; exact H) | (simp only [hji7] at H ⊢; exact H)
  (try rw [hji7] at A4)
  have hji7_ : ((Go.bits .or .i64 (wrap64 (a1 * 2)) a2) / 2 ^ min (ji5).toNat 64) = ji7 := hji7
  have hji7z : (ji5) ≤ 64 → ((Go.bits .or .i64 (wrap64 (a1 * 2)) a2) / 2 ^ (ji5).toNat) = ji7 := shr_small hji7
  by_cases c8 : (ji7) > 0
  ·rw [if_pos c8] at H
   have c8b0 := decide_eq_true c8
   clear c8
   obtain rfl := Option.some.inj H
   go_enter Tryz.func87, Tryz.ntmps87
   go_wp2_with (first | ((with_reducible refine gate_callee (f := 50) rfl ?_); refine goesL_ (some 13) rfl rfl Tryz.func50 Qi0_ rfl #[.int .i64 a0] rfl Qb0_ ?_; (with_reducible refine (spec_l08Degree.calls k a0 t257 _ A4.out).mono ?_); rintro e w' ⟨rfl, ⟨nd, rfl⟩⟩; refine ⟨_, rfl, ?_⟩))
   go_ret
   exact ⟨by first | rfl | (simp; done) | (simp only [← hji5, ← hji7] <;> (first | rfl | simp)) | (simp [*]; done), Qd0_⟩
  ·rw [if_neg c8] at H
   have c8b0 := decide_eq_false c8
   clear c8
   obtain rfl := Option.some.inj H
   go_enter Tryz.func87, Tryz.ntmps87
   go_wp2_with (first | ((with_reducible refine gate_callee (f := 50) rfl ?_); refine goesL_ (some 13) rfl rfl Tryz.func50 Qi0_ rfl #[.int .i64 a0] rfl Qb0_ ?_; (with_reducible refine (spec_l08Degree.calls k a0 t257 _ A4.out).mono ?_); rintro e w' ⟨rfl, ⟨nd, rfl⟩⟩; refine ⟨_, rfl, ?_⟩))
   go_ret
   exact ⟨by first | rfl | (simp; done) | (simp only [← hji5, ← hji7] <;> (first | rfl | simp)) | (simp [*]; done), Qd0_⟩
 ·rw [if_neg c6] at H
  exact absurd H (by simp)
def spec_l08Rest.l0 : Nat → Int → ByteArray → Int → Int → Option (Int)
 | 0, _, _, _, _ => none
 | k + 1, x0, x1, x5, x6 => if x6 < (x1.size : Int) then (if 0 ≤ x6 then ((spec_l08Next.f k x0 x5 (((bt x1 x6) - 48) % 256)).bind fun t258 => (spec_l08Rest.l0 k x0 x1 t258 (wrap64 (x6 + 1)))) else (none)) else (some x5)
def spec_l08Rest.f (k : Nat) (a0 : Int) (a1 : ByteArray) : Option (Int) := spec_l08Rest.l0 k a0 a1 0 0
set_option maxHeartbeats 8000000 in
set_option maxRecDepth 100000 in
theorem spec_l08Rest.calls (k : Nat) (a0 : Int) (a1 : ByteArray) (r : Int) (w : World) (h : spec_l08Rest.f k a0 a1 = some r) :
 Calls Tryz.prog 86 #[.int .i64 a0, .string a1] w fun e w' => e = .returned (.int .i64 r) ∧ Drawn0 w w' := by
 have H : (spec_l08Rest.l0 k a0 a1 0 0) = some r := h
 clear h
 have H' := Aside0.mk H
 clear H
 go_enter Tryz.func86, Tryz.ntmps86
 go_wp2
 go_loopg [5, 6] k (fun kq v5 v6 w' => ∃ (x5_1 : Int) (x6_1 : Int), v5 = .int .i64 x5_1 ∧ v6 = .int .i64 x6_1 ∧ Aside0 (spec_l08Rest.l0 kq a0 a1 x5_1 x6_1 = some r) ∧ Aside0 (kq ≤ k) ∧ Drawn0 w w')
 case atStart => exact ⟨(0), (0), Qc0_, Qc0_, H', ⟨Nat.le_refl _⟩, Qd0_⟩
 case round =>
  clear H'
  try clear p2
  obtain ⟨x5_1, x6_1, rfl, rfl, HA, HK1, ⟨m1, rfl⟩⟩ := hrel
  cases gk with
  | zero => exact absurd HA.out (by simp [spec_l08Rest.l0])
  | succ k1 =>
   have H := HA.out
   clear HA
   simp only [spec_l08Rest.l0] at H
   by_cases c3 : x6_1 < (a1.size : Int)
   ·rw [if_pos c3] at H
    have c3b0 := decide_eq_true c3
    clear c3
    by_cases c4 : 0 ≤ x6_1
    ·rw [if_pos c4] at H
     have c4b0 := decide_eq_true c4
     clear c4
     replace H := Option.bind_eq_some_iff.mp H
     obtain ⟨t258, A60, H⟩ := H
     try dsimp only at H
     have A6 := Aside0.mk A60
     clear A60
     have H' := Aside0.mk H
     clear H
     have p5 : 0 ≤ (x6_1 : Int) := of_decide_eq_true Qf0_
     have q5 : x6_1 < (a1.size : Int) := of_decide_eq_true Qf0_
     have hx5 := bt_at a1 x6_1
     replace p5 := eq_true p5
     replace q5 := eq_true q5
     go_wp2_with (first | ((with_reducible refine gate_callee (f := 87) rfl ?_); refine goesL_ (some 20) rfl rfl Tryz.func87 Qi0_ rfl #[.int .i64 a0, .int .i64 x5_1, .int .i64 (((bt a1 x6_1) - 48) % 256)] rfl Qb0_ ?_; (with_reducible refine (spec_l08Next.calls k1 a0 x5_1 (((bt a1 x6_1) - 48) % 256) t258 _ A6.out).mono ?_); rintro e w' ⟨rfl, ⟨nd, rfl⟩⟩; refine ⟨_, rfl, ?_⟩))
     go_roundg k1
     case measure => have := HK1.out; omega
     case rel => exact ⟨(t258), (wrap64 (x6_1 + 1)), Qc0_, Qc0_, H', ⟨Qp0_⟩, Qd0_⟩
    ·rw [if_neg c4] at H
     exact absurd H (by simp)
   ·rw [if_neg c3] at H
    have c3b0 := decide_eq_false c3
    clear c3
    obtain rfl := Option.some.inj H
    go_wp2
    go_ret
    exact ⟨Qc0_, Qd0_⟩
mutual
def spec_l08Sum.l0 : Nat → Int → Int → Int → Int → Option (ByteArray)
 | 0, _, _, _, _ => none
 | k + 1, x0, x5, x6, x7 => if x7 < x5 then ((spec_l08Next.f k x0 x6 0).bind fun t261 => (spec_l08Sum.l0 k x0 x5 t261 (wrap64 (x7 + 1)))) else (spec_l08Sum.l1 k x6 (([] : List Int)) (wrap64 (x5 - 1)))
def spec_l08Sum.l1 : Nat → Int → List Int → Int → Option (ByteArray)
 | 0, _, _, _ => none
 | k + 1, x6, x8, x9 => if x9 ≥ 0 then (if 0 ≤ (IntKind.u64.wrap (x9)) then (if x8.length < 140737488355328 then (spec_l08Sum.l1 k x6 (x8 ++ [(wrap64 (48 + (Go.bits .and .i64 (shr .i64 x6 (IntKind.u64.wrap (x9))) 1))) % 256]) (wrap64 (x9 - 1))) else (none)) else (none)) else (some (strOfNums x8))
end
def spec_l08Sum.f (k : Nat) (a0 : Int) (a1 : ByteArray) : Option (ByteArray) := (spec_l08Degree.f k a0).bind fun t259 => ((spec_l08Rest.f k a0 a1).bind fun t260 => (spec_l08Sum.l0 k a0 t259 t260 0))
set_option maxHeartbeats 8000000 in
set_option maxRecDepth 100000 in
theorem spec_l08Sum.calls (k : Nat) (a0 : Int) (a1 : ByteArray) (r : ByteArray) (w : World) (h : spec_l08Sum.f k a0 a1 = some r) :
 Calls Tryz.prog 51 #[.int .i64 a0, .string a1] w fun e w' => e = .returned (.string r) ∧ Below w.heap.size w w' := by
 have HB := Aside0.mk (Below.refl w.heap.size w)
 have H : ((spec_l08Degree.f k a0).bind fun t259 => ((spec_l08Rest.f k a0 a1).bind fun t260 => (spec_l08Sum.l0 k a0 t259 t260 0))) = some r := h
 clear h
 replace H := Option.bind_eq_some_iff.mp H
 obtain ⟨t259, A30, H⟩ := H
 try dsimp only at H
 have A3 := Aside0.mk A30
 clear A30
 replace H := Option.bind_eq_some_iff.mp H
 obtain ⟨t260, A40, H⟩ := H
 try dsimp only at H
 have A4 := Aside0.mk A40
 clear A40
 have H' := Aside0.mk H
 clear H
 go_enter Tryz.func51, Tryz.ntmps51
 go_wp2_with (first | ((with_reducible refine gate_callee (f := 50) rfl ?_); refine goesL_ (some 11) rfl rfl Tryz.func50 Qi0_ rfl #[.int .i64 a0] rfl Qb0_ ?_; (with_reducible refine (spec_l08Degree.calls k a0 t259 _ A3.out).mono ?_); rintro e w' ⟨rfl, ⟨nd, rfl⟩⟩; refine ⟨_, rfl, ?_⟩) | ((with_reducible refine gate_callee (f := 86) rfl ?_); refine goesL_ (some 14) rfl rfl Tryz.func86 Qi0_ rfl #[.int .i64 a0, .string a1] rfl Qb0_ ?_; (with_reducible refine (spec_l08Rest.calls k a0 a1 t260 _ A4.out).mono ?_); rintro e w' ⟨rfl, ⟨nd, rfl⟩⟩; refine ⟨_, rfl, ?_⟩))
 go_loopg [6, 7] k (fun kq v6 v7 w' => ∃ (x6_1 : Int) (x7_1 : Int), v6 = .int .i64 x6_1 ∧ v7 = .int .i64 x7_1 ∧ Aside0 (spec_l08Sum.l0 kq a0 t259 x6_1 x7_1 = some r) ∧ Aside0 (kq ≤ k) ∧ Aside0 (Below w.heap.size w w'))
 case atStart => exact ⟨(t260), (0), Qc0_, Qc0_, H', ⟨Nat.le_refl _⟩, ⟨Qa0_⟩⟩
 case round =>
  clear H'
  try clear p2
  obtain ⟨x6_1, x7_1, rfl, rfl, HA, HK1, HB⟩ := hrel
  cases gk with
  | zero => exact absurd HA.out (by simp [spec_l08Sum.l0])
  | succ k1 =>
   have H := HA.out
   clear HA
   simp only [spec_l08Sum.l0] at H
   by_cases c5 : x7_1 < t259
   ·rw [if_pos c5] at H
    have c5b0 := decide_eq_true c5
    clear c5
    replace H := Option.bind_eq_some_iff.mp H
    obtain ⟨t261, A60, H⟩ := H
    try dsimp only at H
    have A6 := Aside0.mk A60
    clear A60
    have H' := Aside0.mk H
    clear H
    go_wp2_with (first | ((with_reducible refine gate_callee (f := 87) rfl ?_); refine goesL_ (some 22) rfl rfl Tryz.func87 Qi0_ rfl #[.int .i64 a0, .int .i64 x6_1, .int .i64 0] rfl Qb0_ ?_; (with_reducible refine (spec_l08Next.calls k1 a0 x6_1 0 t261 _ A6.out).mono ?_); rintro e w' ⟨rfl, ⟨nd, rfl⟩⟩; refine ⟨_, rfl, ?_⟩))
    go_roundg k1
    case measure => have := HK1.out; omega
    case rel => exact ⟨(t261), (wrap64 (x7_1 + 1)), Qc0_, Qc0_, H', ⟨Qp0_⟩, ⟨Qa0_⟩⟩
   ·rw [if_neg c5] at H
    have c5b0 := decide_eq_false c5
    clear c5
    obtain ⟨y262, hy262⟩ : ∃ y_ : List Int, y_ = (([] : List Int)) := ⟨_, rfl⟩
    replace H : (spec_l08Sum.l1 k1 x6_1 y262 (wrap64 (t259 - 1))) = some r := by first | (rw [hy262]; with_reducible exact H) | (have H2_ := (Option.bind_some _ _).symm.trans H; rw [hy262]; with_reducible exact H2_) | (have H2_ := (Option.bind_some _ _).symm.trans H; with_reducible exact H2_) | with_reducible exact H | (rw [hy262]; exact H) | exact H
    have Ny262 := Aside0.mk hy262
    clear hy262
    have H' := Aside0.mk H
    clear H
    go_wp2_with (first | ((with_reducible refine gate_dst (N := 23) rfl ?_); refine Kd.R_lit (Kd.int .u8) _ 5 ?hg (N := 23) ?hd (xs := ([] : List Int)) (inner := []) (ok := fun _ => True) (okp := fun _ => True) ?hr ?hp (fun _ hk => hk) trivial (Below.refl _ _) (Nat.le_refl _) (by simp) ?_; (case hd => rfl); (case hg => rfl); (case hr => exact Qh0_); (case hp => exact (Reps.none _ _)); intro v263 w7 ho8 hb hg_ hnew_; clear hg_ hnew_; (first | rw [← Ny262.out] at ho8 | (simp only [Int.reduceToNat] at ho8; rw [← Ny262.out] at ho8)); have n0_ := Aside0.mk (Kd.R_lower ho8 (below_size Qa0_)); have n1_ := Aside0.mk (below_step Qa0_ hb); clear HB; have HO264 := n0_; have HB := n1_; clear n0_ n1_; clear hb ho8))
    go_loopg [8, 9] k1 (fun kq v8 v9 w' => ∃ (x8_2 : List Int) (x9_2 : Int), v9 = .int .i64 x9_2 ∧ Aside0 (spec_l08Sum.l1 kq x6_1 x8_2 x9_2 = some r) ∧ Aside0 (kq ≤ k1) ∧ Aside0 (Kd.R (Kd.int .u8) 5 w' w.heap.size (fun _ => True) v8 x8_2) ∧ Aside0 (Below w.heap.size w w'))
    case atStart => exact ⟨(y262), (wrap64 (t259 - 1)), Qc0_, H', ⟨Nat.le_refl _⟩, ⟨Qr_ HO264.out⟩, ⟨Qa0_⟩⟩
    case round =>
     clear H'
     try clear p2
     try clear c5
     try clear c5b0
     try clear p6
     try clear c8
     try clear p2
     obtain ⟨x8_2, x9_2, rfl, HA, HK2, HO_8, HB⟩ := hrel
     cases gk with
     | zero => exact absurd HA.out (by simp [spec_l08Sum.l1])
     | succ k2 =>
      have H := HA.out
      clear HA
      simp only [spec_l08Sum.l1] at H
      by_cases c9 : x9_2 ≥ 0
      ·rw [if_pos c9] at H
       have c9b0 := decide_eq_true c9
       clear c9
       obtain ⟨ji10, hji10⟩ : ∃ j_ : Int, (IntKind.u64.wrap (x9_2)) = j_ := ⟨_, rfl⟩
       replace H : (if 0 ≤ (ji10) then (if x8_2.length < 140737488355328 then (spec_l08Sum.l1 k2 x6_1 (x8_2 ++ [(wrap64 (48 + (Go.bits .and .i64 (shr .i64 x6_1 (ji10)) 1))) % 256]) (wrap64 (x9_2 - 1))) else (none)) else (none)) = some r := by first | (rw [hji10] at H; exact H) | (simp only [hji10] at H ⊢; exact H)
       by_cases c11 : 0 ≤ (ji10)
       ·rw [if_pos c11] at H
        have c11b0 := eq_true c11
        have c11b1 := decide_eq_true c11
        clear c11
        obtain ⟨ji12, hji12⟩ : ∃ j_ : Int, (shr .i64 x6_1 (ji10)) = j_ := ⟨_, rfl⟩
        replace H : (if x8_2.length < 140737488355328 then (spec_l08Sum.l1 k2 x6_1 (x8_2 ++ [(wrap64 (48 + (Go.bits .and .i64 (ji12) 1))) % 256]) (wrap64 (x9_2 - 1))) else (none)) = some r := by first | (rw [hji12] at H; exact H) | (simp only [hji12] at H ⊢; exact H)
        have hji12_ : (x6_1 / 2 ^ min (ji10).toNat 64) = ji12 := hji12
        have hji12z : (ji10) ≤ 64 → (x6_1 / 2 ^ (ji10).toNat) = ji12 := shr_small hji12
        by_cases c13 : x8_2.length < 140737488355328
        ·rw [if_pos c13] at H
         have LMc13 := Aside0.mk c13
         clear c13
         obtain ⟨y265, hy265⟩ : ∃ y_ : List Int, y_ = (x8_2 ++ [(wrap64 (48 + (Go.bits .and .i64 (ji12) 1))) % 256]) := ⟨_, rfl⟩
         replace H : (spec_l08Sum.l1 k2 x6_1 y265 (wrap64 (x9_2 - 1))) = some r := by first | (rw [hy265]; with_reducible exact H) | (have H2_ := (Option.bind_some _ _).symm.trans H; rw [hy265]; with_reducible exact H2_) | (have H2_ := (Option.bind_some _ _).symm.trans H; with_reducible exact H2_) | with_reducible exact H | (rw [hy265]; exact H) | exact H
         have Ny265 := Aside0.mk hy265
         clear hy265
         have H' := Aside0.mk H
         clear H
         go_wp2_with (first | ((with_reducible refine gate_builtin (b := .append) (xs := #[.tmp 30, .tmp 38]) rfl ?_); at_builtin; refine Kd.R_append (Kd.int .u8) (w0 := w) w.heap.size rfl (.tmp 30) (.tmp 38) 59 5 (.int .u8 0) 1 rfl Tryz.underlying59 info5 rfl (by decide) (by omega) u8 x8_2 ((wrap64 (48 + (Go.bits .and .i64 (ji12) 1))) % 256) [.int .u8 ((wrap64 (48 + (Go.bits .and .i64 (ji12) 1))) % 256)] (fun _ => True) (fun _ => False) rfl rfl ?aP (fun _ hk => hk.elim) ?aF ?aO ?aB ?aS ?aL ?_; (case aP => exact rfl); (case aB => exact Qa0_); (case aF => exact (fun _ _ => trivial)); (case aO => exact (Qr_ HO_8.out)); (case aS => exact (below_size Qa0_)); (case aL => have := LMc13.out; omega); intro v266 w14 ho hb hg hat; rw [← Ny265.out] at ho; have n0_ := Aside0.mk (hb); have n1_ := Aside0.mk (ho); clear HB; clear HO_8; have HB := n0_; have HO267 := n1_; clear n0_ n1_; clear ho hb hg hat))
         go_roundg k2
         case measure => have := HK1.out; have := HK2.out; omega
         case rel => exact ⟨(y265), (wrap64 (x9_2 - 1)), Qc0_, H', ⟨by have := HK1.out; have := HK2.out; omega⟩, ⟨Qr_ HO267.out⟩, ⟨Qa0_⟩⟩
        ·rw [if_neg c13] at H
         exact absurd H (by simp)
       ·rw [if_neg c11] at H
        exact absurd H (by simp)
      ·rw [if_neg c9] at H
       have c9b0 := decide_eq_false c9
       clear c9
       obtain rfl := Option.some.inj H
       have hcv15 := own_string (P := Tryz.prog) Tryz.underlying59 Tryz.underlying5 Tryz.underlying9 (Kd.own_of_R HO_8.out)
       go_wp2
       go_ret
       exact ⟨Qe0_, Qa0_⟩
def spec_AddCheck.f (k : Nat) (a0 : Int) (a1 : ByteArray) : Option (ByteArray × Bool) := (spec_l08Check.f a0).bind fun t268 => (if t268 = true then ((spec_l01Bits.f k a1).bind fun t269 => (if t269 = true then ((spec_l08Degree.f k a0).bind fun t270 => (if (wrap64 ((a1.size : Int) + t270)) > 400 then (some ((⟨#[]⟩ : ByteArray), false)) else ((spec_l08Sum.f k a0 a1).bind fun t271 => (if a1.size + t271.size ≤ 9223372036854775807 then (some (a1 ++ t271, true)) else (none))))) else (some ((⟨#[]⟩ : ByteArray), false)))) else (some ((⟨#[]⟩ : ByteArray), false)))
set_option maxHeartbeats 8000000 in
set_option maxRecDepth 100000 in
theorem spec_AddCheck.calls (k : Nat) (a0 : Int) (a1 : ByteArray) (r1 : ByteArray) (r2 : Bool) (w : World) (h : spec_AddCheck.f k a0 a1 = some (r1, r2)) :
 Calls Tryz.prog 16 #[.int .i64 a0, .string a1] w fun e w' => e = .returned (.tuple #[.string r1, .bool r2]) ∧ Below w.heap.size w w' := by
 have HB := Aside0.mk (Below.refl w.heap.size w)
 have H : ((spec_l08Check.f a0).bind fun t268 => (if t268 = true then ((spec_l01Bits.f k a1).bind fun t269 => (if t269 = true then ((spec_l08Degree.f k a0).bind fun t270 => (if (wrap64 ((a1.size : Int) + t270)) > 400 then (some ((⟨#[]⟩ : ByteArray), false)) else ((spec_l08Sum.f k a0 a1).bind fun t271 => (if a1.size + t271.size ≤ 9223372036854775807 then (some (a1 ++ t271, true)) else (none))))) else (some ((⟨#[]⟩ : ByteArray), false)))) else (some ((⟨#[]⟩ : ByteArray), false)))) = some (r1, r2) := h
 clear h
 replace H := Option.bind_eq_some_iff.mp H
 obtain ⟨t268, A30, H⟩ := H
 try dsimp only at H
 have A3 := Aside0.mk A30
 clear A30
 by_cases c4 : t268 = true
 ·subst c4
  rw [if_pos rfl] at H
  have H1 := H
  clear H
  have H := H1
  clear H1
  replace H := Option.bind_eq_some_iff.mp H
  obtain ⟨t269, A50, H⟩ := H
  try dsimp only at H
  have A5 := Aside0.mk A50
  clear A50
  by_cases c6 : t269 = true
  ·subst c6
   rw [if_pos rfl] at H
   have H1 := H
   clear H
   have H := H1
   clear H1
   replace H := Option.bind_eq_some_iff.mp H
   obtain ⟨t270, A70, H⟩ := H
   try dsimp only at H
   have A7 := Aside0.mk A70
   clear A70
   by_cases c8 : (wrap64 ((a1.size : Int) + t270)) > 400
   ·rw [if_pos c8] at H
    have c8b0 := decide_eq_true c8
    clear c8
    simp only [Option.some.injEq, Prod.mk.injEq] at H
    obtain ⟨rfl, rfl⟩ := H
    go_enter Tryz.func16, Tryz.ntmps16
    go_wp2_with (first | ((with_reducible refine gate_callee (f := 49) rfl ?_); refine goesL_ (some 7) rfl rfl Tryz.func49 Qi0_ rfl #[.int .i64 a0] rfl Qb0_ ?_; (with_reducible refine (spec_l08Check.calls a0 true _ A3.out).mono ?_); rintro e w' ⟨rfl, ⟨nd, rfl⟩⟩; refine ⟨_, rfl, ?_⟩) | (go_at_call 47; (with_reducible refine (spec_l01Bits.calls k a1 true _ A5.out).mono ?_); rintro e w' ⟨rfl, ⟨nd, rfl⟩⟩) | (go_at_call 50; (with_reducible refine (spec_l08Degree.calls k a0 t270 _ A7.out).mono ?_); rintro e w' ⟨rfl, ⟨nd, rfl⟩⟩))
    go_ret2
    exact ⟨Qe0_, Qa0_⟩
   ·rw [if_neg c8] at H
    have c8b0 := decide_eq_false c8
    clear c8
    replace H := Option.bind_eq_some_iff.mp H
    obtain ⟨t271, A90, H⟩ := H
    try dsimp only at H
    have A9 := Aside0.mk A90
    clear A90
    by_cases c10 : a1.size + t271.size ≤ 9223372036854775807
    ·rw [if_pos c10] at H
     have c10b0 := eq_true c10
     have c10b1 := decide_eq_true c10
     try have c10b2 := eq_false (Nat.not_lt.2 c10)
     simp only [Option.some.injEq, Prod.mk.injEq] at H
     obtain ⟨rfl, rfl⟩ := H
     go_enter Tryz.func16, Tryz.ntmps16
     go_wp2_with (first | ((with_reducible refine gate_callee (f := 49) rfl ?_); refine goesL_ (some 7) rfl rfl Tryz.func49 Qi0_ rfl #[.int .i64 a0] rfl Qb0_ ?_; (with_reducible refine (spec_l08Check.calls a0 true _ A3.out).mono ?_); rintro e w' ⟨rfl, ⟨nd, rfl⟩⟩; refine ⟨_, rfl, ?_⟩) | (go_at_call 47; (with_reducible refine (spec_l01Bits.calls k a1 true _ A5.out).mono ?_); rintro e w' ⟨rfl, ⟨nd, rfl⟩⟩) | (go_at_call 50; (with_reducible refine (spec_l08Degree.calls k a0 t270 _ A7.out).mono ?_); rintro e w' ⟨rfl, ⟨nd, rfl⟩⟩) | ((with_reducible refine gate_callee (f := 51) rfl ?_); refine goesL_ (some 25) rfl rfl Tryz.func51 Qi0_ rfl #[.int .i64 a0, .string a1] rfl Qb0_ ?_; (with_reducible refine (spec_l08Sum.calls k a0 a1 t271 _ A9.out).mono ?_); rintro e w11 ⟨rfl, hb⟩; refine ⟨_, rfl, ?_⟩; have n0_ := Aside0.mk (below_step Qa0_ hb); clear HB; have HB := n0_; clear n0_; (try clear hb); (try clear hb2); (try clear hk); (try clear hi)))
     go_ret2
     exact ⟨Qe0_, Qa0_⟩
    ·rw [if_neg c10] at H
     exact absurd H (by simp)
  ·replace c6 := Bool.eq_false_iff.mpr c6
   subst c6
   rw [if_neg (show ¬ (false = true) by decide)] at H
   have H1 := H
   clear H
   have H := H1
   clear H1
   simp only [Option.some.injEq, Prod.mk.injEq] at H
   obtain ⟨rfl, rfl⟩ := H
   go_enter Tryz.func16, Tryz.ntmps16
   go_wp2_with (first | ((with_reducible refine gate_callee (f := 49) rfl ?_); refine goesL_ (some 7) rfl rfl Tryz.func49 Qi0_ rfl #[.int .i64 a0] rfl Qb0_ ?_; (with_reducible refine (spec_l08Check.calls a0 true _ A3.out).mono ?_); rintro e w' ⟨rfl, ⟨nd, rfl⟩⟩; refine ⟨_, rfl, ?_⟩) | (go_at_call 47; (with_reducible refine (spec_l01Bits.calls k a1 false _ A5.out).mono ?_); rintro e w' ⟨rfl, ⟨nd, rfl⟩⟩))
   go_ret2
   exact ⟨Qe0_, Qa0_⟩
 ·replace c4 := Bool.eq_false_iff.mpr c4
  subst c4
  rw [if_neg (show ¬ (false = true) by decide)] at H
  have H1 := H
  clear H
  have H := H1
  clear H1
  simp only [Option.some.injEq, Prod.mk.injEq] at H
  obtain ⟨rfl, rfl⟩ := H
  go_enter Tryz.func16, Tryz.ntmps16
  go_wp2_with (first | ((with_reducible refine gate_callee (f := 49) rfl ?_); refine goesL_ (some 7) rfl rfl Tryz.func49 Qi0_ rfl #[.int .i64 a0] rfl Qb0_ ?_; (with_reducible refine (spec_l08Check.calls a0 false _ A3.out).mono ?_); rintro e w' ⟨rfl, ⟨nd, rfl⟩⟩; refine ⟨_, rfl, ?_⟩))
  go_ret2
  exact ⟨Qe0_, Qa0_⟩
end Go.Proofs.YtbjmbfjbjkhhdaaGreatDoor.QFnTopOfAll
