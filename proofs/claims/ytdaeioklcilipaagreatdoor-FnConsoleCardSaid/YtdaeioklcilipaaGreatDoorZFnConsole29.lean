/- Made small by wip/pack.py: lemmas and contracts that the law's row leans on. -/
import Derived.Test.YtdaeioklcilipaaGreatDoorZFnConsole27
import Derived.Test.YtdaeioklcilipaaGreatDoorZFnConsole28
namespace Go.Proofs.YtdaeioklcilipaaGreatDoor.QFnConsole
open Go.RowKit Go.Proofs.YtdaeioklcilipaaGreatDoorW.PrintWords Go.Proofs.YtdaeioklcilipaaGreatDoorW.PrintLast Go.Proofs.YtdaeioklcilipaaGreatDoorW.PrintMore
attribute [local go_sem] max2_int min2_int max_two min_two max_three min_three max_four min_four
set_option linter.unusedVariables false
set_option linter.unusedSimpArgs false
def spec_IsName.l0 : Nat → ByteArray → Int → Option (Bool)
 | 0, _, _ => none
 | k + 1, x0, x3 => if x3 < (x0.size : Int) then (if 0 ≤ x3 then (if (bt x0 x3) < 97 then (some false) else (if (bt x0 x3) > 122 then (some false) else (spec_IsName.l0 k x0 (wrap64 (x3 + 1))))) else (none)) else (if (x0.size : Int) ≥ 1 then (some (decide ((x0.size : Int) ≤ 10))) else (some false))
def spec_IsName.f (k : Nat) (a0 : ByteArray) : Option (Bool) := spec_IsName.l0 k a0 0
set_option maxHeartbeats 8000000 in
set_option maxRecDepth 100000 in
theorem spec_IsName.calls (k : Nat) (a0 : ByteArray) (r : Bool) (w : World) (h : spec_IsName.f k a0 = some r) :
 Calls Tryz.prog 39 #[.string a0] w fun e w' => e = .returned (.bool r) ∧ Drawn0 w w' := by
 have H : (spec_IsName.l0 k a0 0) = some r := h
 clear h
 have H' := Aside0.mk H
 clear H
 go_enter Tryz.func39, Tryz.ntmps39
 go_wp2
 go_loopg [3] k (fun kq v3 w' => ∃ (x3_1 : Int), v3 = .int .i64 x3_1 ∧ Aside0 (spec_IsName.l0 kq a0 x3_1 = some r) ∧ Aside0 (kq ≤ k) ∧ Drawn0 w w')
 case atStart => exact ⟨(0), Qf0_, H', ⟨Nat.le_refl _⟩, Qk0_⟩
 case round =>
  clear H'
  obtain ⟨x3_1, rfl, HA, HK1, ⟨m1, rfl⟩⟩ := hrel
  cases gk with
  | zero => exact absurd HA.out (by simp [spec_IsName.l0])
  | succ k1 =>
   have H := HA.out
   clear HA
   simp only [spec_IsName.l0] at H
   by_cases c2 : x3_1 < (a0.size : Int)
   ·rw [if_pos c2] at H
    have c2b0 := decide_eq_true c2
    clear c2
    by_cases c3 : 0 ≤ x3_1
    ·rw [if_pos c3] at H
     have c3b0 := decide_eq_true c3
     clear c3
     by_cases c5 : (bt a0 x3_1) < 97
     ·rw [if_pos c5] at H
      have c5b0 := decide_eq_true c5
      clear c5
      obtain rfl := Option.some.inj H
      have p4 : 0 ≤ (x3_1 : Int) := of_decide_eq_true Qg0_
      have q4 : x3_1 < (a0.size : Int) := of_decide_eq_true Qg0_
      have hx4 := bt_at a0 x3_1
      replace p4 := eq_true p4
      replace q4 := eq_true q4
      go_wp2
      go_ret
      exact ⟨Qf0_, Qk0_⟩
     ·rw [if_neg c5] at H
      have c5b0 := decide_eq_false c5
      clear c5
      by_cases c7 : (bt a0 x3_1) > 122
      ·rw [if_pos c7] at H
       have c7b0 := decide_eq_true c7
       clear c7
       obtain rfl := Option.some.inj H
       have p4 : 0 ≤ (x3_1 : Int) := of_decide_eq_true Qg0_
       have q4 : x3_1 < (a0.size : Int) := of_decide_eq_true Qg0_
       have hx4 := bt_at a0 x3_1
       replace p4 := eq_true p4
       replace q4 := eq_true q4
       have p6 : 0 ≤ (x3_1 : Int) := of_decide_eq_true Qg0_
       have q6 : x3_1 < (a0.size : Int) := of_decide_eq_true Qg0_
       have hx6 := bt_at a0 x3_1
       replace p6 := eq_true p6
       replace q6 := eq_true q6
       go_wp2
       go_ret
       exact ⟨Qf0_, Qk0_⟩
      ·rw [if_neg c7] at H
       have c7b0 := decide_eq_false c7
       clear c7
       have H' := Aside0.mk H
       clear H
       have p4 : 0 ≤ (x3_1 : Int) := of_decide_eq_true Qg0_
       have q4 : x3_1 < (a0.size : Int) := of_decide_eq_true Qg0_
       have hx4 := bt_at a0 x3_1
       replace p4 := eq_true p4
       replace q4 := eq_true q4
       have p6 : 0 ≤ (x3_1 : Int) := of_decide_eq_true Qg0_
       have q6 : x3_1 < (a0.size : Int) := of_decide_eq_true Qg0_
       have hx6 := bt_at a0 x3_1
       replace p6 := eq_true p6
       replace q6 := eq_true q6
       go_wp2
       go_roundg k1
       case measure => have := HK1.out; omega
       case rel => exact ⟨(wrap64 (x3_1 + 1)), Qf0_, H', ⟨Qs0_⟩, Qk0_⟩
    ·rw [if_neg c3] at H
     exact absurd H (by simp)
   ·rw [if_neg c2] at H
    have c2b0 := decide_eq_false c2
    clear c2
    by_cases c8 : (a0.size : Int) ≥ 1
    ·rw [if_pos c8] at H
     have c8b0 := decide_eq_true c8
     have c8b1 : decide (1 ≤ a0.size) = true := decide_eq_true (by omega)
     clear c8
     obtain rfl := Option.some.inj H
     go_wp2
     go_ret
     exact ⟨Qf0_, Qk0_⟩
    ·rw [if_neg c8] at H
     have c8b0 := decide_eq_false c8
     have c8b1 : decide (1 ≤ a0.size) = false := decide_eq_false (by omega)
     clear c8
     obtain rfl := Option.some.inj H
     go_wp2
     go_ret
     exact ⟨Qf0_, Qk0_⟩
def spec_l11Set.l0 : Nat → List ByteArray → ByteArray → Int → Option (Int)
 | 0, _, _, _ => none
 | k + 1, ns, name, i => if i < (ns.length : Int) then (if 0 ≤ i then (if ((Op.bytesLess ((rdOf ByteArray.empty ns i).toList) (name.toList)) = true) then (spec_l11Set.l0 k ns name (wrap64 (i + 1))) else (some i)) else (none)) else (some i)
def spec_l11Set.f (k : Nat) (ns ls : List ByteArray) (name bits : ByteArray) (fine : Bool) : Option (ByteArray × List ByteArray × List ByteArray) :=
 if fine = true then ((spec_l01Bits.f k bits).bind fun t1 => (if t1 = true then ((spec_l11Find.f k ns name).bind fun i => (if i ≥ 0 then (if i < (ls.length : Int) then (some ((⟨#[111, 107]⟩ : ByteArray), ns, ls.set i.toNat bits)) else (none)) else ((spec_IsName.f k name).bind fun t2 => (if t2 = true then (if (ns.length : Int) ≥ 6 then (some ((⟨#[110, 111]⟩ : ByteArray), ns, ls)) else ((spec_l11Set.l0 k ns name 0).bind fun at_ => (if 0 ≤ at_ ∧ at_ ≤ (ns.length : Int) ∧ at_ ≤ (ls.length : Int) ∧ ls.length ≤ 1000 then (some ((⟨#[111, 107]⟩ : ByteArray), (ns.take at_.toNat ++ [name]) ++ ns.drop at_.toNat, (ls.take at_.toNat ++ [bits]) ++ ls.drop at_.toNat)) else (none)))) else (some ((⟨#[110, 111]⟩ : ByteArray), ns, ls)))))) else (some ((⟨#[110, 111]⟩ : ByteArray), ns, ls)))) else (some ((⟨#[110, 111]⟩ : ByteArray), ns, ls))
set_option maxHeartbeats 8000000 in
set_option maxRecDepth 100000 in
theorem spec_l11Set.calls (k : Nat) (b : Nat) (v0 v1 : Value) (ns ls : List ByteArray) (name bits : ByteArray) (fine : Bool) (r : ByteArray) (ns' ls' : List ByteArray) (w0 w : World) (hC : conAt w w0.heap.size b v0 v1 ns ls) (hW : Below w0.heap.size w0 w) (h : spec_l11Set.f k ns ls name bits fine = some (r, ns', ls')) :
 Calls Tryz.prog 22 #[.pointer (some ⟨b, 0, none⟩), .string name, .string bits, .bool fine] w fun e w' => e = .returned (.string r) ∧ ∃ v0' v1', conAt w' w0.heap.size b v0' v1' ns' ls' ∧ conKept w w' b v0 v1 ∧ conNew w v0 v0' ∧ conNew w v1 v1' ∧ Below w0.heap.size w0 w' := by
 have hu41 := Tryz.underlying26
 have HC := Aside0.mk hC
 have HW := Aside0.mk hW
 have HB := Aside0.mk (Below.refl w.heap.size w)
 obtain ⟨hb1, hb2, hR0, hR1, hne⟩ := hC
 obtain ⟨A0, c0, rfl, hl0, hC0⟩ := Kd.R_reads hR0
 obtain ⟨A1, c1, rfl, hl1, hC1⟩ := Kd.R_reads hR1
 have HR0 := Aside0.mk hR0
 have HR1 := Aside0.mk hR1
 have HC0 := Aside0.mk hC0
 have HC1 := Aside0.mk hC1
 have HL0 := Aside0.mk hl0
 have HL1 := Aside0.mk hl1
 have HN := Aside0.mk hne
 have BK := Aside0.mk hb2
 have GEB := Aside0.mk hb1
 have hcz0 : w.cell? ⟨b, 0, none⟩ = some (.slice A0 ns.length c0) := (blk_cell hb2 0).trans rfl
 have hcz1 : w.cell? ⟨b, 1, none⟩ = some (.slice A1 ls.length c1) := (blk_cell hb2 1).trans rfl
 have hfz0 := blk_frozen hb2 0
 have hfz1 := blk_frozen hb2 1
 clear hW hb1 hb2 hR0 hR1 hne hC0 hC1 hl0 hl1
 unfold spec_l11Set.f at h
 cases fine with
 | false =>
  rw [if_neg (by decide)] at h
  obtain ⟨rfl, h2⟩ := Prod.mk.inj (Option.some.inj h)
  obtain ⟨rfl, rfl⟩ := Prod.mk.inj h2
  clear h
  go_enter Tryz.func22, Tryz.ntmps22
  go_wp2
  go_ret
  exact ⟨rfl, _, _, con_below HC.out Qa0_, fun k hk _ _ _ => (Qa0_ : Below w.heap.size w _).block k hk, conNew_refl _ _, conNew_refl _ _, below_step HW.out Qa0_⟩
 | true =>
  rw [if_pos rfl] at h
  obtain ⟨t1, A10, h⟩ := Option.bind_eq_some_iff.mp h
  have A1_ := Aside0.mk A10
  clear A10
  cases t1 with
  | false =>
   replace h : some ((⟨#[110, 111]⟩ : ByteArray), ns, ls) = some (r, ns', ls') := h
   obtain ⟨rfl, h2⟩ := Prod.mk.inj (Option.some.inj h)
   obtain ⟨rfl, rfl⟩ := Prod.mk.inj h2
   clear h
   go_enter Tryz.func22, Tryz.ntmps22
   go_wp2_with (first | (go_at_call 37; (with_reducible refine (spec_l01Bits.calls k bits false _ A1_.out).mono ?_); rintro e w' ⟨rfl, ⟨nd, rfl⟩⟩))
   go_ret
   exact ⟨rfl, _, _, con_below HC.out Qa0_, fun k hk _ _ _ => (Qa0_ : Below w.heap.size w _).block k hk, conNew_refl _ _, conNew_refl _ _, below_step HW.out Qa0_⟩
  | true =>
   rw [if_pos rfl] at h
   obtain ⟨i, A20, h⟩ := Option.bind_eq_some_iff.mp h
   have A2_ := Aside0.mk A20
   clear A20
   by_cases c3 : i ≥ 0
   ·rw [if_pos c3] at h
    by_cases c4 : i < (ls.length : Int)
    rotate_left
    ·rw [if_neg c4] at h
     exact absurd h (by simp)
    rw [if_pos c4] at h
    obtain ⟨rfl, h2⟩ := Prod.mk.inj (Option.some.inj h)
    obtain ⟨rfl, rfl⟩ := Prod.mk.inj h2
    clear h
    have p9 : 0 ≤ i := c3
    have q9 := c4
    obtain ⟨go9, co9, eo9, gb9, gl9, cl9, HG9⟩ := Kd.R_form HR1.out (by omega)
    (first | cases eo9 | (injection eo9 with ea_ en_ ec_; (first | subst ea_ | (injection ea_ with ea_; subst ea_)); subst ec_; clear en_))
    have GB9 := Aside0.mk gb9
    have GL9 := Aside0.mk gl9
    clear gb9 gl9 HG9 cl9
    have c3b0 := decide_eq_true c3
    have c4b0 := decide_eq_true c4
    clear c3 c4
    go_enter Tryz.func22, Tryz.ntmps22
    go_upto_region 5 with (first | (go_at_call 37; (with_reducible refine (spec_l01Bits.calls k bits true _ A1_.out).mono ?_); rintro e w' ⟨rfl, ⟨nd, rfl⟩⟩) | (go_at_call 38; (with_reducible refine (spec_l11Find.calls k b A0 c0 ns name i _ ?f1 ?f2 ?f3 A2_.out).mono ?_); (case f1 => exact hcz0); (case f2 => exact Kd.C_below HC0.out Qa0_); (case f3 => exact HL0.out); rintro e w2 ⟨rfl, ⟨nd, hnd⟩⟩; have hbq : Below w.heap.size w w2 := (by rw [hnd]; exact pw_below_drewN Qa0_ _); clear hnd; have n0_ := Aside0.mk hbq; clear HB; have HB := n0_; clear n0_ hbq))
    have hR2 : Kd.R Kd.string 9 w2 w0.heap.size (fun _ => True) (.slice (some ⟨go9, 0, none⟩) ls.length c1) ls := str_row HR1.out (fun k hk => HB.out.block k (str_lt HR1.out k hk))
    have hcb1 : w2.cell? ⟨b, 1, none⟩ = some (.slice (some ⟨go9, 0, none⟩) ls.length c1) := (HB.out.cell (World.block_lt_of_cell? w _ hcz1)).trans hcz1
    obtain ⟨hx9, hf9⟩ := Kd.R_celln (⟨#[]⟩ : ByteArray) hR2 i p9 q9
    have HP := Aside0.mk (Kd.R_putg hR2 i bits)
    clear hR2
    go_wp2_with (first | ((with_reducible refine gate_store (t := 9) (p := 31) rfl ?_); refine store_event (t := 9) (p := 31) (v := ?vo) (w1 := (w2.setCell ⟨go9, (i : Int).toNat, none⟩ (.string bits))) ?hg ?ho ?hn ?hr ?_; (case ho => rfl); (case hg => rfl); (case hn => rfl); (case hr => exact Qj0_); intro w3 hw3; have hg3 : w2.grownBy w3 (some go9) := (by rw [hw3]; exact HP.out.2); have hr3 : Kd.R Kd.string 9 w3 w0.heap.size (fun _ => True) (.slice (some ⟨go9, 0, none⟩) ls.length c1) (ls.set i.toNat bits) := (by rw [hw3]; exact HP.out.1); clear HP hw3; have HG3 := Aside0.mk hg3; have HR3 := Aside0.mk hr3; clear hg3 hr3))
    go_ret
    exact ⟨rfl, con_lines HC.out HW.out HB.out HG3.out rfl HR3.out⟩
   ·rw [if_neg c3] at h
    obtain ⟨t2, A30, h⟩ := Option.bind_eq_some_iff.mp h
    have A3_ := Aside0.mk A30
    clear A30
    have c3b0 := decide_eq_false c3
    clear c3
    cases t2 with
    | false =>
     replace h : some ((⟨#[110, 111]⟩ : ByteArray), ns, ls) = some (r, ns', ls') := h
     obtain ⟨rfl, h2⟩ := Prod.mk.inj (Option.some.inj h)
     obtain ⟨rfl, rfl⟩ := Prod.mk.inj h2
     clear h
     go_enter Tryz.func22, Tryz.ntmps22
     go_wp2_with (first | (go_at_call 37; (with_reducible refine (spec_l01Bits.calls k bits true _ A1_.out).mono ?_); rintro e w' ⟨rfl, ⟨nd, rfl⟩⟩) | (go_at_call 38; (with_reducible refine (spec_l11Find.calls k b A0 c0 ns name i _ ?f1 ?f2 ?f3 A2_.out).mono ?_); (case f1 => exact hcz0); (case f2 => exact Kd.C_below HC0.out Qa0_); (case f3 => exact HL0.out); rintro e w' ⟨rfl, ⟨nd, rfl⟩⟩) | (go_at_call 39; (with_reducible refine (spec_IsName.calls k name false _ A3_.out).mono ?_); rintro e w' ⟨rfl, ⟨nd, rfl⟩⟩))
     go_ret
     exact ⟨rfl, _, _, con_below HC.out Qa0_, fun k hk _ _ _ => (Qa0_ : Below w.heap.size w _).block k hk, conNew_refl _ _, conNew_refl _ _, below_step HW.out Qa0_⟩
    | true =>
     rw [if_pos rfl] at h
     by_cases c5 : (ns.length : Int) ≥ 6
     ·rw [if_pos c5] at h
      obtain ⟨rfl, h2⟩ := Prod.mk.inj (Option.some.inj h)
      obtain ⟨rfl, rfl⟩ := Prod.mk.inj h2
      clear h
      have c5b0 := decide_eq_true c5
      clear c5
      go_enter Tryz.func22, Tryz.ntmps22
      go_wp2_with (first | (go_at_call 37; (with_reducible refine (spec_l01Bits.calls k bits true _ A1_.out).mono ?_); rintro e w' ⟨rfl, ⟨nd, rfl⟩⟩) | (go_at_call 38; (with_reducible refine (spec_l11Find.calls k b A0 c0 ns name i _ ?f1 ?f2 ?f3 A2_.out).mono ?_); (case f1 => exact hcz0); (case f2 => exact Kd.C_below HC0.out Qa0_); (case f3 => exact HL0.out); rintro e w' ⟨rfl, ⟨nd, rfl⟩⟩) | (go_at_call 39; (with_reducible refine (spec_IsName.calls k name true _ A3_.out).mono ?_); rintro e w' ⟨rfl, ⟨nd, rfl⟩⟩))
      go_ret
      exact ⟨rfl, _, _, con_below HC.out Qa0_, fun k hk _ _ _ => (Qa0_ : Below w.heap.size w _).block k hk, conNew_refl _ _, conNew_refl _ _, below_step HW.out Qa0_⟩
     ·rw [if_neg c5] at h
      obtain ⟨at_, A40, h⟩ := Option.bind_eq_some_iff.mp h
      by_cases c6 : 0 ≤ at_ ∧ at_ ≤ (ns.length : Int) ∧ at_ ≤ (ls.length : Int) ∧ ls.length ≤ 1000
      rotate_left
      ·rw [if_neg c6] at h
       exact absurd h (by simp)
      rw [if_pos c6] at h
      obtain ⟨rfl, h2⟩ := Prod.mk.inj (Option.some.inj h)
      obtain ⟨rfl, rfl⟩ := Prod.mk.inj h2
      clear h
      have A4_ := Aside0.mk A40
      have C6 := Aside0.mk c6
      have C5 := Aside0.mk c5
      have c5b0 := decide_eq_false c5
      clear A40 c5 c6
      go_enter Tryz.func22, Tryz.ntmps22
      go_wp2_with (first | (go_at_call 37; (with_reducible refine (spec_l01Bits.calls k bits true _ A1_.out).mono ?_); rintro e w' ⟨rfl, ⟨nd, rfl⟩⟩) | (go_at_call 38; (with_reducible refine (spec_l11Find.calls k b A0 c0 ns name i _ ?f1 ?f2 ?f3 A2_.out).mono ?_); (case f1 => exact hcz0); (case f2 => exact Kd.C_below HC0.out Qa0_); (case f3 => exact HL0.out); rintro e w' ⟨rfl, ⟨nd, rfl⟩⟩) | (go_at_call 39; (with_reducible refine (spec_IsName.calls k name true _ A3_.out).mono ?_); rintro e w' ⟨rfl, ⟨nd, rfl⟩⟩))
      go_loopg [10] k (fun kq v10 w' => ∃ (x : Int), v10 = .int .i64 x ∧ Aside0 (spec_l11Set.l0 kq ns name x = some at_) ∧ Aside0 (kq ≤ k) ∧ Aside0 (Below w.heap.size w w'))
      case atStart => exact ⟨0, Qf0_, A4_, ⟨Nat.le_refl _⟩, ⟨Qa0_⟩⟩
      case round =>
       obtain ⟨x, rfl, HA, HK1, HB⟩ := hrel
       clear A4_ c5b0 A3_ c3b0 A2_ A1_
       cases gk with
       | zero => exact absurd HA.out (by simp [spec_l11Set.l0])
       | succ k1 =>
        have H := HA.out
        clear HA
        simp only [spec_l11Set.l0] at H
        have hcb0 := (HB.out.cell (World.block_lt_of_cell? w _ hcz0)).trans hcz0
        by_cases c6 : x < (ns.length : Int)
        ·rw [if_pos c6] at H
         have c6b0 := decide_eq_true c6
         by_cases c7 : 0 ≤ x
         rotate_left
         ·rw [if_neg c7] at H
          exact absurd H (by simp)
         rw [if_pos c7] at H
         have c7b0 := decide_eq_true c7
         obtain ⟨ad1, e1, hx1⟩ := Kd.at_string HC0.out x c7 c6
         cases e1
         replace hx1 := (HB.out.cell (World.block_lt_of_cell? w _ hx1)).trans hx1
         have p1 := eq_true c7
         have q1 := eq_true c6
         clear c6 c7
         by_cases c8 : ((Op.bytesLess ((rdOf ByteArray.empty ns x).toList) (name.toList)) = true)
         ·rw [if_pos c8] at H
          have H' := Aside0.mk H
          clear H
          go_wp2
          go_roundg k1
          case measure => have := HK1.out; omega
          case rel => exact ⟨_, rfl, H', ⟨Qs0_⟩, ⟨Qa0_⟩⟩
         ·rw [if_neg c8] at H
          have c8b0 : (Op.bytesLess ((rdOf ByteArray.empty ns x).toList) (name.toList)) = false := by simpa using c8
          clear c8
          obtain rfl := Option.some.inj H
          clear H
          obtain ⟨g0, g1, g2, g3⟩ := C6.out
          obtain ⟨iS, hiS, _, hzS, _⟩ := info_parts info9
          obtain ⟨na, hna⟩ : ∃ y : List ByteArray, y = ns.take x.toNat := ⟨_, rfl⟩
          obtain ⟨nb, hnb⟩ : ∃ y : List ByteArray, y = ns.drop x.toNat := ⟨_, rfl⟩
          obtain ⟨la, hla⟩ : ∃ y : List ByteArray, y = ls.take x.toNat := ⟨_, rfl⟩
          obtain ⟨lb, hlb⟩ : ∃ y : List ByteArray, y = ls.drop x.toNat := ⟨_, rfl⟩
          obtain ⟨hcut0, hcA0, hcC0⟩ := print_take_of (P := Tryz.prog) Value.string (⟨#[]⟩ : ByteArray) 24 9 .i64 Tryz.underlying24 hiS hzS (some ad1) c0 ns x g0 g1 HL0.out
          obtain ⟨hcut1, hcA1, hcC1⟩ := print_take_of (P := Tryz.prog) Value.string (⟨#[]⟩ : ByteArray) 24 9 .i64 Tryz.underlying24 hiS hzS A1 c1 ls x g0 g2 HL1.out
          obtain ⟨B0, hcut2, hcA2, hcC2⟩ := print_drop_of (P := Tryz.prog) Value.string (⟨#[]⟩ : ByteArray) 24 9 .i64 Tryz.underlying24 hiS hzS (some ad1) c0 ns x g0 g1 HL0.out
          obtain ⟨B1, hcut3, hcA3, hcC3⟩ := print_drop_of (P := Tryz.prog) Value.string (⟨#[]⟩ : ByteArray) 24 9 .i64 Tryz.underlying24 hiS hzS A1 c1 ls x g0 g2 HL1.out
          rw [← hna] at hcut0 hcA0 hcC0
          rw [← hla] at hcut1 hcA1 hcC1
          rw [← hnb] at hcut2 hcA2 hcC2
          rw [← hlb] at hcut3 hcA3 hcC3
          have HNA := Aside0.mk (Kd.C_of_reads (h1 := fun _ => rfl) (hcA0 _ (Kd.reads_of_C HC0.out)) : Kd.C Kd.string w (some ad1) na.length na)
          have HLA := Aside0.mk (Kd.C_of_reads (h1 := fun _ => rfl) (hcA1 _ (Kd.reads_of_C HC1.out)) : Kd.C Kd.string w A1 la.length la)
          have HNB := Aside0.mk (Kd.C_of_reads (h1 := fun _ => rfl) (hcA2 _ (Kd.reads_of_C HC0.out)) : Kd.C Kd.string w B0 nb.length nb)
          have HCA := Aside0.mk hcA3
          have LN : na.length ≤ 5 ∧ nb.length ≤ 5 ∧ la.length ≤ 1000 ∧ lb.length ≤ 1000 := by have := C5.out; rw [hna, hnb, hla, hlb]; simp only [List.length_take, List.length_drop]; omega
          have HLN := Aside0.mk LN
          have HY := Aside0.mk (And.intro hna (And.intro hnb (And.intro hla hlb)))
          clear LN hcA0 hcA1 hcA2 hcA3 hcC0 hcC1 hcC2 hcC3 hna hnb hla hlb g0 g1 g2 g3 hiS hzS
          obtain ⟨xa, hxa⟩ : ∃ y : List ByteArray, y = [] ++ na ++ [name] ++ nb := ⟨_, rfl⟩
          obtain ⟨xl, hxl⟩ : ∃ y : List ByteArray, y = [] ++ la ++ [bits] ++ lb := ⟨_, rfl⟩
          have HXA := Aside0.mk hxa
          have HXL := Aside0.mk hxl
          clear hxa hxl
          go_wp2_with (first | ((with_reducible refine gate_dst (N := 63) rfl ?_); refine Kd.R_lit Kd.string (w0 := w) w.heap.size 9 ?hg (N := 63) ?hd (xs := ([] : List ByteArray)) (inner := []) (ok := fun _ => True) (okp := fun _ => True) ?hr ?hp (fun _ hk => hk) trivial ?hB ?hS (by simp) ?_; (case hd => rfl); (case hg => rfl); (case hr => exact Qj0_); (case hp => exact (Reps.none _ _)); (case hB => exact Qa0_); (case hS => exact (below_size Qa0_)); intro v63 w63 ho hb hg_ hnew_; have n0_ := Aside0.mk ho; have n1_ := Aside0.mk hb; clear HB; have HV := n0_; have HB := n1_; clear n0_ n1_ ho hb hg_ hnew_; have hcc0 := (HB.out.cell (World.block_lt_of_cell? w _ hcz0)).trans hcz0; have hcc1 := (HB.out.cell (World.block_lt_of_cell? w _ hcz1)).trans hcz1) | ((with_reducible refine gate_builtin (b := .append) (xs := #[.tmp 63, .tmp 69]) rfl ?_); at_builtin; refine Kd.R_append_rows Kd.string (w0 := w) w.heap.size rfl (.tmp 63) (.tmp 69) 24 9 (.string ⟨#[]⟩) 16 rfl Tryz.underlying24 info9 rfl (by decide) (by omega) v63 [] na _ _ _ (fun _ => True) (fun _ => False) rfl rfl ?aO ?aR (fun _ _ h => h) (fun _ h => h.elim) (fun _ _ => trivial) ?aB ?aS ?aL ?_; (case aR => exact Kd.C_below HNA.out Qa0_); (case aB => exact Qa0_); (case aO => exact (Qr_ HV.out)); (case aS => exact (below_size Qa0_)); (case aL => exact Qi1_); intro v70 w70 ho hb hg_ hat_; have n0_ := Aside0.mk ho; have n1_ := Aside0.mk hb; clear HB HV hcc0 hcc1; have HV := n0_; have HB := n1_; clear n0_ n1_ ho hb hg_ hat_) | ((with_reducible refine gate_builtin (b := .append) (xs := #[.tmp 70, .tmp 72]) rfl ?_); at_builtin; refine Kd.R_append Kd.string (w0 := w) w.heap.size rfl (.tmp 70) (.tmp 72) 24 9 (.string ⟨#[]⟩) 16 rfl Tryz.underlying24 info9 rfl (by decide) (by omega) v70 ([] ++ na) name [.string name] (fun _ => True) (fun _ => False) rfl rfl ?aP (fun _ hk => hk.elim) (fun _ _ => trivial) ?aO ?aB ?aS ?aL ?_; (case aP => exact rfl); (case aB => exact Qa0_); (case aO => exact (Qr_ HV.out)); (case aS => exact (below_size Qa0_)); (case aL => exact Qi1_); intro v73 w73 ho hb hg_ hat_; have n0_ := Aside0.mk ho; have n1_ := Aside0.mk hb; clear HB HV; have HVA := n0_; have HB := n1_; clear n0_ n1_ ho hb hg_ hat_; have H7 := Aside0.mk (Below.refl w73.heap.size w73); have hcc0 := (HB.out.cell (World.block_lt_of_cell? w _ hcz0)).trans hcz0; have hcc1 := (HB.out.cell (World.block_lt_of_cell? w _ hcz1)).trans hcz1; have HB7 := HB) | ((with_reducible refine gate_dst (N := 74) rfl ?_); refine Kd.R_lit Kd.string (w0 := w73) w73.heap.size 9 ?hg (N := 74) ?hd (xs := ([] : List ByteArray)) (inner := []) (ok := fun _ => True) (okp := fun _ => True) ?hr ?hp (fun _ hk => hk) trivial ?hB ?hS (by simp) ?_; (case hd => rfl); (case hg => rfl); (case hr => exact Qj0_); (case hp => exact (Reps.none _ _)); (case hB => exact Qq0_); (case hS => exact (below_size Qq0_)); intro v74 w74 ho hb hg_ hnew_; have n0_ := Aside0.mk ho; have n1_ := Aside0.mk hb; have n2_ := Aside0.mk (below_step HB7.out hb); clear HB H7; have HVL := n0_; have H7 := n1_; have HB := n2_; clear n0_ n1_ n2_ ho hb hg_ hnew_; clear hcc0 hcc1; have hcc0 := (HB.out.cell (World.block_lt_of_cell? w _ hcz0)).trans hcz0; have hcc1 := (HB.out.cell (World.block_lt_of_cell? w _ hcz1)).trans hcz1) | ((with_reducible refine gate_builtin (b := .append) (xs := #[.tmp 74, .tmp 80]) rfl ?_); at_builtin; refine Kd.R_append_rows Kd.string (w0 := w73) w73.heap.size rfl (.tmp 74) (.tmp 80) 24 9 (.string ⟨#[]⟩) 16 rfl Tryz.underlying24 info9 rfl (by decide) (by omega) v74 [] la _ _ _ (fun _ => True) (fun _ => False) rfl rfl ?aO ?aR (fun _ _ h => h) (fun _ h => h.elim) (fun _ _ => trivial) ?aB ?aS ?aL ?_; (case aR => exact Kd.C_below HLA.out Qa0_); (case aB => exact Qq0_); (case aO => exact (Qr_ HVL.out)); (case aS => exact (below_size Qq0_)); (case aL => exact Qi1_); intro v81 w81 ho hb hg_ hat_; have n0_ := Aside0.mk ho; have n1_ := Aside0.mk hb; have n2_ := Aside0.mk (below_step HB7.out hb); clear HB HVL H7; have HVL := n0_; have H7 := n1_; have HB := n2_; clear n0_ n1_ n2_ ho hb hg_ hat_; clear hcc0 hcc1; have hcc0 := (HB.out.cell (World.block_lt_of_cell? w _ hcz0)).trans hcz0; have hcc1 := (HB.out.cell (World.block_lt_of_cell? w _ hcz1)).trans hcz1) | ((with_reducible refine gate_builtin (b := .append) (xs := #[.tmp 81, .tmp 83]) rfl ?_); at_builtin; refine Kd.R_append Kd.string (w0 := w73) w73.heap.size rfl (.tmp 81) (.tmp 83) 24 9 (.string ⟨#[]⟩) 16 rfl Tryz.underlying24 info9 rfl (by decide) (by omega) v81 ([] ++ la) bits [.string bits] (fun _ => True) (fun _ => False) rfl rfl ?aP (fun _ hk => hk.elim) (fun _ _ => trivial) ?aO ?aB ?aS ?aL ?_; (case aP => exact rfl); (case aB => exact Qq0_); (case aO => exact (Qr_ HVL.out)); (case aS => exact (below_size Qq0_)); (case aL => exact Qi1_); intro v84 w84 ho hb hg_ hat_; have n0_ := Aside0.mk ho; have n1_ := Aside0.mk hb; have n2_ := Aside0.mk (below_step HB7.out hb); clear HB HVL H7; have HVL := n0_; have H7 := n1_; have HB := n2_; clear n0_ n1_ n2_ ho hb hg_ hat_; clear hcc0 hcc1; have hcc0 := (HB.out.cell (World.block_lt_of_cell? w _ hcz0)).trans hcz0; have hcc1 := (HB.out.cell (World.block_lt_of_cell? w _ hcz1)).trans hcz1) | ((with_reducible refine gate_builtin (b := .append) (xs := #[.tmp 86, .tmp 92]) rfl ?_); at_builtin; refine Kd.R_append_rows Kd.string (w0 := w) w.heap.size rfl (.tmp 86) (.tmp 92) 24 9 (.string ⟨#[]⟩) 16 rfl Tryz.underlying24 info9 rfl (by decide) (by omega) v73 ([] ++ na ++ [name]) nb _ _ _ (fun _ => True) (fun _ => False) rfl rfl ?aO ?aR (fun _ _ h => h) (fun _ h => h.elim) (fun _ _ => trivial) ?aB ?aS ?aL ?_; (case aR => exact Kd.C_below HNB.out Qa0_); (case aB => exact Qa0_); (case aO => exact (str_row HVA.out (fun k hk => (Qq0_ : Below w73.heap.size w73 _).block k (str_lt HVA.out k hk)))); (case aS => exact (below_size Qa0_)); (case aL => exact Qi1_); intro v93 w93 ho hb hg_ hat_; rw [← HXA.out] at ho; obtain ⟨Aa, ca, ea⟩ := Kd.R_slice ho; subst ea; have hq1 : Kd.R Kd.string 9 w93 w73.heap.size (fun _ => True) v84 ([] ++ la ++ [bits]) := str_row HVL.out (fun k hk => hg_.block k (str_lt HVL.out k hk) (fun e => Nat.not_lt.mpr (str_base HVL.out k hk) (str_lt HVA.out k e.symm))); have hq2 : ∀ k, (.slice Aa xa.length ca : Value).ownBlock = some k → v84.ownBlock ≠ some k := (fun k h6 h7 => by rcases hat_ with h8 | ⟨g, h8, h9⟩; exact Nat.not_lt.mpr (str_base HVL.out k h7) (str_lt HVA.out k (h8.symm.trans h6)); (rw [h6] at h8; cases h8; exact Nat.not_lt.mpr h9 (str_lt HVL.out k h7))); have n0_ := Aside0.mk ho; have n1_ := Aside0.mk hb; have n2_ := Aside0.mk hq1; have n3_ := Aside0.mk hq2; have n4_ := Aside0.mk (Nat.le_trans H7.out.size hg_.size); clear HB HVL; have HV := n0_; have HB := n1_; have HVL := n2_; have HNE := n3_; have HS7 := n4_; clear n0_ n1_ n2_ n3_ n4_ ho hb hg_ hat_ hq1 hq2; clear hcc0 hcc1; have hcc0 := (HB.out.cell (World.block_lt_of_cell? w _ hcz0)).trans hcz0; have hcc1 := (HB.out.cell (World.block_lt_of_cell? w _ hcz1)).trans hcz1; have hfb0 := blk_frozen ((HB.out.block b (con_blt HC.out)).trans BK.out) 0) | ((with_reducible refine gate_store (t := 24) (p := 95) rfl ?_); refine store_event (t := 24) (p := 95) (v := .tmp 93) (w1 := (w93.setCell ⟨b, 0, none⟩ (.slice Aa xa.length ca))) ?hg ?ho ?hn ?hr ?_; (case ho => rfl); (case hg => rfl); (case hn => rfl); (case hr => exact Qj0_); intro w95 hw95; have HF := Aside0.mk (con_names HC.out HB.out HB7.out.size HV.out HVL.out hw95); have HW95 := Aside0.mk hw95; have HS15 := Aside0.mk (show w73.heap.size ≤ w95.heap.size by rw [hw95]; simpa [World.setCell] using HS7.out); clear hw95 hcc0 hcc1 hfb0; have hcd1 : w95.cell? ⟨b, 1, none⟩ = some (.slice A1 ls.length c1) := (blk_cell HF.out.1 1).trans rfl; have HLB := Aside0.mk (Kd.C_of_reads (h1 := fun _ => rfl) (HCA.out _ (Kd.reads_of_C (Kd.R_reads' HF.out.2.2.2.1).2.2)) : Kd.C Kd.string w95 B1 lb.length lb); have H15 := Aside0.mk (Below.refl w73.heap.size w95)) | ((with_reducible refine gate_builtin (b := .append) (xs := #[.tmp 97, .tmp 103]) rfl ?_); at_builtin; refine Kd.R_append_rows Kd.string (w0 := w95) w73.heap.size rfl (.tmp 97) (.tmp 103) 24 9 (.string ⟨#[]⟩) 16 rfl Tryz.underlying24 info9 rfl (by decide) (by omega) v84 ([] ++ la ++ [bits]) lb _ _ _ (fun _ => True) (fun _ => False) rfl rfl ?aO ?aR (fun _ _ h => h) (fun _ h => h.elim) (fun _ _ => trivial) ?aB ?aS ?aL ?_; (case aR => exact HLB.out); (case aB => repeat (first | (with_reducible first | exact H15.out | apply below_alloc | apply pw_below_drewN | apply below_drew1) | exact H15.out)); (case aO => exact HF.out.2.2.1); (case aS => exact HS15.out); (case aL => exact Qi1_); intro v104 w104 ho hb hg_ hat_; rw [← HXL.out] at ho; obtain ⟨Al, cl, el⟩ := Kd.R_slice ho; subst el; have HVN := Aside0.mk ho; have HG15 := Aside0.mk hg_; have HAT := Aside0.mk hat_; have hbk := (hg_.block b (blk_lt HF.out.1) (fun e => Nat.not_lt.mpr (str_base HF.out.2.2.1 b e.symm) (Nat.lt_of_lt_of_le (con_blt HC.out) HB7.out.size))).trans HF.out.1; have hce1 := (blk_cell hbk 1).trans rfl; have hfe1 := blk_frozen hbk 1; clear ho hb hg_ hat_ hbk hcd1) | ((with_reducible refine gate_store (t := 24) (p := 106) rfl ?_); refine store_event (t := 24) (p := 106) (v := .tmp 104) (w1 := (w104.setCell ⟨b, 1, none⟩ (.slice Al xl.length cl))) ?hg ?ho ?hn ?hr ?_; (case ho => rfl); (case hg => rfl); (case hn => rfl); (case hr => exact Qj0_); intro w106 hw106; have HW106 := Aside0.mk hw106; clear hw106 hce1 hfe1))
          go_ret
          obtain ⟨rfl, rfl, rfl, rfl⟩ := HY.out
          obtain rfl := HXA.out
          obtain rfl := HXL.out
          have h_ := con_ins HC.out HW.out HB.out HB7.out.size HS7.out HW95.out HF.out.2.1 HF.out.2.2.1 HF.out.1 HG15.out HNE.out HAT.out HVN.out HW106.out
          simp only [List.nil_append, List.append_assoc, List.singleton_append] at h_
          exact ⟨rfl, h_⟩
        ·rw [if_neg c6] at H
         have c6b0 := decide_eq_false c6
         obtain rfl := Option.some.inj H
         clear H
         obtain ⟨g0, g1, g2, g3⟩ := C6.out
         obtain ⟨iS, hiS, _, hzS, _⟩ := info_parts info9
         obtain ⟨na, hna⟩ : ∃ y : List ByteArray, y = ns.take x.toNat := ⟨_, rfl⟩
         obtain ⟨nb, hnb⟩ : ∃ y : List ByteArray, y = ns.drop x.toNat := ⟨_, rfl⟩
         obtain ⟨la, hla⟩ : ∃ y : List ByteArray, y = ls.take x.toNat := ⟨_, rfl⟩
         obtain ⟨lb, hlb⟩ : ∃ y : List ByteArray, y = ls.drop x.toNat := ⟨_, rfl⟩
         obtain ⟨hcut0, hcA0, hcC0⟩ := print_take_of (P := Tryz.prog) Value.string (⟨#[]⟩ : ByteArray) 24 9 .i64 Tryz.underlying24 hiS hzS A0 c0 ns x g0 g1 HL0.out
         obtain ⟨hcut1, hcA1, hcC1⟩ := print_take_of (P := Tryz.prog) Value.string (⟨#[]⟩ : ByteArray) 24 9 .i64 Tryz.underlying24 hiS hzS A1 c1 ls x g0 g2 HL1.out
         obtain ⟨B0, hcut2, hcA2, hcC2⟩ := print_drop_of (P := Tryz.prog) Value.string (⟨#[]⟩ : ByteArray) 24 9 .i64 Tryz.underlying24 hiS hzS A0 c0 ns x g0 g1 HL0.out
         obtain ⟨B1, hcut3, hcA3, hcC3⟩ := print_drop_of (P := Tryz.prog) Value.string (⟨#[]⟩ : ByteArray) 24 9 .i64 Tryz.underlying24 hiS hzS A1 c1 ls x g0 g2 HL1.out
         rw [← hna] at hcut0 hcA0 hcC0
         rw [← hla] at hcut1 hcA1 hcC1
         rw [← hnb] at hcut2 hcA2 hcC2
         rw [← hlb] at hcut3 hcA3 hcC3
         have HNA := Aside0.mk (Kd.C_of_reads (h1 := fun _ => rfl) (hcA0 _ (Kd.reads_of_C HC0.out)) : Kd.C Kd.string w A0 na.length na)
         have HLA := Aside0.mk (Kd.C_of_reads (h1 := fun _ => rfl) (hcA1 _ (Kd.reads_of_C HC1.out)) : Kd.C Kd.string w A1 la.length la)
         have HNB := Aside0.mk (Kd.C_of_reads (h1 := fun _ => rfl) (hcA2 _ (Kd.reads_of_C HC0.out)) : Kd.C Kd.string w B0 nb.length nb)
         have HCA := Aside0.mk hcA3
         have LN : na.length ≤ 5 ∧ nb.length ≤ 5 ∧ la.length ≤ 1000 ∧ lb.length ≤ 1000 := by have := C5.out; rw [hna, hnb, hla, hlb]; simp only [List.length_take, List.length_drop]; omega
         have HLN := Aside0.mk LN
         have HY := Aside0.mk (And.intro hna (And.intro hnb (And.intro hla hlb)))
         clear LN hcA0 hcA1 hcA2 hcA3 hcC0 hcC1 hcC2 hcC3 hna hnb hla hlb g0 g1 g2 g3 hiS hzS
         obtain ⟨xa, hxa⟩ : ∃ y : List ByteArray, y = [] ++ na ++ [name] ++ nb := ⟨_, rfl⟩
         obtain ⟨xl, hxl⟩ : ∃ y : List ByteArray, y = [] ++ la ++ [bits] ++ lb := ⟨_, rfl⟩
         have HXA := Aside0.mk hxa
         have HXL := Aside0.mk hxl
         clear hxa hxl
         go_wp2_with (first | ((with_reducible refine gate_dst (N := 63) rfl ?_); refine Kd.R_lit Kd.string (w0 := w) w.heap.size 9 ?hg (N := 63) ?hd (xs := ([] : List ByteArray)) (inner := []) (ok := fun _ => True) (okp := fun _ => True) ?hr ?hp (fun _ hk => hk) trivial ?hB ?hS (by simp) ?_; (case hd => rfl); (case hg => rfl); (case hr => exact Qj0_); (case hp => exact (Reps.none _ _)); (case hB => exact Qa0_); (case hS => exact (below_size Qa0_)); intro v63 w63 ho hb hg_ hnew_; have n0_ := Aside0.mk ho; have n1_ := Aside0.mk hb; clear HB; have HV := n0_; have HB := n1_; clear n0_ n1_ ho hb hg_ hnew_; have hcc0 := (HB.out.cell (World.block_lt_of_cell? w _ hcz0)).trans hcz0; have hcc1 := (HB.out.cell (World.block_lt_of_cell? w _ hcz1)).trans hcz1) | ((with_reducible refine gate_builtin (b := .append) (xs := #[.tmp 63, .tmp 69]) rfl ?_); at_builtin; refine Kd.R_append_rows Kd.string (w0 := w) w.heap.size rfl (.tmp 63) (.tmp 69) 24 9 (.string ⟨#[]⟩) 16 rfl Tryz.underlying24 info9 rfl (by decide) (by omega) v63 [] na _ _ _ (fun _ => True) (fun _ => False) rfl rfl ?aO ?aR (fun _ _ h => h) (fun _ h => h.elim) (fun _ _ => trivial) ?aB ?aS ?aL ?_; (case aR => exact Kd.C_below HNA.out Qa0_); (case aB => exact Qa0_); (case aO => exact (Qr_ HV.out)); (case aS => exact (below_size Qa0_)); (case aL => exact Qi1_); intro v70 w70 ho hb hg_ hat_; have n0_ := Aside0.mk ho; have n1_ := Aside0.mk hb; clear HB HV hcc0 hcc1; have HV := n0_; have HB := n1_; clear n0_ n1_ ho hb hg_ hat_) | ((with_reducible refine gate_builtin (b := .append) (xs := #[.tmp 70, .tmp 72]) rfl ?_); at_builtin; refine Kd.R_append Kd.string (w0 := w) w.heap.size rfl (.tmp 70) (.tmp 72) 24 9 (.string ⟨#[]⟩) 16 rfl Tryz.underlying24 info9 rfl (by decide) (by omega) v70 ([] ++ na) name [.string name] (fun _ => True) (fun _ => False) rfl rfl ?aP (fun _ hk => hk.elim) (fun _ _ => trivial) ?aO ?aB ?aS ?aL ?_; (case aP => exact rfl); (case aB => exact Qa0_); (case aO => exact (Qr_ HV.out)); (case aS => exact (below_size Qa0_)); (case aL => exact Qi1_); intro v73 w73 ho hb hg_ hat_; have n0_ := Aside0.mk ho; have n1_ := Aside0.mk hb; clear HB HV; have HVA := n0_; have HB := n1_; clear n0_ n1_ ho hb hg_ hat_; have H7 := Aside0.mk (Below.refl w73.heap.size w73); have hcc0 := (HB.out.cell (World.block_lt_of_cell? w _ hcz0)).trans hcz0; have hcc1 := (HB.out.cell (World.block_lt_of_cell? w _ hcz1)).trans hcz1; have HB7 := HB) | ((with_reducible refine gate_dst (N := 74) rfl ?_); refine Kd.R_lit Kd.string (w0 := w73) w73.heap.size 9 ?hg (N := 74) ?hd (xs := ([] : List ByteArray)) (inner := []) (ok := fun _ => True) (okp := fun _ => True) ?hr ?hp (fun _ hk => hk) trivial ?hB ?hS (by simp) ?_; (case hd => rfl); (case hg => rfl); (case hr => exact Qj0_); (case hp => exact (Reps.none _ _)); (case hB => exact Qq0_); (case hS => exact (below_size Qq0_)); intro v74 w74 ho hb hg_ hnew_; have n0_ := Aside0.mk ho; have n1_ := Aside0.mk hb; have n2_ := Aside0.mk (below_step HB7.out hb); clear HB H7; have HVL := n0_; have H7 := n1_; have HB := n2_; clear n0_ n1_ n2_ ho hb hg_ hnew_; clear hcc0 hcc1; have hcc0 := (HB.out.cell (World.block_lt_of_cell? w _ hcz0)).trans hcz0; have hcc1 := (HB.out.cell (World.block_lt_of_cell? w _ hcz1)).trans hcz1) | ((with_reducible refine gate_builtin (b := .append) (xs := #[.tmp 74, .tmp 80]) rfl ?_); at_builtin; refine Kd.R_append_rows Kd.string (w0 := w73) w73.heap.size rfl (.tmp 74) (.tmp 80) 24 9 (.string ⟨#[]⟩) 16 rfl Tryz.underlying24 info9 rfl (by decide) (by omega) v74 [] la _ _ _ (fun _ => True) (fun _ => False) rfl rfl ?aO ?aR (fun _ _ h => h) (fun _ h => h.elim) (fun _ _ => trivial) ?aB ?aS ?aL ?_; (case aR => exact Kd.C_below HLA.out Qa0_); (case aB => exact Qq0_); (case aO => exact (Qr_ HVL.out)); (case aS => exact (below_size Qq0_)); (case aL => exact Qi1_); intro v81 w81 ho hb hg_ hat_; have n0_ := Aside0.mk ho; have n1_ := Aside0.mk hb; have n2_ := Aside0.mk (below_step HB7.out hb); clear HB HVL H7; have HVL := n0_; have H7 := n1_; have HB := n2_; clear n0_ n1_ n2_ ho hb hg_ hat_; clear hcc0 hcc1; have hcc0 := (HB.out.cell (World.block_lt_of_cell? w _ hcz0)).trans hcz0; have hcc1 := (HB.out.cell (World.block_lt_of_cell? w _ hcz1)).trans hcz1) | ((with_reducible refine gate_builtin (b := .append) (xs := #[.tmp 81, .tmp 83]) rfl ?_); at_builtin; refine Kd.R_append Kd.string (w0 := w73) w73.heap.size rfl (.tmp 81) (.tmp 83) 24 9 (.string ⟨#[]⟩) 16 rfl Tryz.underlying24 info9 rfl (by decide) (by omega) v81 ([] ++ la) bits [.string bits] (fun _ => True) (fun _ => False) rfl rfl ?aP (fun _ hk => hk.elim) (fun _ _ => trivial) ?aO ?aB ?aS ?aL ?_; (case aP => exact rfl); (case aB => exact Qq0_); (case aO => exact (Qr_ HVL.out)); (case aS => exact (below_size Qq0_)); (case aL => exact Qi1_); intro v84 w84 ho hb hg_ hat_; have n0_ := Aside0.mk ho; have n1_ := Aside0.mk hb; have n2_ := Aside0.mk (below_step HB7.out hb); clear HB HVL H7; have HVL := n0_; have H7 := n1_; have HB := n2_; clear n0_ n1_ n2_ ho hb hg_ hat_; clear hcc0 hcc1; have hcc0 := (HB.out.cell (World.block_lt_of_cell? w _ hcz0)).trans hcz0; have hcc1 := (HB.out.cell (World.block_lt_of_cell? w _ hcz1)).trans hcz1) | ((with_reducible refine gate_builtin (b := .append) (xs := #[.tmp 86, .tmp 92]) rfl ?_); at_builtin; refine Kd.R_append_rows Kd.string (w0 := w) w.heap.size rfl (.tmp 86) (.tmp 92) 24 9 (.string ⟨#[]⟩) 16 rfl Tryz.underlying24 info9 rfl (by decide) (by omega) v73 ([] ++ na ++ [name]) nb _ _ _ (fun _ => True) (fun _ => False) rfl rfl ?aO ?aR (fun _ _ h => h) (fun _ h => h.elim) (fun _ _ => trivial) ?aB ?aS ?aL ?_; (case aR => exact Kd.C_below HNB.out Qa0_); (case aB => exact Qa0_); (case aO => exact (str_row HVA.out (fun k hk => (Qq0_ : Below w73.heap.size w73 _).block k (str_lt HVA.out k hk)))); (case aS => exact (below_size Qa0_)); (case aL => exact Qi1_); intro v93 w93 ho hb hg_ hat_; rw [← HXA.out] at ho; obtain ⟨Aa, ca, ea⟩ := Kd.R_slice ho; subst ea; have hq1 : Kd.R Kd.string 9 w93 w73.heap.size (fun _ => True) v84 ([] ++ la ++ [bits]) := str_row HVL.out (fun k hk => hg_.block k (str_lt HVL.out k hk) (fun e => Nat.not_lt.mpr (str_base HVL.out k hk) (str_lt HVA.out k e.symm))); have hq2 : ∀ k, (.slice Aa xa.length ca : Value).ownBlock = some k → v84.ownBlock ≠ some k := (fun k h6 h7 => by rcases hat_ with h8 | ⟨g, h8, h9⟩; exact Nat.not_lt.mpr (str_base HVL.out k h7) (str_lt HVA.out k (h8.symm.trans h6)); (rw [h6] at h8; cases h8; exact Nat.not_lt.mpr h9 (str_lt HVL.out k h7))); have n0_ := Aside0.mk ho; have n1_ := Aside0.mk hb; have n2_ := Aside0.mk hq1; have n3_ := Aside0.mk hq2; have n4_ := Aside0.mk (Nat.le_trans H7.out.size hg_.size); clear HB HVL; have HV := n0_; have HB := n1_; have HVL := n2_; have HNE := n3_; have HS7 := n4_; clear n0_ n1_ n2_ n3_ n4_ ho hb hg_ hat_ hq1 hq2; clear hcc0 hcc1; have hcc0 := (HB.out.cell (World.block_lt_of_cell? w _ hcz0)).trans hcz0; have hcc1 := (HB.out.cell (World.block_lt_of_cell? w _ hcz1)).trans hcz1; have hfb0 := blk_frozen ((HB.out.block b (con_blt HC.out)).trans BK.out) 0) | ((with_reducible refine gate_store (t := 24) (p := 95) rfl ?_); refine store_event (t := 24) (p := 95) (v := .tmp 93) (w1 := (w93.setCell ⟨b, 0, none⟩ (.slice Aa xa.length ca))) ?hg ?ho ?hn ?hr ?_; (case ho => rfl); (case hg => rfl); (case hn => rfl); (case hr => exact Qj0_); intro w95 hw95; have HF := Aside0.mk (con_names HC.out HB.out HB7.out.size HV.out HVL.out hw95); have HW95 := Aside0.mk hw95; have HS15 := Aside0.mk (show w73.heap.size ≤ w95.heap.size by rw [hw95]; simpa [World.setCell] using HS7.out); clear hw95 hcc0 hcc1 hfb0; have hcd1 : w95.cell? ⟨b, 1, none⟩ = some (.slice A1 ls.length c1) := (blk_cell HF.out.1 1).trans rfl; have HLB := Aside0.mk (Kd.C_of_reads (h1 := fun _ => rfl) (HCA.out _ (Kd.reads_of_C (Kd.R_reads' HF.out.2.2.2.1).2.2)) : Kd.C Kd.string w95 B1 lb.length lb); have H15 := Aside0.mk (Below.refl w73.heap.size w95)) | ((with_reducible refine gate_builtin (b := .append) (xs := #[.tmp 97, .tmp 103]) rfl ?_); at_builtin; refine Kd.R_append_rows Kd.string (w0 := w95) w73.heap.size rfl (.tmp 97) (.tmp 103) 24 9 (.string ⟨#[]⟩) 16 rfl Tryz.underlying24 info9 rfl (by decide) (by omega) v84 ([] ++ la ++ [bits]) lb _ _ _ (fun _ => True) (fun _ => False) rfl rfl ?aO ?aR (fun _ _ h => h) (fun _ h => h.elim) (fun _ _ => trivial) ?aB ?aS ?aL ?_; (case aR => exact HLB.out); (case aB => repeat (first | (with_reducible first | exact H15.out | apply below_alloc | apply pw_below_drewN | apply below_drew1) | exact H15.out)); (case aO => exact HF.out.2.2.1); (case aS => exact HS15.out); (case aL => exact Qi1_); intro v104 w104 ho hb hg_ hat_; rw [← HXL.out] at ho; obtain ⟨Al, cl, el⟩ := Kd.R_slice ho; subst el; have HVN := Aside0.mk ho; have HG15 := Aside0.mk hg_; have HAT := Aside0.mk hat_; have hbk := (hg_.block b (blk_lt HF.out.1) (fun e => Nat.not_lt.mpr (str_base HF.out.2.2.1 b e.symm) (Nat.lt_of_lt_of_le (con_blt HC.out) HB7.out.size))).trans HF.out.1; have hce1 := (blk_cell hbk 1).trans rfl; have hfe1 := blk_frozen hbk 1; clear ho hb hg_ hat_ hbk hcd1) | ((with_reducible refine gate_store (t := 24) (p := 106) rfl ?_); refine store_event (t := 24) (p := 106) (v := .tmp 104) (w1 := (w104.setCell ⟨b, 1, none⟩ (.slice Al xl.length cl))) ?hg ?ho ?hn ?hr ?_; (case ho => rfl); (case hg => rfl); (case hn => rfl); (case hr => exact Qj0_); intro w106 hw106; have HW106 := Aside0.mk hw106; clear hw106 hce1 hfe1))
         go_ret
         obtain ⟨rfl, rfl, rfl, rfl⟩ := HY.out
         obtain rfl := HXA.out
         obtain rfl := HXL.out
         have h_ := con_ins HC.out HW.out HB.out HB7.out.size HS7.out HW95.out HF.out.2.1 HF.out.2.2.1 HF.out.1 HG15.out HNE.out HAT.out HVN.out HW106.out
         simp only [List.nil_append, List.append_assoc, List.singleton_append] at h_
         exact ⟨rfl, h_⟩
def spec_l11DrawOk.l0 : Nat → List Int → List ByteArray → List ByteArray → Int → Int → Int → Option (List ByteArray × List ByteArray × Int × Int)
 | 0, _, _, _, _, _, _ => none
 | k + 1, code, ns, ls, i, s1, s2 => if i > 0 then ((spec_l00Src_text.f code s1 s2 ([(⟨#[97]⟩ : ByteArray), (⟨#[98]⟩ : ByteArray), (⟨#[119, 105, 114, 101]⟩ : ByteArray), (⟨#[120]⟩ : ByteArray), (⟨#[102, 97, 114]⟩ : ByteArray)] : List ByteArray)).bind fun bt1 => ((spec_l11DrawFew.f k code bt1.2.1 bt1.2.2).bind fun bt2 => ((spec_l11Set.f k ns ls bt1.1 bt2.1 true).bind fun bt3 => (spec_l11DrawOk.l0 k code bt3.2.1 bt3.2.2 (wrap64 (i - 1)) bt2.2.1 bt2.2.2)))) else (some (ns, ls, s1, s2))
def spec_l11DrawOk.f (k : Nat) (code : List Int) (s1 s2 : Int) : Option (List ByteArray × List ByteArray × Int × Int) := (spec_l00Src_pick.f code s1 s2 4).bind fun bt => (spec_l11DrawOk.l0 k code [] [] bt.1 bt.2.1 bt.2.2)
def DrInv (w0 w : World) (g b b2 : Nat) (w' : World) (s0 : List Int) (s1 s2 : Int) (v0 v1 : Value) (ns ls : List ByteArray) : Prop :=
 IsS53 w0 w' g s0 s1 s2 ∧ conAt w' w0.heap.size b v0 v1 ns ls ∧ w'.heap[b2]? = some (.cells #[.slice none 0 0, .slice none 0 0] 26 (0, 0)) ∧ KeepBut w w' g none ∧ Below w0.heap.size w0 w' ∧ (∀ k, v0.ownBlock = some k → w.heap.size ≤ k) ∧ (∀ k, v1.ownBlock = some k → w.heap.size ≤ k) ∧ w.heap.size ≤ b ∧ b2 ≠ b ∧ w.heap.size ≤ b2
theorem dr_ne {w0 w : World} {g b2 : Nat} {s0 : List Int} {s1 s2 : Int} {cs : Array Value} (hi : IsS53 w0 w g s0 s1 s2) (h : w.heap[b2]? = some (.cells cs 26 (0, 0))) : b2 ≠ g := by
 obtain ⟨A0, c0, i1, i2, i3⟩ := hi
 intro e
 rw [e, i1] at h
 injection h with h
 injection h with _ h6 _
 exact absurd h6 (by decide)
theorem con_keepI {w0 w w1 : World} {base b g : Nat} {v0 v1 : Value} {ns ls : List ByteArray} {s0 : List Int} {s1 s2 : Int} (h : conAt w base b v0 v1 ns ls) (hk : KeepBut w w1 g none) (hi : IsS53 w0 w g s0 s1 s2) : conAt w1 base b v0 v1 ns ls := by
 have hb := con_blt h
 obtain ⟨h1, h2, h3, h4, h5⟩ := h
 have hbg := dr_ne hi h2
 obtain ⟨A0, c0, i1, i2, i3⟩ := hi
 have m0 : ∀ k, v0.ownBlock = some k → w1.heap[k]? = w.heap[k]? := fun k hk2 => hk.2 k (str_lt h3 k hk2) (fun e => str_ne h3 i1 (by decide) (hk2.trans (by rw [e]))) (by simp)
 have m1 : ∀ k, v1.ownBlock = some k → w1.heap[k]? = w.heap[k]? := fun k hk2 => hk.2 k (str_lt h4 k hk2) (fun e => str_ne h4 i1 (by decide) (hk2.trans (by rw [e]))) (by simp)
 exact ⟨h1, (hk.2 b hb hbg (by simp)).trans h2, str_row h3 m0, str_row h4 m1, h5⟩
theorem DrInv.below {w0 w : World} {g b b2 : Nat} {w1 w2 : World} {s0 : List Int} {s1 s2 : Int} {v0 v1 : Value} {ns ls : List ByteArray} (h : DrInv w0 w g b b2 w1 s0 s1 s2 v0 v1 ns ls) (hb : Below w1.heap.size w1 w2) : DrInv w0 w g b b2 w2 s0 s1 s2 v0 v1 ns ls := by
 obtain ⟨h1, h2, h3, h4, h5, h6, h7, h8, h9⟩ := h
 exact ⟨h1.below hb, con_below h2 hb, (hb.block b2 (blk_lt h3)).trans h3, h4.trans (KeepBut.of_below hb g none) (.inl rfl), below_step h5 hb, h6, h7, h8, h9⟩
theorem DrInv.state {w0 w : World} {g b b2 : Nat} {w1 w2 : World} {s0 : List Int} {s1 s2 t1 t2 : Int} {v0 v1 : Value} {ns ls : List ByteArray} (h : DrInv w0 w g b b2 w1 s0 s1 s2 v0 v1 ns ls) (hi : IsS53 w0 w2 g s0 t1 t2) (hb : Below w0.heap.size w0 w2) (hk : KeepBut w1 w2 g none) : DrInv w0 w g b b2 w2 s0 t1 t2 v0 v1 ns ls := by
 obtain ⟨h1, h2, h3, h4, h5, h6, h7, h8, h9⟩ := h
 exact ⟨hi, con_keepI h2 hk h1, (hk.2 b2 (blk_lt h3) (dr_ne h1 h3) (by simp)).trans h3, h4.trans hk (.inl rfl), hb, h6, h7, h8, h9⟩
theorem DrInv.set {w0 w : World} {g b b2 : Nat} {w1 w2 : World} {s0 : List Int} {s1 s2 : Int} {v0 v1 u0 u1 : Value} {ns ls ns2 ls2 : List ByteArray} (h : DrInv w0 w g b b2 w1 s0 s1 s2 v0 v1 ns ls) (hC : conAt w2 w0.heap.size b u0 u1 ns2 ls2) (hk : conKept w1 w2 b v0 v1) (hn0 : conNew w1 v0 u0) (hn1 : conNew w1 v1 u1) (hb : Below w0.heap.size w0 w2) : DrInv w0 w g b b2 w2 s0 s1 s2 u0 u1 ns2 ls2 := by
 obtain ⟨h1, h2, h3, h4, h5, h6, h7, h8, h9⟩ := h
 have hgb := dr_ne h1 h2.2.1
 obtain ⟨A0, c0, i1, i2, i3⟩ := h1
 have hw := h4.1
 refine ⟨⟨A0, c0, (hk g (blk_lt i1) (fun e => hgb e.symm) (str_ne h2.2.2.1 i1 (by decide)) (str_ne h2.2.2.2.1 i1 (by decide))).trans i1, i2, i3⟩, hC, (hk b2 (blk_lt h3) h9.1 (fun e => ?_) (fun e => ?_)).trans h3, ⟨Nat.le_of_lt (Nat.lt_of_le_of_lt h8 (con_blt hC)), fun i hi hg hr => (hk i (Nat.lt_of_lt_of_le hi hw) (fun e => by omega) (fun e => by have := h6 i e; omega) (fun e => by have := h7 i e; omega)).trans (h4.2 i hi hg hr)⟩, hb, fun k e => ?_, fun k e => ?_, h8, h9⟩
 ·exact str_ne h2.2.2.1 h3 (by decide) e
 ·exact str_ne h2.2.2.2.1 h3 (by decide) e
 ·rcases hn0 k e with e | e
  ·exact h6 k e
  ·omega
 ·rcases hn1 k e with e | e
  ·exact h7 k e
  ·omega
theorem DrInv.start {w0 w : World} {g : Nat} {w2 : World} {s0 : List Int} {s1 s2 t1 t2 : Int} (hi : IsS53 w0 w g s0 s1 s2) (hW : Below w0.heap.size w0 w) (hi2 : IsS53 w0 w2 g s0 t1 t2) (hb : Below w0.heap.size w0 w2) (hk : KeepBut ((w.alloc (.cells #[.slice none 0 0, .slice none 0 0] 26 (0, 0))).alloc (.cells #[.slice none 0 0, .slice none 0 0] 26 (0, 0))) w2 g none) : DrInv w0 w g (w.heap.size + 1) w.heap.size w2 s0 t1 t2 (.slice none 0 0) (.slice none 0 0) [] [] := by
 have hg := hi.lt
 have hs : ((w.alloc (.cells #[.slice none 0 0, .slice none 0 0] 26 (0, 0))).alloc (.cells #[.slice none 0 0, .slice none 0 0] 26 (0, 0))).heap.size = w.heap.size + 2   := (Array.size_push _).trans (congrArg (· + 1) (Array.size_push _))
 have hs1 : (w.alloc (.cells #[.slice none 0 0, .slice none 0 0] 26 (0, 0))).heap.size = w.heap.size + 1 := Array.size_push _
 have hw := hW.size
 have n : ∀ k, (Value.slice none 0 0).ownBlock = some k → False := fun k e => by simp [Value.ownBlock] at e
 refine ⟨hi2, ⟨by omega, (hk.2 _ (by omega) (by omega) (by simp)).trans (heap_alloc2_new w _ _), Kd.R_nil _ _ _ _ _, Kd.R_nil _ _ _ _ _, fun k e => (n k e).elim⟩, (hk.2 _ (by omega) (by omega) (by simp)).trans ((heap_alloc_old _ _ (by omega)).trans (heap_alloc_new w _)), ⟨by have := hk.1; omega, fun i hi hg hr => (hk.2 i (by omega) hg hr).trans ((heap_alloc_old _ _ (by omega)).trans (heap_alloc_old _ _ hi))⟩, hb, fun k e => (n k e).elim, fun k e => (n k e).elim, by omega, by omega, Nat.le_refl _⟩
theorem DrInv.fin {w0 w : World} {g b b2 : Nat} {w1 : World} {s0 : List Int} {s1 s2 : Int} {v0 v1 : Value} {ns ls : List ByteArray} (h : DrInv w0 w g b b2 w1 s0 s1 s2 v0 v1 ns ls) (hW : w0.heap.size ≤ w.heap.size) (cs : Array Value) :
 Kd.R Kd.string 9 (w1.setRow b2 cs) w0.heap.size (fun _ => True) v0 ns ∧ Kd.R Kd.string 9 (w1.setRow b2 cs) w0.heap.size (fun _ => True) v1 ls ∧ (∀ k, v0.ownBlock = some k → v1.ownBlock ≠ some k) ∧ IsS53 w0 (w1.setRow b2 cs) g s0 s1 s2 ∧ Below w0.heap.size w0 (w1.setRow b2 cs) ∧ KeepBut w (w1.setRow b2 cs) g none := by
 obtain ⟨h1, h2, h3, h4, h5, h6, h7, h8, h9⟩ := h
 have hne := dr_ne h1 h3
 obtain ⟨A0, c0, i1, i2, i3⟩ := h1
 have ho : ∀ k, k ≠ b2 → (w1.setRow b2 cs).heap[k]? = w1.heap[k]? := fun k hk => setRow_other _ _ _ _ hk
 refine ⟨str_row h2.2.2.1 (fun k e => ho k (fun e2 => str_ne h2.2.2.1 h3 (by decide) (e.trans (by rw [e2])))), str_row h2.2.2.2.1 (fun k e => ho k (fun e2 => str_ne h2.2.2.2.1 h3 (by decide) (e.trans (by rw [e2])))), h2.2.2.2.2, ⟨A0, c0, (ho g (fun e => hne e.symm)).trans i1, i2, i3⟩, below_setRow h5 (Nat.le_trans hW h9.2) _, ⟨by rw [size_setRow]; exact h4.1, fun i hi hg hr => (ho i (fun e => by have := h9.2; omega)).trans (h4.2 i hi hg hr)⟩⟩
set_option maxHeartbeats 8000000 in
set_option maxRecDepth 100000 in
theorem spec_l11DrawOk.calls (k : Nat) (g : Nat) (s0_0 : List Int) (s0_1 : Int) (s0_2 : Int) (r0 r1 : List ByteArray) (r2 r3 : Int) (w0 w : World) (hI : IsS53 w0 w g s0_0 s0_1 s0_2) (hB : Below w0.heap.size w0 w) (h : spec_l11DrawOk.f k s0_0 s0_1 s0_2 = some (r0, r1, r2, r3)) :
 Calls Tryz.prog 11 #[.pointer (some ⟨g, 0, none⟩)] w fun e w' => ∃ v0 v1 : Value, e = .returned (.agg #[v0, v1]) ∧ Kd.R Kd.string 9 w' w0.heap.size (fun _ => True) v0 r0 ∧ Kd.R Kd.string 9 w' w0.heap.size (fun _ => True) v1 r1 ∧ (∀ k, v0.ownBlock = some k → v1.ownBlock ≠ some k) ∧ IsS53 w0 w' g s0_0 r2 r3 ∧ Below w0.heap.size w0 w' ∧ KeepBut w w' g none := by
 have hu27 := Tryz.underlying26
 have HI0 := Aside0.mk hI
 have HK := Aside0.mk (KeepBut.refl w g none)
 have HW0 := Aside0.mk hB.size
 have HB := Aside0.mk hB
 clear hB hI
 obtain ⟨⟨t1, t2, t3⟩, A1, H⟩ := Option.bind_eq_some_iff.mp h
 have A1 := Aside0.mk A1
 have H' := Aside0.mk (show spec_l11DrawOk.l0 k s0_0 [] [] t1 t2 t3 = some (r0, r1, r2, r3) from H)
 clear h H
 go_enter Tryz.func11, Tryz.ntmps11
 go_wp2_with (first | (go_at_call 12; (with_reducible refine (spec_l00Src_pick.calls g s0_0 s0_1 s0_2 4 t1 t2 t3 w0 _ ?side1 ?side2 A1.out).mono ?_); (case side1 => repeat (first | (with_reducible first | exact HI0.out | apply IsS53.alloc | apply IsS53.drewN | apply IsS53.drew) | exact HI0.out)); (case side2 => exact Qa0_); rintro e w6 ⟨rfl, hi, hb, hk⟩; have HD := Aside0.mk (DrInv.start HI0.out HB.out hi hb hk); clear hi hb hk))
 obtain ⟨b2, hb2⟩ : ∃ x : Nat, x = w.heap.size := ⟨_, rfl⟩
 obtain ⟨b, hb⟩ : ∃ x : Nat, x = w.heap.size + 1 := ⟨_, rfl⟩
 rw [← hb, ← hb2] at HD
 rw [← hb, ← hb2]
 clear hb hb2
 go_loopg [4] k (fun kq v4 w' => ∃ (ns ls : List ByteArray) (i s1 s2 : Int) (v0 v1 : Value), v4 = .int .i64 i ∧ Aside0 (spec_l11DrawOk.l0 kq s0_0 ns ls i s1 s2 = some (r0, r1, r2, r3)) ∧ Aside0 (kq ≤ k) ∧ Aside0 (DrInv w0 w g b b2 w' s0_0 s1 s2 v0 v1 ns ls))
 case atStart => exact ⟨[], [], t1, t2, t3, _, _, Qf0_, H', ⟨Nat.le_refl _⟩, HD⟩
 case round =>
  clear H' HD A1
  obtain ⟨ns, ls, i, s1, s2, v0, v1, rfl, HA, HK1, HD⟩ := hrel
  cases gk with
  | zero => exact absurd HA.out (by simp [spec_l11DrawOk.l0])
  | succ k1 =>
   have H := HA.out
   clear HA
   simp only [spec_l11DrawOk.l0] at H
   by_cases c1 : i > 0
   ·rw [if_pos c1] at H
    have c1b0 := decide_eq_true c1
    clear c1
    obtain ⟨⟨t4, t5, t6⟩, A2, H⟩ := Option.bind_eq_some_iff.mp H
    obtain ⟨⟨t7, t8, t9⟩, A3, H⟩ := Option.bind_eq_some_iff.mp H
    obtain ⟨⟨t10, t11, t12⟩, A4, H⟩ := Option.bind_eq_some_iff.mp H
    have A2 := Aside0.mk A2
    have A3 := Aside0.mk (show spec_l11DrawFew.f k1 s0_0 t5 t6 = some (t7, t8, t9) from A3)
    have A4 := Aside0.mk (show spec_l11Set.f k1 ns ls t4 t7 true = some (t10, t11, t12) from A4)
    have H' := Aside0.mk (show spec_l11DrawOk.l0 k1 s0_0 t11 t12 (wrap64 (i - 1)) t8 t9 = some (r0, r1, r2, r3) from H)
    clear H
    obtain ⟨yl, hyl⟩ : ∃ y : List ByteArray, y = ([(⟨#[97]⟩ : ByteArray), (⟨#[98]⟩ : ByteArray), (⟨#[119, 105, 114, 101]⟩ : ByteArray), (⟨#[120]⟩ : ByteArray), (⟨#[102, 97, 114]⟩ : ByteArray)] : List ByteArray) := ⟨_, rfl⟩
    have NL := Aside0.mk hyl
    rw [← hyl] at A2
    clear hyl
    go_wp2_with (first | ((with_reducible refine gate_dst (N := 14) rfl ?_); refine Kd.R_lit Kd.string _ 9 ?hg (N := 14) ?hd (xs := ([(⟨#[97]⟩ : ByteArray), (⟨#[98]⟩ : ByteArray), (⟨#[119, 105, 114, 101]⟩ : ByteArray), (⟨#[120]⟩ : ByteArray), (⟨#[102, 97, 114]⟩ : ByteArray)] : List ByteArray)) (inner := [.string (⟨#[97]⟩ : ByteArray), .string (⟨#[98]⟩ : ByteArray), .string (⟨#[119, 105, 114, 101]⟩ : ByteArray), .string (⟨#[120]⟩ : ByteArray), .string (⟨#[102, 97, 114]⟩ : ByteArray)]) (ok := fun _ => True) (okp := fun _ => True) ?hr ?hp (fun _ hk => hk) trivial (Below.refl _ _) (Nat.le_refl _) (by simp) ?_; (case hd => rfl); (case hg => rfl); (case hr => exact Qj0_); (case hp => exact (Reps.one (show Kd.M Kd.string _ _ _ (⟨#[97]⟩ : ByteArray) [.string (⟨#[97]⟩ : ByteArray)] from rfl) (Reps.one (show Kd.M Kd.string _ _ _ (⟨#[98]⟩ : ByteArray) [.string (⟨#[98]⟩ : ByteArray)] from rfl) (Reps.one (show Kd.M Kd.string _ _ _ (⟨#[119, 105, 114, 101]⟩ : ByteArray) [.string (⟨#[119, 105, 114, 101]⟩ : ByteArray)] from rfl) (Reps.one (show Kd.M Kd.string _ _ _ (⟨#[120]⟩ : ByteArray) [.string (⟨#[120]⟩ : ByteArray)] from rfl) (Reps.one (show Kd.M Kd.string _ _ _ (⟨#[102, 97, 114]⟩ : ByteArray) [.string (⟨#[102, 97, 114]⟩ : ByteArray)] from rfl) (Reps.none _ _))))))); intro v14 w14 ho hb hg_ hnew_; clear hg_ hnew_; (first | rw [← NL.out] at ho | (simp only [Int.reduceToNat] at ho; rw [← NL.out] at ho)); have n0_ := Aside0.mk (DrInv.below HD.out hb); have n1_ := Aside0.mk (Kd.R_lower ho (Nat.zero_le _)); clear HD hb ho; have HD := n0_; have HO := n1_; clear n0_ n1_; obtain ⟨Al, cl, el⟩ := Kd.R_slice HO.out; subst el) | ((with_reducible refine gate_callee (f := 21) rfl ?_); refine goesL_ (some 15) rfl rfl Tryz.func21 Ql0_ rfl #[.pointer (some ⟨g, 0, none⟩), .slice Al yl.length cl] rfl Qc1_ ?_; (with_reducible refine (spec_l00Src_text.calls g s0_0 s1 s2 _ _ yl t4 t5 t6 w0 _ ?side1 ?side2 ?side3 ?side4 ?side5 A2.out).mono ?_); (case side1 => exact Qe1_); (case side2 => exact Qh1_); (case side3 => exact (Kd.R_reads' HO.out).2.2); (case side4 => exact (Kd.R_reads' HO.out).2.1); (case side5 => exact far_slice (IsS53.own_ne HD.out.1 HO.out (by decide))); rintro e w15 ⟨rfl, hi, hb, hk⟩; refine ⟨_, rfl, ?_⟩; have n0_ := Aside0.mk (DrInv.state HD.out hi hb hk); clear HD HO hi hb hk; have HD := n0_; clear n0_) | ((with_reducible refine gate_callee (f := 23) rfl ?_); refine goesL_ (some 18) rfl rfl Tryz.func23 Ql0_ rfl #[.pointer (some ⟨g, 0, none⟩)] rfl Qc1_ ?_; (with_reducible refine (spec_l11DrawFew.calls k1 g s0_0 t5 t6 t7 t8 t9 w0 _ ?side1 ?side2 A3.out).mono ?_); (case side1 => exact Qe1_); (case side2 => exact Qh1_); rintro e w18 ⟨rfl, hi, hb, hk⟩; refine ⟨_, rfl, ?_⟩; have n0_ := Aside0.mk (DrInv.state HD.out hi hb hk); clear HD hi hb hk; have HD := n0_; clear n0_) | ((with_reducible refine gate_callee (f := 22) rfl ?_); refine goesL_ (some 19) rfl rfl Tryz.func22 Ql0_ rfl #[.pointer (some ⟨b, 0, none⟩), .string t4, .string t7, .bool true] rfl Qc1_ ?_; (with_reducible refine (spec_l11Set.calls k1 b v0 v1 ns ls t4 t7 true t10 t11 t12 w0 _ ?side1 ?side2 A4.out).mono ?_); (case side1 => exact HD.out.2.1); (case side2 => exact Qh1_); rintro e w19 ⟨rfl, v0', v1', hC, hkp, hn0, hn1, hb⟩; refine ⟨_, rfl, ?_⟩; have n0_ := Aside0.mk (DrInv.set HD.out hC hkp hn0 hn1 hb); clear HD hC hkp hn0 hn1 hb; have HD := n0_; clear n0_))
    go_roundg k1
    case measure => have := HK1.out; omega
    case rel => exact ⟨t11, t12, wrap64 (i - 1), t8, t9, _, _, Qf0_, H', ⟨Qs0_⟩, HD⟩
   ·rw [if_neg c1] at H
    have c1b0 := decide_eq_false c1
    clear c1
    simp only [Option.some.injEq, Prod.mk.injEq] at H
    obtain ⟨rfl, rfl, rfl, rfl⟩ := H
    have hcon := HD.out.2.1
    obtain ⟨hc1, hbb, hc3, hc4, hc5⟩ := hcon
    obtain ⟨a0, d0, e0⟩ := Kd.R_slice hc3
    obtain ⟨a1, d1, e1⟩ := Kd.R_slice hc4
    subst e0
    subst e1
    have hbc := HD.out.2.2.1
    clear hc1 hc3 hc4 hc5
    go_wp2_with (first | ((with_reducible refine gate_dst (N := 20) rfl ?_); refine wpList_load_row rfl 26 (.tmp 3) rfl b rfl 26 #[.slice a0 ns.length d0, .slice a1 ls.length d1] (0, 0) _ hbb hu27 rfl Ql0_ ?_) | ((with_reducible refine gate_store (t := 26) (p := 2) rfl ?_); refine wpList_store_row rfl 26 (.tmp 2) (.tmp 20) rfl b2 #[.slice a0 ns.length d0, .slice a1 ls.length d1] rfl rfl 26 _ hbc Ql0_ rfl (by first | rfl | kernel_rfl | simp [Value.oneCell']) ?_))
    (try simp only [Exit.inBlock, Exit.then])
    refine bodyPost_ret (results_cell_row rfl _ _ b2 26 #[.slice a0 ns.length d0, .slice a1 ls.length d1] (0, 0) _ rfl (setRow_heap _ _ _ _ _ _ hbc) Tryz.underlying26 rfl Ql0_) rfl ?_
    exact ⟨_, _, rfl, DrInv.fin HD.out HW0.out _⟩
def spec_B10Console.f (k : Nat) (l0 : List Int) : Option (List ByteArray × List ByteArray) := (spec_l00From.f l0).bind fun bt => ((spec_l11DrawOk.f k bt.1 bt.2.1 bt.2.2).bind fun b2 => (some (b2.1, b2.2.1)))
theorem bc_store {w0 w1 : World} {b2 : Nat} {v : Value} {xs : List ByteArray} {cs0 cs : Array Value} (h : Kd.R Kd.string 9 w1 w0.heap.size (fun _ => True) v xs) (hb : w1.heap[b2]? = some (.cells cs0 26 (0, 0))) : Kd.R Kd.string 9 (w1.setRow b2 cs) w0.heap.size (fun _ => True) v xs :=
 str_row h (fun k e => setRow_other _ _ _ _ (fun e2 => str_ne h hb (by decide) (e.trans (by rw [e2]))))
set_option maxHeartbeats 8000000 in
set_option maxRecDepth 100000 in
theorem spec_B10Console.calls (k : Nat) (A0 : Option Addr) (c0 : Nat) (l0 : List Int) (r0 r1 : List ByteArray) (w : World) (hr0 : Kd.C (Kd.int .u8) w A0 l0.length l0) (hc0 : l0.length ≤ c0) (h : spec_B10Console.f k l0 = some (r0, r1)) :
 Calls Tryz.prog 5 #[.slice A0 l0.length c0] w fun e w' => ∃ v0 v1 : Value, e = .returned (.agg #[v0, v1]) ∧ Kd.R Kd.string 9 w' w.heap.size (fun k_ => some k_ ≠ (v1 : Value).ownBlock) v0 r0 ∧ Kd.R Kd.string 9 w' w.heap.size (fun k_ => some k_ ≠ (v0 : Value).ownBlock) v1 r1 ∧ Below w.heap.size w w' := by
 have hu27 := Tryz.underlying26
 have HR0 := Aside0.mk hr0
 have HC0 := Aside0.mk hc0
 clear hr0 hc0
 obtain ⟨⟨t1, t2, t3⟩, A1, H⟩ := Option.bind_eq_some_iff.mp h
 obtain ⟨⟨t4, t5, t6, t7⟩, A2, H⟩ := Option.bind_eq_some_iff.mp H
 have A1 := Aside0.mk A1
 have A2 := Aside0.mk (show spec_l11DrawOk.f k t1 t2 t3 = some (t4, t5, t6, t7) from A2)
 simp only [Option.some.injEq, Prod.mk.injEq] at H
 obtain ⟨rfl, rfl⟩ := H
 clear h
 have HB0 := Aside0.mk (Below.refl w.heap.size w)
 go_enter Tryz.func5, Tryz.ntmps5
 go_wp2_with (first | (go_at_call 10; (with_reducible refine (spec_l00From.calls A0 c0 l0 t1 t2 t3 w _ ?side1 ?side2 ?side3 A1.out).mono ?_); (case side1 => repeat (first | (with_reducible first | exact HB0.out | apply below_alloc | apply pw_below_drewN | apply below_drew1) | exact HB0.out)); (case side2 => exact HR0.out); (case side3 => exact HC0.out); rintro e w5 ⟨g, rfl, hi, hb, hb2⟩; have HI := Aside0.mk hi; have HB := Aside0.mk hb; have HB2 := Aside0.mk ((hb2.block w.heap.size (by first | exact Nat.lt_of_lt_of_eq (Nat.lt_succ_self _) (Array.size_push _).symm | (simp; done))).trans (heap_alloc_new w _)); clear hi hb hb2) | ((with_reducible refine gate_callee (f := 11) rfl ?_); refine goesL_ (some 7) rfl rfl Tryz.func11 Ql0_ rfl #[.pointer (some ⟨g, 0, none⟩)] rfl Qc1_ ?_; (with_reducible refine (spec_l11DrawOk.calls k g t1 t2 t3 t4 t5 t6 t7 w _ ?side1 ?side2 A2.out).mono ?_); (case side1 => repeat (first | (with_reducible first | exact HI.out | apply IsS53.alloc | apply IsS53.drewN | apply IsS53.drew) | exact HI.out)); (case side2 => exact Qa0_); rintro e w7 ⟨v0, v1, rfl, hv0, hv1, hap, hi, hb, hk⟩; refine ⟨_, rfl, ?_⟩; have n0_ := Aside0.mk ((hk.2 w.heap.size (blk_lt HB2.out) (dr_ne HI.out HB2.out) (by simp)).trans HB2.out); clear HB2 HI HB; have HB2 := n0_; have HB := Aside0.mk hb; have HV0 := Aside0.mk hv0; have HV1 := Aside0.mk hv1; have HAP := Aside0.mk hap; clear n0_ hv0 hv1 hap hi hb hk; obtain ⟨a0, d0, e0⟩ := Kd.R_slice HV0.out; obtain ⟨a1, d1, e1⟩ := Kd.R_slice HV1.out; subst e0; subst e1) | ((with_reducible refine gate_store (t := 26) (p := 2) rfl ?_); refine wpList_store_row rfl 26 (.tmp 2) (.tmp 7) rfl w.heap.size #[.slice a0 t4.length d0, .slice a1 t5.length d1] rfl rfl 26 _ HB2.out Ql0_ rfl (by first | rfl | kernel_rfl | simp [Value.oneCell']) ?_))
 (try simp only [Exit.inBlock, Exit.then])
 refine bodyPost_ret (results_cell_row rfl _ _ w.heap.size 26 #[.slice a0 t4.length d0, .slice a1 t5.length d1] (0, 0) _ rfl (setRow_heap _ _ _ _ _ _ HB2.out) Tryz.underlying26 rfl Ql0_) rfl ?_
 exact ⟨_, _, rfl, Kd.R_of_own (Kd.own_of_R (bc_store HV0.out HB2.out)) (fun k e => fun e2 => HAP.out k e e2.symm), Kd.R_of_own (Kd.own_of_R (bc_store HV1.out HB2.out)) (fun k e => fun e2 => HAP.out k e2.symm e), below_setRow HB.out (Nat.le_refl _) _⟩
def spec_l11Show.f (a0 : ByteArray) : Option (ByteArray) := if a0.toList = ([] : List UInt8) then (some (⟨#[110, 111, 110, 101]⟩ : ByteArray)) else (some a0)
set_option maxHeartbeats 8000000 in
set_option maxRecDepth 100000 in
theorem spec_l11Show.calls (a0 : ByteArray) (r : ByteArray) (w : World) (h : spec_l11Show.f a0 = some r) :
 Calls Tryz.prog 26 #[.string a0] w fun e w' => e = .returned (.string r) ∧ Drawn0 w w' := by
 have H : (if a0.toList = ([] : List UInt8) then (some (⟨#[110, 111, 110, 101]⟩ : ByteArray)) else (some a0)) = some r := h
 clear h
 by_cases c2 : a0.toList = ([] : List UInt8)
 ·rw [if_pos c2] at H
  have c2b0 := beq_iff_eq.mpr c2
  have c2b1 := bne_eq_false_iff_eq.mpr c2
  clear c2
  obtain rfl := Option.some.inj H
  go_enter Tryz.func26, Tryz.ntmps26
  go_wp2
  go_ret
  exact ⟨Qf0_, Qk0_⟩
 ·rw [if_neg c2] at H
  have c2b0 := beq_eq_false_iff_ne.mpr c2
  have c2b1 := bne_iff_ne.mpr c2
  obtain rfl := Option.some.inj H
  go_enter Tryz.func26, Tryz.ntmps26
  go_wp2
  go_ret
  exact ⟨Qf0_, Qk0_⟩
end Go.Proofs.YtdaeioklcilipaaGreatDoor.QFnConsole
