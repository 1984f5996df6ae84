/- Made small by wip/pack.py: lemmas and contracts that the law's row leans on. -/
import Derived.Test.YtbjmbfjbjkhhdaaGreatDoorZFnTopOfAll27
import Derived.Test.YtbjmbfjbjkhhdaaGreatDoorZFnTopOfAll31
import Derived.Test.YtbjmbfjbjkhhdaaGreatDoorZFnTopOfAll32
namespace Go.Proofs.YtbjmbfjbjkhhdaaGreatDoor.QFnTopOfAll
open Go.RowKit Go.Proofs.YtbjmbfjbjkhhdaaGreatDoorW.PrintWords Go.Proofs.YtbjmbfjbjkhhdaaGreatDoorW.PrintLast Go.Proofs.YtbjmbfjbjkhhdaaGreatDoorW.PrintMore
attribute [local go_sem] max2_int min2_int max_two min_two max_three min_three max_four min_four
set_option linter.unusedVariables false
set_option linter.unusedSimpArgs false
def spec_l03Encode.l0 : Nat → Int → List ByteArray → List ByteArray → List Int → ByteArray → Int → Int → Option (ByteArray × Int × Bool)
 | 0, _, _, _, _, _, _, _ => none
 | k + 1, d, mi, pl, ds, out, st, i => if i < (ds.length : Int) then (if 0 ≤ i then ((spec_l00In.f (rd ds i) 0 (wrap64 ((shl .i64 1 d) - 1))).bind fun t => (if t = true then (if 0 ≤ (rd ds i) then (if (rd ds i) < ((if st < 0 then mi else pl).length : Int) then (if out.size ≤ 100000 ∧ (rdOf ByteArray.empty (if st < 0 then mi else pl) (rd ds i)).size ≤ 100000 then ((spec_l03Next.f k st (rdOf ByteArray.empty (if st < 0 then mi else pl) (rd ds i))).bind fun s => (spec_l03Encode.l0 k d mi pl ds (out ++ (rdOf ByteArray.empty (if st < 0 then mi else pl) (rd ds i))) s (wrap64 (i + 1)))) else (none)) else (none)) else (none)) else (some ((⟨#[]⟩ : ByteArray), 0, false)))) else (none)) else (some (out, st, true))
def spec_l03Encode.f (k : Nat) (d wd : Int) (mi pl : List ByteArray) (st : Int) (ds : List Int) : Option (ByteArray × Int × Bool) := if 0 ≤ d ∧ d ≤ 60 ∧ 1 ≤ wd ∧ wd ≤ 1000 then (if (ds.length : Int) > 400 / wd then (some ((⟨#[]⟩ : ByteArray), 0, false)) else (spec_l03Encode.l0 k d mi pl ds (⟨#[]⟩ : ByteArray) st 0)) else none
set_option maxHeartbeats 8000000 in
set_option maxRecDepth 100000 in
theorem spec_l03Encode.calls (k b : Nat) (d wd : Int) (A2 : Option Addr) (c2 : Nat) (mi : List ByteArray) (A3 : Option Addr) (c3 : Nat) (pl : List ByteArray) (st0 : Int) (A4 : Option Addr) (c4 : Nat) (ds : List Int) (r1 : ByteArray) (r2 : Int) (r3 : Bool) (w : World) (h0 : w.cell? ⟨b, 0, none⟩ = some (.int .i64 d)) (h1 : w.cell? ⟨b, 1, none⟩ = some (.int .i64 wd)) (h2 : w.cell? ⟨b, 2, none⟩ = some (.slice A2 mi.length c2)) (h3 : w.cell? ⟨b, 3, none⟩ = some (.slice A3 pl.length c3)) (hr2 : Kd.C Kd.string w A2 mi.length mi) (hc2 : mi.length ≤ c2) (hr3 : Kd.C Kd.string w A3 pl.length pl) (hc3 : pl.length ≤ c3) (hr4 : Kd.C (Kd.int .i64) w A4 ds.length ds) (hc4 : ds.length ≤ c4) (h : spec_l03Encode.f k d wd mi pl st0 ds = some (r1, r2, r3)) :
 Calls Tryz.prog 34 #[.pointer (some ⟨b, 0, none⟩), .int .i64 st0, .slice A4 ds.length c4] w fun e w' => e = .returned (.tuple #[.string r1, .int .i64 r2, .bool r3]) ∧ Drawn0 w w' := by
 have hu := Tryz.underlying25
 have HR2 := Aside0.mk hr2
 have HC2 := Aside0.mk hc2
 have HR3 := Aside0.mk hr3
 have HC3 := Aside0.mk hc3
 have HR4 := Aside0.mk hr4
 have HC4 := Aside0.mk hc4
 clear hr2 hc2 hr3 hc3 hr4 hc4
 unfold spec_l03Encode.f at h
 by_cases c0 : 0 ≤ d ∧ d ≤ 60 ∧ 1 ≤ wd ∧ wd ≤ 1000
 rotate_left
 ·rw [if_neg c0] at h
  cases h
 rw [if_pos c0] at h
 have c0b2 : (wd == 0) = false := beq_eq_false_iff_ne.2 (by omega)
 have c0b3 : wd ≠ 0 := by omega
 have c0b4 : 1 ≤ wd := c0.2.2.1
 obtain ⟨ji, hji⟩ : ∃ j_ : Int, (shl .i64 1 d) = j_ := ⟨_, rfl⟩
 have hdu : IntKind.u64.wrap d = d := u64_small (by omega) (by omega)
 have hji_ : (IntKind.i64.wrap (1 * 2 ^ min d.toNat 64)) = ji := hji
 have hjiz : (IntKind.i64.wrap (1 * 2 ^ d.toNat)) = ji := shl_small hji (show d ≤ 64 by omega)
 have hjiu : (IntKind.i64.wrap (2 ^ min d.toNat 64)) = ji := by have h_ := hji_; rw [Int.one_mul] at h_; exact h_
 have hjiv : (IntKind.i64.wrap (2 ^ d.toNat)) = ji := by have h_ := hjiz; rw [Int.one_mul] at h_; exact h_
 have hjiy : (wrap64 (1 * 2 ^ min d.toNat 64)) = ji := (i64_w _).symm.trans hji_
 have hjix : (wrap64 (1 * 2 ^ d.toNat)) = ji := (i64_w _).symm.trans hjiz
 obtain ⟨jm, hjm⟩ : ∃ j_ : Int, wrap64 (ji - 1) = j_ := ⟨_, rfl⟩
 have hjmw : (IntKind.i64.wrap (ji - 1)) = jm := (i64_w _).trans hjm
 obtain ⟨jq, hjq⟩ : ∃ j_ : Int, 400 / wd = j_ := ⟨_, rfl⟩
 rw [hjq] at h
 have hjq0 : 0 ≤ jq := by rw [← hjq]; exact Int.ediv_nonneg (by decide) (by omega)
 have hjq1 : jq ≤ 400 := by rw [← hjq]; exact Int.ediv_le_self _ (by decide)
 have hjqt : Int.tdiv 400 wd = jq := by rw [← hjq]; exact Int.tdiv_eq_ediv_of_nonneg (by decide)
 have c0b0 := eq_true c0.1
 have c0b1 : decide (0 ≤ d) = true := decide_eq_true c0.1
 have c064t : (d ≤ 64) = True := eq_true (by omega)
 clear c0
 by_cases c4 : (ds.length : Int) > jq
 ·rw [if_pos c4] at h
  simp only [Option.some.injEq, Prod.mk.injEq] at h
  obtain ⟨rfl, rfl, rfl⟩ := h
  have c4b0 := decide_eq_true c4
  clear c4
  go_enter Tryz.func34, Tryz.ntmps34
  go_wp2
  go_ret3
  exact ⟨Qc0_, Qd0_⟩
 rw [if_neg c4] at h
 have c4b0 := decide_eq_false c4
 clear c4
 have H' := Aside0.mk h
 clear h
 go_enter Tryz.func34, Tryz.ntmps34
 go_wp2
 go_loopg [1, 9, 10] k (fun kq v1 v9 v10 w' => ∃ (out : ByteArray) (st i : Int), v1 = .int .i64 st ∧ v9 = .string out ∧ v10 = .int .i64 i ∧ Aside0 (spec_l03Encode.l0 kq d mi pl ds out st i = some (r1, r2, r3)) ∧ Aside0 (kq ≤ k) ∧ Drawn0 w w')
 case atStart => exact ⟨(⟨#[]⟩ : ByteArray), st0, 0, Qc0_, Qc0_, Qc0_, H', ⟨Nat.le_refl _⟩, Qd0_⟩
 case round =>
  clear H' c0b2 c0b3 c0b4 c4b0 hjq hjqt hjq0 hjq1
  obtain ⟨out, st, i, rfl, rfl, rfl, HA, HK1, ⟨m1, rfl⟩⟩ := hrel
  cases gk with
  | zero => exact absurd HA.out (by simp [spec_l03Encode.l0])
  | succ k1 =>
   have H := HA.out
   clear HA
   simp only [spec_l03Encode.l0, hji, hjm] at H
   by_cases d1 : i < (ds.length : Int)
   rotate_left
   ·rw [if_neg d1] at H
    simp only [Option.some.injEq, Prod.mk.injEq] at H
    obtain ⟨rfl, rfl, rfl⟩ := H
    have d1b0 : decide (i < (ds.length : Int)) = false := decide_eq_false d1
    clear d1
    go_wp2
    go_ret3
    exact ⟨Qc0_, Qd0_⟩
   rw [if_pos d1] at H
   have d1b0 : decide (i < (ds.length : Int)) = true := decide_eq_true d1
   by_cases d2 : 0 ≤ i
   rotate_left
   ·rw [if_neg d2] at H
    exact absurd H (by simp)
   rw [if_pos d2] at H
   obtain ⟨ad1, e1, hx1⟩ := Kd.at_int HR4.out i d2 d1
   cases e1
   have p1 := eq_true d2
   have q1 := eq_true d1
   clear d1 d2
   obtain ⟨x, hx⟩ : ∃ x : Int, x = rd ds i := ⟨_, rfl⟩
   rw [← hx] at H hx1
   clear hx
   obtain ⟨t, A2, H⟩ := Option.bind_eq_some_iff.mp H
   have A2_ := Aside0.mk A2
   clear A2
   cases t with
   | false =>
    rw [if_neg (show ¬ (false = true) by decide)] at H
    simp only [Option.some.injEq, Prod.mk.injEq] at H
    obtain ⟨rfl, rfl, rfl⟩ := H
    go_wp2
    go_quiet (first | (go_at_call 70; (with_reducible refine (spec_l00In.calls x 0 jm false _ A2_.out).mono ?_); rintro e w2_ ⟨rfl, ⟨nd2, rfl⟩⟩; (try first | exact ⟨rfl, _, World.drewN_drewN _ _ _⟩ | exact ⟨rfl, _, Eq.trans (World.drewN_drewN _ _ _) (congrArg (World.drewN _) (Nat.add_assoc _ _ _))⟩)))
    go_wp2
    go_ret3
    exact ⟨Qc0_, Qd0_⟩
   | true =>
   rw [if_pos rfl] at H
   by_cases d3 : 0 ≤ x
   rotate_left
   ·rw [if_neg d3] at H
    exact absurd H (by simp)
   rw [if_pos d3] at H
   by_cases hst : st < 0
   ·have hs0 : decide (st < 0) = true := decide_eq_true hst
    simp only [if_pos hst] at H
    by_cases d4 : x < (mi.length : Int)
    rotate_left
    ·rw [if_neg d4] at H
     exact absurd H (by simp)
    rw [if_pos d4] at H
    obtain ⟨ad2, e2, hx2⟩ := Kd.at_string HR2.out x d3 d4
    cases e2
    have p2 := eq_true d3
    have q2 := eq_true d4
    clear d3 d4
    obtain ⟨y, hy⟩ : ∃ y : ByteArray, y = rdOf ByteArray.empty mi x := ⟨_, rfl⟩
    rw [← hy] at H hx2
    clear hy
    by_cases d5 : out.size ≤ 100000 ∧ y.size ≤ 100000
    rotate_left
    ·rw [if_neg d5] at H
     exact absurd H (by simp)
    rw [if_pos d5] at H
    have hsz : out.size + y.size ≤ 9223372036854775807 := by omega
    have hsz2 : (9223372036854775807 < out.size + y.size) = False := eq_false (by omega)
    clear d5
    obtain ⟨s, A3, H⟩ := Option.bind_eq_some_iff.mp H
    have A3_ := Aside0.mk A3
    clear A3
    have H' := Aside0.mk H
    clear H
    go_wp2
    go_quiet (first | (go_at_call 70; (with_reducible refine (spec_l00In.calls x 0 jm true _ A2_.out).mono ?_); rintro e w2_ ⟨rfl, ⟨nd2, rfl⟩⟩; (try first | exact ⟨rfl, _, World.drewN_drewN _ _ _⟩ | exact ⟨rfl, _, Eq.trans (World.drewN_drewN _ _ _) (congrArg (World.drewN _) (Nat.add_assoc _ _ _))⟩)))
    go_wp2
    go_quiet (first | (go_at_call 73; refine (spec_l03List.calls b (some ad2) mi.length c2 A3 pl.length c3 st _ ?g2 ?g3).mono ?_; (case g2 => exact h2); (case g3 => exact h3); rw [if_pos (show st < 0 by omega)]; rintro e w3_ ⟨rfl, ⟨nd3, rfl⟩⟩; (try first | exact ⟨rfl, _, World.drewN_drewN _ _ _⟩ | exact ⟨rfl, _, Eq.trans (World.drewN_drewN _ _ _) (congrArg (World.drewN _) (Nat.add_assoc _ _ _))⟩)))
    go_wp2_with (first | (go_at_call 74; (with_reducible refine (spec_l03Next.calls k1 st y s _ A3_.out).mono ?_); rintro e w4_ ⟨rfl, ⟨nd4, rfl⟩⟩))
    go_roundg k1
    case measure => have := HK1.out; omega
    case rel => exact ⟨(out ++ y), s, (wrap64 (i + 1)), Qc0_, Qc0_, Qc0_, H', ⟨Qp0_⟩, Qd0_⟩
   ·have hs0 : decide (st < 0) = false := decide_eq_false hst
    simp only [if_neg hst] at H
    by_cases d4 : x < (pl.length : Int)
    rotate_left
    ·rw [if_neg d4] at H
     exact absurd H (by simp)
    rw [if_pos d4] at H
    obtain ⟨ad2, e2, hx2⟩ := Kd.at_string HR3.out x d3 d4
    cases e2
    have p2 := eq_true d3
    have q2 := eq_true d4
    clear d3 d4
    obtain ⟨y, hy⟩ : ∃ y : ByteArray, y = rdOf ByteArray.empty pl x := ⟨_, rfl⟩
    rw [← hy] at H hx2
    clear hy
    by_cases d5 : out.size ≤ 100000 ∧ y.size ≤ 100000
    rotate_left
    ·rw [if_neg d5] at H
     exact absurd H (by simp)
    rw [if_pos d5] at H
    have hsz : out.size + y.size ≤ 9223372036854775807 := by omega
    have hsz2 : (9223372036854775807 < out.size + y.size) = False := eq_false (by omega)
    clear d5
    obtain ⟨s, A3, H⟩ := Option.bind_eq_some_iff.mp H
    have A3_ := Aside0.mk A3
    clear A3
    have H' := Aside0.mk H
    clear H
    go_wp2
    go_quiet (first | (go_at_call 70; (with_reducible refine (spec_l00In.calls x 0 jm true _ A2_.out).mono ?_); rintro e w2_ ⟨rfl, ⟨nd2, rfl⟩⟩; (try first | exact ⟨rfl, _, World.drewN_drewN _ _ _⟩ | exact ⟨rfl, _, Eq.trans (World.drewN_drewN _ _ _) (congrArg (World.drewN _) (Nat.add_assoc _ _ _))⟩)))
    go_wp2
    go_quiet (first | (go_at_call 73; refine (spec_l03List.calls b A2 mi.length c2 (some ad2) pl.length c3 st _ ?g2 ?g3).mono ?_; (case g2 => exact h2); (case g3 => exact h3); rw [if_neg (show ¬ st < 0 by omega)]; rintro e w3_ ⟨rfl, ⟨nd3, rfl⟩⟩; (try first | exact ⟨rfl, _, World.drewN_drewN _ _ _⟩ | exact ⟨rfl, _, Eq.trans (World.drewN_drewN _ _ _) (congrArg (World.drewN _) (Nat.add_assoc _ _ _))⟩)))
    go_wp2_with (first | (go_at_call 74; (with_reducible refine (spec_l03Next.calls k1 st y s _ A3_.out).mono ?_); rintro e w4_ ⟨rfl, ⟨nd4, rfl⟩⟩))
    go_roundg k1
    case measure => have := HK1.out; omega
    case rel => exact ⟨(out ++ y), s, (wrap64 (i + 1)), Qc0_, Qc0_, Qc0_, H', ⟨Qp0_⟩, Qd0_⟩
def spec_EncodeBlocks.f (k : Nat) (d wd : Int) (mi pl : List ByteArray) (st : Int) (ds : List Int) : Option (ByteArray × Int × Bool) := (spec_l03Is.f k d wd mi pl).bind fun t1 => (if t1 = true then ((spec_l03State.f st).bind fun t2 => (if t2 = true then (spec_l03Encode.f k d wd mi pl st ds) else (some ((⟨#[]⟩ : ByteArray), 0, false)))) else (some ((⟨#[]⟩ : ByteArray), 0, false)))
set_option maxHeartbeats 8000000 in
set_option maxRecDepth 100000 in
theorem spec_EncodeBlocks.calls (k : Nat) (d wd : Int) (A2 : Option Addr) (c2 : Nat) (mi : List ByteArray) (A3 : Option Addr) (c3 : Nat) (pl : List ByteArray) (st : Int) (A4 : Option Addr) (c4 : Nat) (ds : List Int) (r1 : ByteArray) (r2 : Int) (r3 : Bool) (w : World) (hr2 : Kd.C Kd.string w A2 mi.length mi) (hc2 : mi.length ≤ c2) (hr3 : Kd.C Kd.string w A3 pl.length pl) (hc3 : pl.length ≤ c3) (hr4 : Kd.C (Kd.int .i64) w A4 ds.length ds) (hc4 : ds.length ≤ c4) (h : spec_EncodeBlocks.f k d wd mi pl st ds = some (r1, r2, r3)) :
 Calls Tryz.prog 7 #[.agg #[.int .i64 d, .int .i64 wd, .slice A2 mi.length c2, .slice A3 pl.length c3], .int .i64 st, .slice A4 ds.length c4] w fun e w' => e = .returned (.tuple #[.string r1, .int .i64 r2, .bool r3]) ∧ Below w.heap.size w w' := by
 have hu := Tryz.underlying25
 have HR2 := Aside0.mk hr2
 have HC2 := Aside0.mk hc2
 have HR3 := Aside0.mk hr3
 have HC3 := Aside0.mk hc3
 have HR4 := Aside0.mk hr4
 have HC4 := Aside0.mk hc4
 have HB := Aside0.mk (Below.refl w.heap.size w)
 clear hr2 hc2 hr3 hc3 hr4 hc4
 unfold spec_EncodeBlocks.f at h
 obtain ⟨t1, A1, h⟩ := Option.bind_eq_some_iff.mp h
 have A1_ := Aside0.mk A1
 clear A1
 cases t1 with
 | false =>
  replace h : some ((⟨#[]⟩ : ByteArray), (0 : Int), false) = some (r1, r2, r3) := h
  simp only [Option.some.injEq, Prod.mk.injEq] at h
  obtain ⟨rfl, rfl, rfl⟩ := h
  go_enter Tryz.func7, Tryz.ntmps7
  go_wp2_with (first | ((with_reducible refine gate_dst (N := 3) rfl ?_); (try (refine gate_guard (by rfl) ?_; dsimp only)); refine box_event ?hg (N := 3) ?hd (cs := #[.int .i64 d, .int .i64 wd, .slice A2 mi.length c2, .slice A3 pl.length c3]) (t := 25) ?hr ?_; (case hd => rfl); (case hg => rfl); (case hr => exact Qh0_); intro gb hggb w3 hbox hb; have n0_ := Aside0.mk (below_step Qa0_ hb); have n1_ := Aside0.mk (hbox); have HS2 := Aside0.mk (Kd.C_below HR2.out n0_.out); have HS3 := Aside0.mk (Kd.C_below HR3.out n0_.out); have HS4 := Aside0.mk (Kd.C_below HR4.out n0_.out); clear HB; have HB := n0_; have BKgb := n1_; clear n0_ n1_; clear hb hbox hggb; have hz0 : w3.cell? ⟨gb, 0, none⟩ = some (.int .i64 d) := (blk_cell BKgb.out 0).trans rfl; have hz1 : w3.cell? ⟨gb, 1, none⟩ = some (.int .i64 wd) := (blk_cell BKgb.out 1).trans rfl; have hz2 : w3.cell? ⟨gb, 2, none⟩ = some (.slice A2 mi.length c2) := (blk_cell BKgb.out 2).trans rfl; have hz3 : w3.cell? ⟨gb, 3, none⟩ = some (.slice A3 pl.length c3) := (blk_cell BKgb.out 3).trans rfl) | (go_at_call 32; refine (spec_l03Is.calls k gb d wd A2 c2 mi A3 c3 pl false _ hz0 hz1 hz2 hz3 HS2.out HC2.out HS3.out HC3.out A1_.out).mono ?_; rintro e w4_ ⟨rfl, ⟨nd4, rfl⟩⟩))
  go_ret3
  exact ⟨Qc0_, Qa0_⟩
 | true =>
 rw [if_pos rfl] at h
 obtain ⟨t2, A2, h⟩ := Option.bind_eq_some_iff.mp h
 have A2_ := Aside0.mk A2
 clear A2
 cases t2 with
 | false =>
  replace h : some ((⟨#[]⟩ : ByteArray), (0 : Int), false) = some (r1, r2, r3) := h
  simp only [Option.some.injEq, Prod.mk.injEq] at h
  obtain ⟨rfl, rfl, rfl⟩ := h
  go_enter Tryz.func7, Tryz.ntmps7
  go_wp2_with (first | ((with_reducible refine gate_dst (N := 3) rfl ?_); (try (refine gate_guard (by rfl) ?_; dsimp only)); refine box_event ?hg (N := 3) ?hd (cs := #[.int .i64 d, .int .i64 wd, .slice A2 mi.length c2, .slice A3 pl.length c3]) (t := 25) ?hr ?_; (case hd => rfl); (case hg => rfl); (case hr => exact Qh0_); intro gb hggb w3 hbox hb; have n0_ := Aside0.mk (below_step Qa0_ hb); have n1_ := Aside0.mk (hbox); have HS2 := Aside0.mk (Kd.C_below HR2.out n0_.out); have HS3 := Aside0.mk (Kd.C_below HR3.out n0_.out); have HS4 := Aside0.mk (Kd.C_below HR4.out n0_.out); clear HB; have HB := n0_; have BKgb := n1_; clear n0_ n1_; clear hb hbox hggb; have hz0 : w3.cell? ⟨gb, 0, none⟩ = some (.int .i64 d) := (blk_cell BKgb.out 0).trans rfl; have hz1 : w3.cell? ⟨gb, 1, none⟩ = some (.int .i64 wd) := (blk_cell BKgb.out 1).trans rfl; have hz2 : w3.cell? ⟨gb, 2, none⟩ = some (.slice A2 mi.length c2) := (blk_cell BKgb.out 2).trans rfl; have hz3 : w3.cell? ⟨gb, 3, none⟩ = some (.slice A3 pl.length c3) := (blk_cell BKgb.out 3).trans rfl) | (go_at_call 32; refine (spec_l03Is.calls k gb d wd A2 c2 mi A3 c3 pl true _ hz0 hz1 hz2 hz3 HS2.out HC2.out HS3.out HC3.out A1_.out).mono ?_; rintro e w4_ ⟨rfl, ⟨nd4, rfl⟩⟩) | (go_at_call 33; (with_reducible refine (spec_l03State.calls st false _ A2_.out).mono ?_); rintro e w5_ ⟨rfl, ⟨nd5, rfl⟩⟩))
  go_ret3
  exact ⟨Qc0_, Qa0_⟩
 | true =>
 rw [if_pos rfl] at h
 have A3_ := Aside0.mk h
 clear h
 go_enter Tryz.func7, Tryz.ntmps7
 go_wp2_with (first | ((with_reducible refine gate_dst (N := 3) rfl ?_); (try (refine gate_guard (by rfl) ?_; dsimp only)); refine box_event ?hg (N := 3) ?hd (cs := #[.int .i64 d, .int .i64 wd, .slice A2 mi.length c2, .slice A3 pl.length c3]) (t := 25) ?hr ?_; (case hd => rfl); (case hg => rfl); (case hr => exact Qh0_); intro gb hggb w3 hbox hb; have n0_ := Aside0.mk (below_step Qa0_ hb); have n1_ := Aside0.mk (hbox); have HS2 := Aside0.mk (Kd.C_below HR2.out n0_.out); have HS3 := Aside0.mk (Kd.C_below HR3.out n0_.out); have HS4 := Aside0.mk (Kd.C_below HR4.out n0_.out); clear HB; have HB := n0_; have BKgb := n1_; clear n0_ n1_; clear hb hbox hggb; have hz0 : w3.cell? ⟨gb, 0, none⟩ = some (.int .i64 d) := (blk_cell BKgb.out 0).trans rfl; have hz1 : w3.cell? ⟨gb, 1, none⟩ = some (.int .i64 wd) := (blk_cell BKgb.out 1).trans rfl; have hz2 : w3.cell? ⟨gb, 2, none⟩ = some (.slice A2 mi.length c2) := (blk_cell BKgb.out 2).trans rfl; have hz3 : w3.cell? ⟨gb, 3, none⟩ = some (.slice A3 pl.length c3) := (blk_cell BKgb.out 3).trans rfl) | (go_at_call 32; refine (spec_l03Is.calls k gb d wd A2 c2 mi A3 c3 pl true _ hz0 hz1 hz2 hz3 HS2.out HC2.out HS3.out HC3.out A1_.out).mono ?_; rintro e w4_ ⟨rfl, ⟨nd4, rfl⟩⟩) | (go_at_call 33; (with_reducible refine (spec_l03State.calls st true _ A2_.out).mono ?_); rintro e w5_ ⟨rfl, ⟨nd5, rfl⟩⟩) | (go_at_call 34; refine (spec_l03Encode.calls k gb d wd A2 c2 mi A3 c3 pl st A4 c4 ds r1 r2 r3 _ ?y0 ?y1 ?y2 ?y3 ?e2 HC2.out ?e3 HC3.out ?e4 HC4.out A3_.out).mono ?_; (case y0 => exact hz0); (case y1 => exact hz1); (case y2 => exact hz2); (case y3 => exact hz3); (case e2 => repeat (first | exact HS2.out | (with_reducible refine Kd.C_drewN ?_ _))); (case e3 => repeat (first | exact HS3.out | (with_reducible refine Kd.C_drewN ?_ _))); (case e4 => repeat (first | exact HS4.out | (with_reducible refine Kd.C_drewN ?_ _))); rintro e w6_ ⟨rfl, ⟨nd6, rfl⟩⟩))
 go_ret3
 exact ⟨Qc0_, Qa0_⟩
def spec_l01List.l0 : Nat → List Int → Int → Option (Bool)
 | 0, _, _ => none
 | k + 1, x0, x3 => if x3 < (x0.length : Int) then (if 0 ≤ x3 then ((spec_l00In.f (rd x0 x3) (-1000000000000000) 1000000000000000).bind fun t180 => (if t180 = true then (spec_l01List.l0 k x0 (wrap64 (x3 + 1))) else (some false))) else (none)) else (some (decide ((x0.length : Int) ≤ 64)))
def spec_l01List.f (k : Nat) (l0 : List Int) : Option (Bool) := spec_l01List.l0 k l0 0
set_option maxHeartbeats 8000000 in
set_option maxRecDepth 100000 in
theorem spec_l01List.calls (k : Nat) (A0 : Option Addr) (c0 : Nat) (l0 : List Int) (r : Bool) (w : World) (hr0 : Kd.C (Kd.int .i64) w A0 l0.length l0) (hc0 : l0.length ≤ c0) (h : spec_l01List.f k l0 = some r) :
 Calls Tryz.prog 35 #[.slice A0 l0.length c0] w fun e w' => e = .returned (.bool r) ∧ Drawn0 w w' := by
 have HR0 := Aside0.mk hr0
 have HC0 := Aside0.mk hc0
 clear hr0 hc0
 have H : (spec_l01List.l0 k l0 0) = some r := h
 clear h
 have H' := Aside0.mk H
 clear H
 go_enter Tryz.func35, Tryz.ntmps35
 go_wp2
 go_loopg [3] k (fun kq v3 w' => ∃ (x3_1 : Int), v3 = .int .i64 x3_1 ∧ Aside0 (spec_l01List.l0 kq l0 x3_1 = some r) ∧ Aside0 (kq ≤ k) ∧ Drawn0 w w')
 case atStart => exact ⟨(0), Qc0_, H', ⟨Nat.le_refl _⟩, Qd0_⟩
 case round =>
  clear H'
  obtain ⟨x3_1, rfl, HA, HK1, ⟨m1, rfl⟩⟩ := hrel
  cases gk with
  | zero => exact absurd HA.out (by simp [spec_l01List.l0])
  | succ k1 =>
   have H := HA.out
   clear HA
   simp only [spec_l01List.l0] at H
   by_cases c2 : x3_1 < (l0.length : Int)
   ·rw [if_pos c2] at H
    have c2b0 := decide_eq_true c2
    clear c2
    by_cases c3 : 0 ≤ x3_1
    ·rw [if_pos c3] at H
     have c3b0 := decide_eq_true c3
     clear c3
     replace H := Option.bind_eq_some_iff.mp H
     obtain ⟨t180, A40, H⟩ := H
     try dsimp only at H
     have A4 := Aside0.mk A40
     clear A40
     by_cases c5 : t180 = true
     ·subst c5
      rw [if_pos rfl] at H
      have H1 := H
      clear H
      have H := H1
      clear H1
      have H' := Aside0.mk H
      clear H
      have p179 : 0 ≤ (x3_1 : Int) := of_decide_eq_true Qf0_
      have q179 : x3_1 < (l0.length : Int) := of_decide_eq_true Qf0_
      obtain ⟨ad179, e179, hx179_0⟩ := Kd.at_int HR0.out x3_1 p179 q179
      cases e179
      replace p179 := eq_true p179
      replace q179 := eq_true q179
      go_wp2_with (first | ((with_reducible refine gate_callee (f := 70) rfl ?_); refine goesL_ (some 14) rfl rfl Tryz.func70 Qi0_ rfl #[.int .i64 (rd l0 x3_1), .int .i64 (-1000000000000000), .int .i64 1000000000000000] rfl Qb0_ ?_; (with_reducible refine (spec_l00In.calls (rd l0 x3_1) (-1000000000000000) 1000000000000000 true _ A4.out).mono ?_); rintro e w' ⟨rfl, ⟨nd, rfl⟩⟩; refine ⟨_, rfl, ?_⟩))
      go_roundg k1
      case measure => have := HK1.out; omega
      case rel => exact ⟨(wrap64 (x3_1 + 1)), Qc0_, H', ⟨Qp0_⟩, Qd0_⟩
     ·replace c5 := Bool.eq_false_iff.mpr c5
      subst c5
      rw [if_neg (show ¬ (false = true) by decide)] at H
      have H1 := H
      clear H
      have H := H1
      clear H1
      obtain rfl := Option.some.inj H
      have p179 : 0 ≤ (x3_1 : Int) := of_decide_eq_true Qf0_
      have q179 : x3_1 < (l0.length : Int) := of_decide_eq_true Qf0_
      obtain ⟨ad179, e179, hx179_0⟩ := Kd.at_int HR0.out x3_1 p179 q179
      cases e179
      replace p179 := eq_true p179
      replace q179 := eq_true q179
      go_wp2_with (first | ((with_reducible refine gate_callee (f := 70) rfl ?_); refine goesL_ (some 14) rfl rfl Tryz.func70 Qi0_ rfl #[.int .i64 (rd l0 x3_1), .int .i64 (-1000000000000000), .int .i64 1000000000000000] rfl Qb0_ ?_; (with_reducible refine (spec_l00In.calls (rd l0 x3_1) (-1000000000000000) 1000000000000000 false _ A4.out).mono ?_); rintro e w' ⟨rfl, ⟨nd, rfl⟩⟩; refine ⟨_, rfl, ?_⟩))
      go_ret
      exact ⟨Qc0_, Qd0_⟩
    ·rw [if_neg c3] at H
     exact absurd H (by simp)
   ·rw [if_neg c2] at H
    have c2b0 := decide_eq_false c2
    clear c2
    obtain rfl := Option.some.inj H
    go_wp2
    go_ret
    exact ⟨Qc0_, Qd0_⟩
mutual
def spec_l01Dec.l0 : Nat → Int → List Int → Int → Option (ByteArray)
 | 0, _, _, _ => none
 | k + 1, x0, x3, x4 => if x4 = 0 then (if x0 < 0 then (if x3.length < 140737488355328 then (spec_l01Dec.j1 k (x3 ++ [45])) else (none)) else (spec_l01Dec.j1 k x3)) else (if (Int.tmod x4 10) < 0 then (if x3.length < 140737488355328 then (spec_l01Dec.l0 k x0 (x3 ++ [(wrap64 (48 + (wrap64 (-(Int.tmod x4 10))))) % 256]) (wrap64 (Int.tdiv x4 10))) else (none)) else (if x3.length < 140737488355328 then (spec_l01Dec.l0 k x0 (x3 ++ [(wrap64 (48 + (Int.tmod x4 10))) % 256]) (wrap64 (Int.tdiv x4 10))) else (none)))
def spec_l01Dec.j1 : Nat → List Int → Option (ByteArray)
 | 0, _ => none
 | k + 1, x3 => spec_l01Dec.l1 k x3 (([] : List Int)) (wrap64 ((x3.length : Int) - 1))
def spec_l01Dec.l1 : Nat → List Int → List Int → Int → Option (ByteArray)
 | 0, _, _, _ => none
 | k + 1, x3, x6, x7 => if x7 ≥ 0 then (if 0 ≤ x7 then (if x7 < (x3.length : Int) then (if x6.length < 140737488355328 then (spec_l01Dec.l1 k x3 (x6 ++ [rd x3 x7]) (wrap64 (x7 - 1))) else (none)) else (none)) else (none)) else (some (strOfNums x6))
end
def spec_l01Dec.f (k : Nat) (a0 : Int) : Option (ByteArray) := if a0 = 0 then (some (⟨#[48]⟩ : ByteArray)) else (spec_l01Dec.l0 k a0 (([] : List Int)) a0)
set_option maxHeartbeats 8000000 in
set_option maxRecDepth 100000 in
theorem spec_l01Dec.calls (k : Nat) (a0 : Int) (r : ByteArray) (w : World) (h : spec_l01Dec.f k a0 = some r) :
 Calls Tryz.prog 75 #[.int .i64 a0] w fun e w' => e = .returned (.string r) ∧ Below w.heap.size w w' := by
 have HB := Aside0.mk (Below.refl w.heap.size w)
 have H : (if a0 = 0 then (some (⟨#[48]⟩ : ByteArray)) else (spec_l01Dec.l0 k a0 (([] : List Int)) a0)) = some r := h
 clear h
 by_cases c2 : a0 = 0
 ·rw [if_pos c2] at H
  have c2b0 := beq_iff_eq.mpr c2
  have c2b1 := bne_eq_false_iff_eq.mpr c2
  clear c2
  obtain rfl := Option.some.inj H
  go_enter Tryz.func75, Tryz.ntmps75
  go_wp2
  go_ret
  exact ⟨Qe0_, Qa0_⟩
 ·rw [if_neg c2] at H
  have c2b0 := beq_eq_false_iff_ne.mpr c2
  have c2b1 := bne_iff_ne.mpr c2
  obtain ⟨y181, hy181⟩ : ∃ y_ : List Int, y_ = (([] : List Int)) := ⟨_, rfl⟩
  replace H : (spec_l01Dec.l0 k a0 y181 a0) = some r := by first | (rw [hy181]; with_reducible exact H) | (have H2_ := (Option.bind_some _ _).symm.trans H; rw [hy181]; with_reducible exact H2_) | (have H2_ := (Option.bind_some _ _).symm.trans H; with_reducible exact H2_) | with_reducible exact H | (rw [hy181]; exact H) | exact H
  have Ny181 := Aside0.mk hy181
  clear hy181
  have H' := Aside0.mk H
  clear H
  go_enter Tryz.func75, Tryz.ntmps75
  go_wp2_with (first | ((with_reducible refine gate_dst (N := 10) rfl ?_); refine Kd.R_lit (Kd.int .u8) _ 5 ?hg (N := 10) ?hd (xs := ([] : List Int)) (inner := []) (ok := fun _ => True) (okp := fun _ => True) ?hr ?hp (fun _ hk => hk) trivial (Below.refl _ _) (Nat.le_refl _) (by simp) ?_; (case hd => rfl); (case hg => rfl); (case hr => exact Qh0_); (case hp => exact (Reps.none _ _)); intro v182 w3 ho4 hb hg_ hnew_; clear hg_ hnew_; (first | rw [← Ny181.out] at ho4 | (simp only [Int.reduceToNat] at ho4; rw [← Ny181.out] at ho4)); have n0_ := Aside0.mk (Kd.R_lower ho4 (below_size Qa0_)); have n1_ := Aside0.mk (below_step Qa0_ hb); clear HB; have HO183 := n0_; have HB := n1_; clear n0_ n1_; clear hb ho4))
  go_loopg [3, 4] k (fun kq v3 v4 w' => ∃ (x3_1 : List Int) (x4_1 : Int), v4 = .int .i64 x4_1 ∧ Aside0 (spec_l01Dec.l0 kq a0 x3_1 x4_1 = some r) ∧ Aside0 (kq ≤ k) ∧ Aside0 (Kd.R (Kd.int .u8) 5 w' w.heap.size (fun _ => True) v3 x3_1) ∧ Aside0 (Below w.heap.size w w'))
  case atStart => exact ⟨(y181), (a0), Qc0_, H', ⟨Nat.le_refl _⟩, ⟨Qr_ HO183.out⟩, ⟨Qa0_⟩⟩
  case round =>
   clear H'
   try clear c2
   try clear c2b0
   try clear c2b1
   try clear p2
   obtain ⟨x3_1, x4_1, rfl, HA, HK1, HO_3, HB⟩ := hrel
   cases gk with
   | zero => exact absurd HA.out (by simp [spec_l01Dec.l0])
   | succ k1 =>
    have H := HA.out
    clear HA
    simp only [spec_l01Dec.l0] at H
    by_cases c5 : x4_1 = 0
    ·rw [if_pos c5] at H
     have c5b0 := beq_iff_eq.mpr c5
     have c5b1 := bne_eq_false_iff_eq.mpr c5
     clear c5
     have HC6 := Aside0.mk H
     clear H
     go_upto_if 29 with (fail)
     go_cut [3] (fun v3 wc => ∃ (kq : Nat) (x3_5 : List Int), Aside0 (spec_l01Dec.j1 kq x3_5 = some r) ∧ Aside0 (kq ≤ k1) ∧ Aside0 (Kd.R (Kd.int .u8) 5 wc w.heap.size (fun _ => True) v3 x3_5) ∧ Aside0 (Below w.heap.size w wc))
     case first =>
      have H := HC6.out
      clear HC6
      by_cases c7 : a0 < 0
      ·rw [if_pos c7] at H
       have c7b0 := decide_eq_true c7
       clear c7
       (first | rw [c7b0] | (simp only [i64_w, i32_w]; rw [c7b0]) | skip)
       by_cases c8 : x3_1.length < 140737488355328
       ·rw [if_pos c8] at H
        have LMc8 := Aside0.mk c8
        clear c8
        obtain ⟨y190, hy190⟩ : ∃ y_ : List Int, y_ = (x3_1 ++ [45]) := ⟨_, rfl⟩
        replace H : (spec_l01Dec.j1 k1 y190) = some r := by first | (rw [hy190]; with_reducible exact H) | (have H2_ := (Option.bind_some _ _).symm.trans H; rw [hy190]; with_reducible exact H2_) | (have H2_ := (Option.bind_some _ _).symm.trans H; with_reducible exact H2_) | with_reducible exact H | (rw [hy190]; exact H) | exact H
        have Ny190 := Aside0.mk hy190
        clear hy190
        have H' := Aside0.mk H
        clear H
        go_wp2_with (first | ((with_reducible refine gate_builtin (b := .append) (xs := #[.tmp 30, .tmp 31]) rfl ?_); at_builtin; refine Kd.R_append (Kd.int .u8) (w0 := w) w.heap.size rfl (.tmp 30) (.tmp 31) 59 5 (.int .u8 0) 1 rfl Tryz.underlying59 info5 rfl (by decide) (by omega) u3 x3_1 45 [.int .u8 45] (fun _ => True) (fun _ => False) rfl rfl ?aP (fun _ hk => hk.elim) ?aF ?aO ?aB ?aS ?aL ?_; (case aP => exact rfl); (case aB => exact Qa0_); (case aF => exact (fun _ _ => trivial)); (case aO => exact (Qr_ HO_3.out)); (case aS => exact (below_size Qa0_)); (case aL => have := LMc8.out; omega); intro v191 w9 ho hb hg hat; rw [← Ny190.out] at ho; have n0_ := Aside0.mk (hb); have n1_ := Aside0.mk (ho); clear HB; clear HO_3; have HB := n0_; have HO192 := n1_; clear n0_ n1_; clear ho hb hg hat))
        go_meet
        case rel => exact ⟨_, (y190), H', ⟨by have := HK1.out; first | omega | exact Nat.le_refl _⟩, ⟨Qr_ HO192.out⟩, ⟨Qa0_⟩⟩
       ·rw [if_neg c8] at H
        exact absurd H (by simp)
      ·rw [if_neg c7] at H
       have c7b0 := decide_eq_false c7
       clear c7
       (first | rw [c7b0] | (simp only [i64_w, i32_w]; rw [c7b0]) | skip)
       have H' := Aside0.mk H
       clear H
       go_wp2
       go_meet
       case rel => exact ⟨_, (x3_1), H', ⟨by have := HK1.out; first | omega | exact Nat.le_refl _⟩, ⟨Qr_ HO_3.out⟩, ⟨Qa0_⟩⟩
     case rest =>
      clear HC6
      try clear c2
      try clear c2b0
      try clear c2b1
      try clear p2
      try clear c5
      try clear c5b0
      try clear c5b1
      try clear c7
      try clear c7b0
      try clear c8
      try clear p2
      obtain ⟨kq, x3_5, HA, HJ5, HO_3, HB⟩ := hcut
      cases kq with
      | zero => exact absurd HA.out (by simp [spec_l01Dec.j1])
      | succ kj5 =>
       have H := HA.out
       clear HA
       simp only [spec_l01Dec.j1] at H
       obtain ⟨y193, hy193⟩ : ∃ y_ : List Int, y_ = (([] : List Int)) := ⟨_, rfl⟩
       replace H : (spec_l01Dec.l1 kj5 x3_5 y193 (wrap64 ((x3_5.length : Int) - 1))) = some r := by first | (rw [hy193]; with_reducible exact H) | (have H2_ := (Option.bind_some _ _).symm.trans H; rw [hy193]; with_reducible exact H2_) | (have H2_ := (Option.bind_some _ _).symm.trans H; with_reducible exact H2_) | with_reducible exact H | (rw [hy193]; exact H) | exact H
       have Ny193 := Aside0.mk hy193
       clear hy193
       have H' := Aside0.mk H
       clear H
       go_wp2_with (first | ((with_reducible refine gate_dst (N := 33) rfl ?_); refine Kd.R_lit (Kd.int .u8) _ 5 ?hg (N := 33) ?hd (xs := ([] : List Int)) (inner := []) (ok := fun _ => True) (okp := fun _ => True) ?hr ?hp (fun _ hk => hk) trivial (Below.refl _ _) (Nat.le_refl _) (by simp) ?_; (case hd => rfl); (case hg => rfl); (case hr => exact Qh0_); (case hp => exact (Reps.none _ _)); intro v194 w10 ho11 hb hg_ hnew_; clear hg_ hnew_; (first | rw [← Ny193.out] at ho11 | (simp only [Int.reduceToNat] at ho11; rw [← Ny193.out] at ho11)); have n0_ := Aside0.mk (Kd.R_elder' (Qr_ HO_3.out) (Kd.R_base ho11) hb); have n1_ := Aside0.mk (Kd.R_lower (Kd.R_new' ho11 (Kd.R_lt (Qr_ HO_3.out))) (below_size Qa0_)); have n2_ := Aside0.mk (below_step Qa0_ hb); clear HO_3; clear HB; have HO_3 := n0_; have HO195 := n1_; have HB := n2_; clear n0_ n1_ n2_; clear hb ho11; obtain ⟨Ao12, co12, eo12⟩ := Kd.R_slice HO_3.out; subst eo12))
       go_loopg [6, 7] kj5 (fun kq v6 v7 w' => ∃ (x6_3 : List Int) (x7_3 : Int), v7 = .int .i64 x7_3 ∧ Aside0 (spec_l01Dec.l1 kq x3_5 x6_3 x7_3 = some r) ∧ Aside0 (kq ≤ kj5) ∧ Aside0 (Kd.R (Kd.int .u8) 5 w' w.heap.size (fun k_ => some k_ ≠ (v6 : Value).ownBlock) (.slice Ao12 x3_5.length co12) x3_5) ∧ Aside0 (Kd.R (Kd.int .u8) 5 w' w.heap.size (fun k_ => some k_ ≠ ((.slice Ao12 x3_5.length co12) : Value).ownBlock) v6 x6_3) ∧ Aside0 (Below w.heap.size w w'))
       case atStart => exact ⟨(y193), (wrap64 ((x3_5.length : Int) - 1)), Qc0_, H', ⟨Nat.le_refl _⟩, ⟨by (with_reducible repeat (first | apply Kd.R_alloc | apply Kd.R_drewN | apply Kd.R_drew)); exact Kd.R_mono HO_3.out (fun _ hk => hk.2)⟩, ⟨by (with_reducible repeat (first | apply Kd.R_alloc | apply Kd.R_drewN | apply Kd.R_drew)); exact Kd.R_mono HO195.out (fun _ hk => hk.2)⟩, ⟨Qa0_⟩⟩
       case round =>
        clear H'
        try clear c2
        try clear c2b0
        try clear c2b1
        try clear p2
        try clear c5
        try clear c5b0
        try clear c5b1
        try clear p6
        try clear c7
        try clear c7b0
        try clear c8
        try clear p2
        obtain ⟨x6_3, x7_3, rfl, HA, HK3, HO_3, HO_6, HB⟩ := hrel
        cases gk with
        | zero => exact absurd HA.out (by simp [spec_l01Dec.l1])
        | succ k3 =>
         have H := HA.out
         clear HA
         simp only [spec_l01Dec.l1] at H
         by_cases c13 : x7_3 ≥ 0
         ·rw [if_pos c13] at H
          have c13b0 := decide_eq_true c13
          clear c13
          by_cases c14 : 0 ≤ x7_3
          ·rw [if_pos c14] at H
           have c14b0 := decide_eq_true c14
           clear c14
           by_cases c15 : x7_3 < (x3_5.length : Int)
           ·rw [if_pos c15] at H
            have c15b0 := decide_eq_true c15
            clear c15
            by_cases c16 : x6_3.length < 140737488355328
            ·rw [if_pos c16] at H
             have LMc16 := Aside0.mk c16
             clear c16
             obtain ⟨y197, hy197⟩ : ∃ y_ : List Int, y_ = (x6_3 ++ [rd x3_5 x7_3]) := ⟨_, rfl⟩
             replace H : (spec_l01Dec.l1 k3 x3_5 y197 (wrap64 (x7_3 - 1))) = some r := by first | (rw [hy197]; with_reducible exact H) | (have H2_ := (Option.bind_some _ _).symm.trans H; rw [hy197]; with_reducible exact H2_) | (have H2_ := (Option.bind_some _ _).symm.trans H; with_reducible exact H2_) | with_reducible exact H | (rw [hy197]; exact H) | exact H
             have Ny197 := Aside0.mk hy197
             clear hy197
             have H' := Aside0.mk H
             clear H
             have p196 : 0 ≤ (x7_3 : Int) := of_decide_eq_true Qf0_
             have q196 : x7_3 < (x3_5.length : Int) := of_decide_eq_true Qf0_
             obtain ⟨ad196, e196, hx196_0⟩ := Kd.at_int (Kd.R_reads' HO_3.out).2.2 x7_3 p196 q196
             cases e196
             replace p196 := eq_true p196
             replace q196 := eq_true q196
             go_wp2_with (first | ((with_reducible refine gate_builtin (b := .append) (xs := #[.tmp 41, .tmp 46]) rfl ?_); at_builtin; refine Kd.R_append (Kd.int .u8) (w0 := w) w.heap.size rfl (.tmp 41) (.tmp 46) 59 5 (.int .u8 0) 1 rfl Tryz.underlying59 info5 rfl (by decide) (by omega) u6 x6_3 (rd x3_5 x7_3) [.int .u8 (rd x3_5 x7_3)] (fun k_ => some k_ ≠ (.slice (some ad196) x3_5.length co12 : Value).ownBlock) (fun _ => False) rfl rfl ?aP (fun _ hk => hk.elim) ?aF ?aO ?aB ?aS ?aL ?_; (case aP => exact rfl); (case aB => exact Qa0_); (case aF => exact (fun k_ hk => Kd.fresh' (Kd.R_lt (Qr_ HO_3.out)) k_ hk)); (case aO => exact (Qr_ HO_6.out)); (case aS => exact (below_size Qa0_)); (case aL => have := LMc16.out; omega); intro v198 w17 ho hb hg hat; rw [← Ny197.out] at ho; have n0_ := Aside0.mk (Kd.R_after (ok := (fun _ => True)) (by (with_reducible repeat (first | apply Kd.R_alloc | apply Kd.R_drewN | apply Kd.R_drew)); exact Kd.R_mono HO_3.out (fun _ hk => ⟨trivial, hk⟩)) hg hat); have n1_ := Aside0.mk (hb); have n2_ := Aside0.mk (ho); clear HO_3; clear HB; clear HO_6; have HO_3 := n0_; have HB := n1_; have HO199 := n2_; clear n0_ n1_ n2_; clear ho hb hg hat))
             go_roundg k3
             case measure => have := HK1.out; have := HJ5.out; have := HK3.out; omega
             case rel => exact ⟨(y197), (wrap64 (x7_3 - 1)), Qc0_, H', ⟨by have := HK1.out; have := HJ5.out; have := HK3.out; omega⟩, ⟨by (with_reducible repeat (first | apply Kd.R_alloc | apply Kd.R_drewN | apply Kd.R_drew)); exact Kd.R_mono HO_3.out (fun _ hk => hk.2)⟩, ⟨Qr_ HO199.out⟩, ⟨Qa0_⟩⟩
            ·rw [if_neg c16] at H
             exact absurd H (by simp)
           ·rw [if_neg c15] at H
            exact absurd H (by simp)
          ·rw [if_neg c14] at H
           exact absurd H (by simp)
         ·rw [if_neg c13] at H
          have c13b0 := decide_eq_false c13
          clear c13
          obtain rfl := Option.some.inj H
          have hcv18 := own_string (P := Tryz.prog) Tryz.underlying59 Tryz.underlying5 Tryz.underlying9 (Kd.own_of_R HO_6.out)
          go_wp2
          go_ret
          exact ⟨Qe0_, Qa0_⟩
    ·rw [if_neg c5] at H
     have c5b0 := beq_eq_false_iff_ne.mpr c5
     have c5b1 := bne_iff_ne.mpr c5
     by_cases c19 : (Int.tmod x4_1 10) < 0
     ·rw [if_pos c19] at H
      have c19b0 := decide_eq_true c19
      clear c19
      by_cases c20 : x3_1.length < 140737488355328
      ·rw [if_pos c20] at H
       have LMc20 := Aside0.mk c20
       clear c20
       obtain ⟨y184, hy184⟩ : ∃ y_ : List Int, y_ = (x3_1 ++ [(wrap64 (48 + (wrap64 (-(Int.tmod x4_1 10))))) % 256]) := ⟨_, rfl⟩
       replace H : (spec_l01Dec.l0 k1 a0 y184 (wrap64 (Int.tdiv x4_1 10))) = some r := by first | (rw [hy184]; with_reducible exact H) | (have H2_ := (Option.bind_some _ _).symm.trans H; rw [hy184]; with_reducible exact H2_) | (have H2_ := (Option.bind_some _ _).symm.trans H; with_reducible exact H2_) | with_reducible exact H | (rw [hy184]; exact H) | exact H
       have Ny184 := Aside0.mk hy184
       clear hy184
       have H' := Aside0.mk H
       clear H
       go_wp2_with (first | ((with_reducible refine gate_builtin (b := .append) (xs := #[.tmp 22, .tmp 26]) rfl ?_); at_builtin; refine Kd.R_append (Kd.int .u8) (w0 := w) w.heap.size rfl (.tmp 22) (.tmp 26) 59 5 (.int .u8 0) 1 rfl Tryz.underlying59 info5 rfl (by decide) (by omega) u3 x3_1 ((wrap64 (48 + (wrap64 (-(Int.tmod x4_1 10))))) % 256) [.int .u8 ((wrap64 (48 + (wrap64 (-(Int.tmod x4_1 10))))) % 256)] (fun _ => True) (fun _ => False) rfl rfl ?aP (fun _ hk => hk.elim) ?aF ?aO ?aB ?aS ?aL ?_; (case aP => exact rfl); (case aB => exact Qa0_); (case aF => exact (fun _ _ => trivial)); (case aO => exact (Qr_ HO_3.out)); (case aS => exact (below_size Qa0_)); (case aL => have := LMc20.out; omega); intro v185 w21 ho hb hg hat; rw [← Ny184.out] at ho; have n0_ := Aside0.mk (hb); have n1_ := Aside0.mk (ho); clear HB; clear HO_3; have HB := n0_; have HO186 := n1_; clear n0_ n1_; clear ho hb hg hat))
       go_roundg k1
       case measure => have := HK1.out; omega
       case rel => exact ⟨(y184), (wrap64 (Int.tdiv x4_1 10)), Qc0_, H', ⟨Qp0_⟩, ⟨Qr_ HO186.out⟩, ⟨Qa0_⟩⟩
      ·rw [if_neg c20] at H
       exact absurd H (by simp)
     ·rw [if_neg c19] at H
      have c19b0 := decide_eq_false c19
      clear c19
      by_cases c22 : x3_1.length < 140737488355328
      ·rw [if_pos c22] at H
       have LMc22 := Aside0.mk c22
       clear c22
       obtain ⟨y187, hy187⟩ : ∃ y_ : List Int, y_ = (x3_1 ++ [(wrap64 (48 + (Int.tmod x4_1 10))) % 256]) := ⟨_, rfl⟩
       replace H : (spec_l01Dec.l0 k1 a0 y187 (wrap64 (Int.tdiv x4_1 10))) = some r := by first | (rw [hy187]; with_reducible exact H) | (have H2_ := (Option.bind_some _ _).symm.trans H; rw [hy187]; with_reducible exact H2_) | (have H2_ := (Option.bind_some _ _).symm.trans H; with_reducible exact H2_) | with_reducible exact H | (rw [hy187]; exact H) | exact H
       have Ny187 := Aside0.mk hy187
       clear hy187
       have H' := Aside0.mk H
       clear H
       go_wp2_with (first | ((with_reducible refine gate_builtin (b := .append) (xs := #[.tmp 22, .tmp 26]) rfl ?_); at_builtin; refine Kd.R_append (Kd.int .u8) (w0 := w) w.heap.size rfl (.tmp 22) (.tmp 26) 59 5 (.int .u8 0) 1 rfl Tryz.underlying59 info5 rfl (by decide) (by omega) u3 x3_1 ((wrap64 (48 + (Int.tmod x4_1 10))) % 256) [.int .u8 ((wrap64 (48 + (Int.tmod x4_1 10))) % 256)] (fun _ => True) (fun _ => False) rfl rfl ?aP (fun _ hk => hk.elim) ?aF ?aO ?aB ?aS ?aL ?_; (case aP => exact rfl); (case aB => exact Qa0_); (case aF => exact (fun _ _ => trivial)); (case aO => exact (Qr_ HO_3.out)); (case aS => exact (below_size Qa0_)); (case aL => have := LMc22.out; omega); intro v188 w23 ho hb hg hat; rw [← Ny187.out] at ho; have n0_ := Aside0.mk (hb); have n1_ := Aside0.mk (ho); clear HB; clear HO_3; have HB := n0_; have HO189 := n1_; clear n0_ n1_; clear ho hb hg hat))
       go_roundg k1
       case measure => have := HK1.out; omega
       case rel => exact ⟨(y187), (wrap64 (Int.tdiv x4_1 10)), Qc0_, H', ⟨Qp0_⟩, ⟨Qr_ HO189.out⟩, ⟨Qa0_⟩⟩
      ·rw [if_neg c22] at H
       exact absurd H (by simp)
def spec_l01Text.l0 : Nat → List Int → ByteArray → Int → Option (ByteArray)
 | 0, _, _, _ => none
 | k + 1, x0, x3, x4 => if x4 < (x0.length : Int) then (if x4 > 0 then (if x3.size + 1 ≤ 9223372036854775807 then (if 0 ≤ x4 then ((spec_l01Dec.f k (rd x0 x4)).bind fun t201 => (if (x3 ++ (⟨#[44]⟩ : ByteArray)).size + t201.size ≤ 9223372036854775807 then (spec_l01Text.l0 k x0 ((x3 ++ (⟨#[44]⟩ : ByteArray)) ++ t201) (wrap64 (x4 + 1))) else (none))) else (none)) else (none)) else (if 0 ≤ x4 then ((spec_l01Dec.f k (rd x0 x4)).bind fun t203 => (if x3.size + t203.size ≤ 9223372036854775807 then (spec_l01Text.l0 k x0 (x3 ++ t203) (wrap64 (x4 + 1))) else (none))) else (none))) else (if x3.toList = ([] : List UInt8) then (some (⟨#[110, 111, 110, 101]⟩ : ByteArray)) else (some x3))
def spec_l01Text.f (k : Nat) (l0 : List Int) : Option (ByteArray) := spec_l01Text.l0 k l0 (⟨#[]⟩ : ByteArray) 0
set_option maxHeartbeats 8000000 in
set_option maxRecDepth 100000 in
theorem spec_l01Text.calls (k : Nat) (A0 : Option Addr) (c0 : Nat) (l0 : List Int) (r : ByteArray) (w : World) (hr0 : Kd.C (Kd.int .i64) w A0 l0.length l0) (hc0 : l0.length ≤ c0) (h : spec_l01Text.f k l0 = some r) :
 Calls Tryz.prog 36 #[.slice A0 l0.length c0] w fun e w' => e = .returned (.string r) ∧ Below w.heap.size w w' := by
 have HR0 := Aside0.mk hr0
 have HC0 := Aside0.mk hc0
 clear hr0 hc0
 have HB := Aside0.mk (Below.refl w.heap.size w)
 have H : (spec_l01Text.l0 k l0 (⟨#[]⟩ : ByteArray) 0) = some r := h
 clear h
 have H' := Aside0.mk H
 clear H
 go_enter Tryz.func36, Tryz.ntmps36
 go_wp2
 go_loopg [3, 4] k (fun kq v3 v4 w' => ∃ (x3_1 : ByteArray) (x4_1 : Int), v3 = .string x3_1 ∧ v4 = .int .i64 x4_1 ∧ Aside0 (spec_l01Text.l0 kq l0 x3_1 x4_1 = some r) ∧ Aside0 (kq ≤ k) ∧ Aside0 (Below w.heap.size w w'))
 case atStart => exact ⟨((⟨#[]⟩ : ByteArray)), (0), Qc0_, Qc0_, H', ⟨Nat.le_refl _⟩, ⟨Qa0_⟩⟩
 case round =>
  clear H'
  obtain ⟨x3_1, x4_1, rfl, rfl, HA, HK1, HB⟩ := hrel
  cases gk with
  | zero => exact absurd HA.out (by simp [spec_l01Text.l0])
  | succ k1 =>
   have H := HA.out
   clear HA
   simp only [spec_l01Text.l0] at H
   by_cases c2 : x4_1 < (l0.length : Int)
   ·rw [if_pos c2] at H
    have c2b0 := decide_eq_true c2
    clear c2
    by_cases c3 : x4_1 > 0
    ·rw [if_pos c3] at H
     have c3b0 := decide_eq_true c3
     clear c3
     by_cases c4 : x3_1.size + 1 ≤ 9223372036854775807
     ·rw [if_pos c4] at H
      have c4b0 := eq_true c4
      have c4b1 := decide_eq_true c4
      try have c4b2 := eq_false (Nat.not_lt.2 c4)
      by_cases c5 : 0 ≤ x4_1
      ·rw [if_pos c5] at H
       have c5b0 := decide_eq_true c5
       clear c5
       replace H := Option.bind_eq_some_iff.mp H
       obtain ⟨t201, A60, H⟩ := H
       try dsimp only at H
       have A6 := Aside0.mk A60
       clear A60
       by_cases c7 : (x3_1 ++ (⟨#[44]⟩ : ByteArray)).size + t201.size ≤ 9223372036854775807
       ·rw [if_pos c7] at H
        have c7b0 := eq_true c7
        have c7b1 := decide_eq_true c7
        try have c7b2 := eq_false (Nat.not_lt.2 c7)
        try have c7b4 : (9223372036854775807 < (x3_1.size + 1) + t201.size) = False := eq_false (Nat.not_lt.2 (by have q_ := c7; simp only [ByteArray.size_append] at q_; exact q_))
        have H' := Aside0.mk H
        clear H
        have p200 : 0 ≤ (x4_1 : Int) := of_decide_eq_true Qf0_
        have q200 : x4_1 < (l0.length : Int) := of_decide_eq_true Qf0_
        obtain ⟨ad200, e200, hx200_0⟩ := Kd.at_int HR0.out x4_1 p200 q200
        cases e200
        replace hx200_0 := (HB.out.cell (World.block_lt_of_cell? w _ hx200_0)).trans hx200_0
        replace p200 := eq_true p200
        replace q200 := eq_true q200
        go_wp2_with (first | ((with_reducible refine gate_callee (f := 75) rfl ?_); refine goesL_ (some 20) rfl rfl Tryz.func75 Qi0_ rfl #[.int .i64 (rd l0 x4_1)] rfl Qb0_ ?_; (with_reducible refine (spec_l01Dec.calls k1 (rd l0 x4_1) t201 _ A6.out).mono ?_); rintro e w8 ⟨rfl, hb⟩; refine ⟨_, rfl, ?_⟩; have n0_ := Aside0.mk (below_step Qa0_ hb); clear HB; have HB := n0_; clear n0_; (try clear hb); (try clear hb2); (try clear hk); (try clear hi)))
        go_roundg k1
        case measure => have := HK1.out; omega
        case rel => exact ⟨((x3_1 ++ (⟨#[44]⟩ : ByteArray)) ++ t201), (wrap64 (x4_1 + 1)), (by first | rfl | (simp; done) | (simp [*]; done) | (simp [show (⟨#[44]⟩ : ByteArray).size = 1 from rfl]; done)), Qc0_, H', ⟨Qp0_⟩, ⟨Qa0_⟩⟩
       ·rw [if_neg c7] at H
        exact absurd H (by simp)
      ·rw [if_neg c5] at H
       exact absurd H (by simp)
     ·rw [if_neg c4] at H
      exact absurd H (by simp)
    ·rw [if_neg c3] at H
     have c3b0 := decide_eq_false c3
     clear c3
     by_cases c9 : 0 ≤ x4_1
     ·rw [if_pos c9] at H
      have c9b0 := decide_eq_true c9
      clear c9
      replace H := Option.bind_eq_some_iff.mp H
      obtain ⟨t203, A100, H⟩ := H
      try dsimp only at H
      have A10 := Aside0.mk A100
      clear A100
      by_cases c11 : x3_1.size + t203.size ≤ 9223372036854775807
      ·rw [if_pos c11] at H
       have c11b0 := eq_true c11
       have c11b1 := decide_eq_true c11
       try have c11b2 := eq_false (Nat.not_lt.2 c11)
       have H' := Aside0.mk H
       clear H
       have p202 : 0 ≤ (x4_1 : Int) := of_decide_eq_true Qf0_
       have q202 : x4_1 < (l0.length : Int) := of_decide_eq_true Qf0_
       obtain ⟨ad202, e202, hx202_0⟩ := Kd.at_int HR0.out x4_1 p202 q202
       cases e202
       replace hx202_0 := (HB.out.cell (World.block_lt_of_cell? w _ hx202_0)).trans hx202_0
       replace p202 := eq_true p202
       replace q202 := eq_true q202
       go_wp2_with (first | ((with_reducible refine gate_callee (f := 75) rfl ?_); refine goesL_ (some 20) rfl rfl Tryz.func75 Qi0_ rfl #[.int .i64 (rd l0 x4_1)] rfl Qb0_ ?_; (with_reducible refine (spec_l01Dec.calls k1 (rd l0 x4_1) t203 _ A10.out).mono ?_); rintro e w12 ⟨rfl, hb⟩; refine ⟨_, rfl, ?_⟩; have n0_ := Aside0.mk (below_step Qa0_ hb); clear HB; have HB := n0_; clear n0_; (try clear hb); (try clear hb2); (try clear hk); (try clear hi)))
       go_roundg k1
       case measure => have := HK1.out; omega
       case rel => exact ⟨(x3_1 ++ t203), (wrap64 (x4_1 + 1)), Qc0_, Qc0_, H', ⟨Qp0_⟩, ⟨Qa0_⟩⟩
      ·rw [if_neg c11] at H
       exact absurd H (by simp)
     ·rw [if_neg c9] at H
      exact absurd H (by simp)
   ·rw [if_neg c2] at H
    have c2b0 := decide_eq_false c2
    clear c2
    by_cases c13 : x3_1.toList = ([] : List UInt8)
    ·rw [if_pos c13] at H
     have c13b0 := beq_iff_eq.mpr c13
     have c13b1 := bne_eq_false_iff_eq.mpr c13
     clear c13
     obtain rfl := Option.some.inj H
     go_wp2
     go_ret
     exact ⟨Qe0_, Qa0_⟩
    ·rw [if_neg c13] at H
     have c13b0 := beq_eq_false_iff_ne.mpr c13
     have c13b1 := bne_iff_ne.mpr c13
     obtain rfl := Option.some.inj H
     go_wp2
     go_ret
     exact ⟨Qe0_, Qa0_⟩
end Go.Proofs.YtbjmbfjbjkhhdaaGreatDoor.QFnTopOfAll
