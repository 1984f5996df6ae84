/- Made small by wip/pack.py: lemmas and contracts that the law's row leans on. -/
import Derived.Test.YtdaeioklcilipaaGreatDoorZFnConsole27
import Derived.Test.YtdaeioklcilipaaGreatDoorZFnConsole28
import Derived.Test.YtdaeioklcilipaaGreatDoorZFnConsole29
import Derived.Test.YtdaeioklcilipaaGreatDoorZFnConsole30
namespace Go.Proofs.YtdaeioklcilipaaGreatDoor.QFnConsole
open Go.RowKit Go.Proofs.YtdaeioklcilipaaGreatDoorW.PrintWords Go.Proofs.YtdaeioklcilipaaGreatDoorW.PrintLast Go.Proofs.YtdaeioklcilipaaGreatDoorW.PrintMore
attribute [local go_sem] max2_int min2_int max_two min_two max_three min_three max_four min_four
set_option linter.unusedVariables false
set_option linter.unusedSimpArgs false
set_option maxHeartbeats 8000000 in
set_option maxRecDepth 100000 in
theorem spec_l11DrawLine.calls (k : Nat) (g : Nat) (s0_0 : List Int) (s0_1 : Int) (s0_2 : Int) (b : Nat) (A1 : Option Addr) (c1 : Nat) (l1 : List ByteArray) (r1 : ByteArray) (r2 : Int) (r3 : Int) (w0 w : World) (hI : IsS53 w0 w g s0_0 s0_1 s0_2) (hB : Below w0.heap.size w0 w) (hr1 : Kd.C Kd.string w A1 l1.length l1) (hc1 : l1.length ≤ c1) (hf1 : ∀ ad, A1 = some ad → 0 < l1.length → ad.block ≠ g) (hcell : w.cell? ⟨b, 0, none⟩ = some (.slice A1 l1.length c1)) (hbg : b ≠ g) (h : spec_l11DrawLine.f k s0_0 s0_1 s0_2 l1 = some (r1, r2, r3)) :
 Calls Tryz.prog 13 #[.pointer (some ⟨g, 0, none⟩), .pointer (some ⟨b, 0, none⟩)] w fun e w' => e = .returned (.string r1) ∧ IsS53 w0 w' g s0_0 r2 r3 ∧ Below w0.heap.size w0 w' ∧ KeepBut w w' g none := by
 have hu27 := Tryz.underlying26
 have HR1 := Aside0.mk hr1
 have HC1 := Aside0.mk hc1
 clear hr1 hc1
 have HI0 := Aside0.mk hI
 have HK := Aside0.mk (KeepBut.refl w g none)
 have HL := Aside0.mk hB.size
 clear hI
 have HW0 := Aside0.mk hB.size
 have HB := Aside0.mk hB
 clear hB
 have H : ((spec_l00Src_text.f s0_0 s0_1 s0_2 (([(⟨#[97]⟩ : ByteArray), (⟨#[98]⟩ : ByteArray), (⟨#[110, 105, 120]⟩ : ByteArray), (⟨#[]⟩ : ByteArray)] : List ByteArray))).bind fun bt168 => (if (l1.length : Int) > 0 then ((spec_l00Src_one.f s0_0 bt168.2.1 bt168.2.2 6).bind fun bt171 => (spec_l11DrawLine.j0 k l1 bt168.1 (!bt171.1) s0_0 bt171.2.1 bt171.2.2)) else (spec_l11DrawLine.j0 k l1 bt168.1 false s0_0 bt168.2.1 bt168.2.2))) = some (r1, r2, r3) := h
 clear h
 obtain ⟨y165, hy165⟩ : ∃ y_ : List ByteArray, y_ = (([(⟨#[97]⟩ : ByteArray), (⟨#[98]⟩ : ByteArray), (⟨#[110, 105, 120]⟩ : ByteArray), (⟨#[]⟩ : ByteArray)] : List ByteArray)) := ⟨_, rfl⟩
 replace H : ((spec_l00Src_text.f s0_0 s0_1 s0_2 y165).bind fun bt168 => (if (l1.length : Int) > 0 then ((spec_l00Src_one.f s0_0 bt168.2.1 bt168.2.2 6).bind fun bt171 => (spec_l11DrawLine.j0 k l1 bt168.1 (!bt171.1) s0_0 bt171.2.1 bt171.2.2)) else (spec_l11DrawLine.j0 k l1 bt168.1 false s0_0 bt168.2.1 bt168.2.2))) = some (r1, r2, r3) := by first | (rw [hy165]; with_reducible exact H) | (have H2_ := (Option.bind_some _ _).symm.trans H; rw [hy165]; with_reducible exact H2_) | (have H2_ := (Option.bind_some _ _).symm.trans H; with_reducible exact H2_) | with_reducible exact H | (rw [hy165]; exact H) | exact H
 have Ny165 := Aside0.mk hy165
 clear hy165
 replace H := Option.bind_eq_some_iff.mp H
 obtain ⟨⟨t168, t169, t170⟩, A30, H⟩ := H
 try dsimp only at H
 have A3 := Aside0.mk A30
 clear A30
 have HC4 := Aside0.mk H
 clear H
 go_enter Tryz.func13, Tryz.ntmps13
 go_upto_region 2 with (first | ((with_reducible refine gate_dst (N := 17) rfl ?_); refine Kd.R_lit Kd.string _ 9 ?hg (N := 17) ?hd (xs := ([(⟨#[97]⟩ : ByteArray), (⟨#[98]⟩ : ByteArray), (⟨#[110, 105, 120]⟩ : ByteArray), (⟨#[]⟩ : ByteArray)] : List ByteArray)) (inner := [.string (⟨#[97]⟩ : ByteArray), .string (⟨#[98]⟩ : ByteArray), .string (⟨#[110, 105, 120]⟩ : ByteArray), .string (⟨#[]⟩ : ByteArray)]) (ok := fun _ => True) (okp := fun _ => True) ?hr ?hp (fun _ hk => hk) trivial (Below.refl _ _) (Nat.le_refl _) (by simp) ?_; (case hd => rfl); (case hg => rfl); (case hr => exact Qj0_); (case hp => exact (Reps.one (show Kd.M Kd.string _ _ _ (⟨#[97]⟩ : ByteArray) [.string (⟨#[97]⟩ : ByteArray)] from rfl) (Reps.one (show Kd.M Kd.string _ _ _ (⟨#[98]⟩ : ByteArray) [.string (⟨#[98]⟩ : ByteArray)] from rfl) (Reps.one (show Kd.M Kd.string _ _ _ (⟨#[110, 105, 120]⟩ : ByteArray) [.string (⟨#[110, 105, 120]⟩ : ByteArray)] from rfl) (Reps.one (show Kd.M Kd.string _ _ _ (⟨#[]⟩ : ByteArray) [.string (⟨#[]⟩ : ByteArray)] from rfl) (Reps.none _ _)))))); intro v166 w5 ho6 hb hg_ hnew_; clear hg_ hnew_; (first | rw [← Ny165.out] at ho6 | (simp only [Int.reduceToNat] at ho6; rw [← Ny165.out] at ho6)); have n0_ := Aside0.mk (Kd.R_lower ho6 (keep_size (w := w) (g := g) (row := none) Qe0_)); have n1_ := Aside0.mk (IsS53.below Qc0_ hb); have n2_ := Aside0.mk (KeepBut.trans Qe0_ (KeepBut.of_below hb g none) (.inl rfl)); have n3_ := Aside0.mk (below_step Qd0_ hb); clear HI0; clear HK; clear HB; have HO167 := n0_; have HI0 := n1_; have HK := n2_; have HB := n3_; clear n0_ n1_ n2_ n3_; clear hb ho6; obtain ⟨Ao7, co7, eo7⟩ := Kd.R_slice HO167.out; subst eo7) | ((with_reducible refine gate_callee (f := 21) rfl ?_); refine goesL_ (some 18) rfl rfl Tryz.func21 Ql0_ rfl #[.pointer (some ⟨g, 0, none⟩), .slice Ao7 y165.length co7] rfl Qb0_ ?_; (with_reducible refine (spec_l00Src_text.calls g s0_0 s0_1 s0_2 _ _ y165 t168 t169 t170 w0 _ ?side1 ?side2 ?side3 ?side4 ?side5 A3.out).mono ?_); (case side1 => exact Qi0_); (case side2 => exact Qd0_); (case side3 => exact Qc_ (Kd.R_reads' HO167.out).2.2); (case side4 => exact (Kd.R_reads' HO167.out).2.1); (case side5 => exact far_slice (IsS53.own_ne HI0.out HO167.out (by decide))); rintro e w8 ⟨rfl, hi, hb, hk⟩; refine ⟨_, rfl, ?_⟩; have n0_ := Aside0.mk (Kd.R_mono (Kd.R_keep (IsS53.apart (show IsS53 w0 _ g s0_0 s0_1 s0_2 from Qc0_) (Qr_ HO167.out) (by decide)) hk (fun _ h => h.2)) (fun _ h => h.1)); have n1_ := Aside0.mk (KeepBut.trans Qe0_ hk (.inl rfl)); have n2_ := Aside0.mk (hb); have n3_ := Aside0.mk (hi); clear HO167; clear HK; clear HB; clear HI0; have HO167 := n0_; have HK := n1_; have HB := n2_; have HI0 := n3_; clear n0_ n1_ n2_ n3_; (try clear hb); (try clear hb2); (try clear hk); (try clear hi)))
 (try simp only [Act.put, List.setIfInBounds_toArray, List.set_cons_zero, List.set_cons_succ])
 go_cut [29] (fun v29 wc => ∃ (kq : Nat) (x29_3 : Bool) (x1001_3 : Int) (x1002_3 : Int), v29 = .bool x29_3 ∧ Aside0 (spec_l11DrawLine.j0 kq l1 t168 x29_3 s0_0 x1001_3 x1002_3 = some (r1, r2, r3)) ∧ Aside0 (kq ≤ k) ∧ Aside0 (IsS53 w0 wc g s0_0 x1001_3 x1002_3) ∧ Aside0 (KeepBut w wc g none) ∧ Aside0 (Below w0.heap.size w0 wc))
 case first =>
  have hce := pt_cell HK.out hcell hbg
  have H := HC4.out
  clear HC4
  by_cases c9 : (l1.length : Int) > 0
  ·rw [if_pos c9] at H
   have c9b0 := decide_eq_true c9
   have c9b1 : decide (0 < l1.length) = true := decide_eq_true (by omega)
   clear c9
   (first | rw [c9b0] | (simp only [i64_w, i32_w]; rw [c9b0]) | skip)
   replace H := Option.bind_eq_some_iff.mp H
   obtain ⟨⟨t171, t172, t173⟩, A100, H⟩ := H
   try dsimp only at H
   have A10 := Aside0.mk A100
   clear A100
   have H' := Aside0.mk H
   clear H
   go_wp2_with (first | (go_at_call 25; (with_reducible refine (spec_l00Src_one.calls g s0_0 t169 t170 6 t171 t172 t173 w0 _ ?side1 ?side2 A10.out).mono ?_); (case side1 => exact Qi0_); (case side2 => exact Qd0_); rintro e w11 ⟨rfl, hi, hb, hk⟩; have n0_ := Aside0.mk (Kd.R_mono (Kd.R_keep (IsS53.apart (show IsS53 w0 _ g s0_0 t169 t170 from Qc0_) (Qr_ HO167.out) (by decide)) hk (fun _ h => h.2)) (fun _ h => h.1)); have n1_ := Aside0.mk (KeepBut.trans Qe0_ hk (.inl rfl)); have n2_ := Aside0.mk (hb); have n3_ := Aside0.mk (hi); clear HO167; clear HK; clear HB; clear HI0; have HO167 := n0_; have HK := n1_; have HB := n2_; have HI0 := n3_; clear n0_ n1_ n2_ n3_; (try clear hb); (try clear hb2); (try clear hk); (try clear hi)))
   go_meet
   case rel => exact ⟨_, (!t171), (t172), (t173), Qf0_, H', ⟨Qx0_⟩, ⟨Qc0_⟩, ⟨Qe0_⟩, ⟨Qd0_⟩⟩
  ·rw [if_neg c9] at H
   have c9b0 := decide_eq_false c9
   have c9b1 : decide (0 < l1.length) = false := decide_eq_false (by omega)
   clear c9
   (first | rw [c9b0] | (simp only [i64_w, i32_w]; rw [c9b0]) | skip)
   have H' := Aside0.mk H
   clear H
   go_wp2
   go_meet
   case rel => exact ⟨_, (false), (t169), (t170), Qf0_, H', ⟨Qx0_⟩, ⟨Qc0_⟩, ⟨Qe0_⟩, ⟨Qd0_⟩⟩
 case rest =>
  clear HC4
  try clear c1
  try clear c2
  try clear p2
  try clear c9
  try clear c9b0
  try clear c9b1
  obtain ⟨kq, x29_3, x1001_3, x1002_3, rfl, HA, HJ3, HI0, HK, HB⟩ := hcut
  cases kq with
  | zero => exact absurd HA.out (by simp [spec_l11DrawLine.j0])
  | succ kj3 =>
   have H := HA.out
   clear HA
   simp only [spec_l11DrawLine.j0] at H
   have HC12 := Aside0.mk H
   clear H
   go_upto_if 29 with (fail)
   go_cut [5] (fun v5 wc => ∃ (kq : Nat) (x5_11 : ByteArray) (x1001_11 : Int) (x1002_11 : Int), v5 = .string x5_11 ∧ Aside0 (spec_l11DrawLine.j1 kq x5_11 s0_0 x1001_11 x1002_11 = some (r1, r2, r3)) ∧ Aside0 (kq ≤ kj3) ∧ Aside0 (IsS53 w0 wc g s0_0 x1001_11 x1002_11) ∧ Aside0 (KeepBut w wc g none) ∧ Aside0 (Below w0.heap.size w0 wc))
   case first =>
    have H := HC12.out
    clear HC12
    by_cases c13 : x29_3 = true
    ·subst c13
     rw [if_pos rfl] at H
     have H1 := H
     clear H
     have H := H1
     clear H1
     replace H := Option.bind_eq_some_iff.mp H
     obtain ⟨⟨t174, t175, t176⟩, A140, H⟩ := H
     try dsimp only at H
     have A14 := Aside0.mk A140
     clear A140
     have H' := Aside0.mk H
     clear H
     have hce := pt_cell HK.out hcell hbg
     go_wp2_with (first | ((with_reducible refine gate_callee (f := 21) rfl ?_); refine goesL_ (some 35) rfl rfl Tryz.func21 Ql0_ rfl #[.pointer (some ⟨g, 0, none⟩), .slice A1 l1.length c1] rfl Qb0_ ?_; (with_reducible refine (spec_l00Src_text.calls g s0_0 x1001_3 x1002_3 _ _ l1 t174 t175 t176 w0 _ ?side1 ?side2 ?side3 ?side4 ?side5 A14.out).mono ?_); (case side1 => exact Qi0_); (case side2 => exact Qd0_); (case side3 => exact Kd.C_keep (⟨#[]⟩ : ByteArray) HR1.out Qe0_ hf1); (case side4 => exact HC1.out); (case side5 => exact hf1); rintro e w15 ⟨rfl, hi, hb, hk⟩; refine ⟨_, rfl, ?_⟩; have n0_ := Aside0.mk (KeepBut.trans Qe0_ hk (.inl rfl)); have n1_ := Aside0.mk (hb); have n2_ := Aside0.mk (hi); clear HK; clear HB; clear HI0; have HK := n0_; have HB := n1_; have HI0 := n2_; clear n0_ n1_ n2_; (try clear hb); (try clear hb2); (try clear hk); (try clear hi)))
     go_meet
     case rel => exact ⟨_, (t174), (t175), (t176), Qf0_, H', ⟨by have := HJ3.out; first | omega | exact Nat.le_refl _⟩, ⟨Qc0_⟩, ⟨Qe0_⟩, ⟨Qd0_⟩⟩
    ·replace c13 := Bool.eq_false_iff.mpr c13
     subst c13
     rw [if_neg (show ¬ (false = true) by decide)] at H
     have H1 := H
     clear H
     have H := H1
     clear H1
     have H' := Aside0.mk H
     clear H
     go_wp2
     go_meet
     case rel => exact ⟨_, (t168), (x1001_3), (x1002_3), Qf0_, H', ⟨by have := HJ3.out; first | omega | exact Nat.le_refl _⟩, ⟨Qc0_⟩, ⟨Qe0_⟩, ⟨Qd0_⟩⟩
   case rest =>
    clear HC12
    try clear c1
    try clear c2
    try clear p2
    try clear c9
    try clear c9b0
    try clear c9b1
    try clear c13
    try clear p2
    obtain ⟨kq, x5_11, x1001_11, x1002_11, rfl, HA, HJ11, HI0, HK, HB⟩ := hcut
    cases kq with
    | zero => exact absurd HA.out (by simp [spec_l11DrawLine.j1])
    | succ kj11 =>
     have H := HA.out
     clear HA
     simp only [spec_l11DrawLine.j1] at H
     obtain ⟨y177, hy177⟩ : ∃ y_ : List ByteArray, y_ = (([(⟨#[97]⟩ : ByteArray), (⟨#[98]⟩ : ByteArray), (⟨#[110, 101, 119]⟩ : ByteArray), (⟨#[120]⟩ : ByteArray), (⟨#[119, 105, 114, 101]⟩ : ByteArray), (⟨#[81]⟩ : ByteArray)] : List ByteArray)) := ⟨_, rfl⟩
     replace H : ((spec_l00Src_text.f s0_0 x1001_11 x1002_11 y177).bind fun bt180 => ((spec_l00Src_pick.f s0_0 bt180.2.1 bt180.2.2 9).bind fun bt183 => (if bt183.1 = 0 then ((spec_l00Src_text.f s0_0 bt183.2.1 bt183.2.2 (([(⟨#[]⟩ : ByteArray), (⟨#[119, 104, 97, 116]⟩ : ByteArray), (⟨#[115, 101, 116]⟩ : ByteArray), (⟨#[115, 101, 116, 32, 97]⟩ : ByteArray), (⟨#[115, 101, 116, 32, 97, 32, 50]⟩ : ByteArray), (⟨#[115, 101, 116, 32, 97, 32, 110, 111, 110, 101]⟩ : ByteArray), (⟨#[115, 101, 116, 32, 97, 32]⟩ : ByteArray), (⟨#[115, 104, 111, 119]⟩ : ByteArray), (⟨#[98, 108, 111, 99, 107, 115, 32, 120, 32, 49, 32, 50, 32, 45, 49, 32, 48, 44, 49, 44, 49]⟩ : ByteArray), (⟨#[98, 108, 111, 99, 107, 115, 32, 120, 32, 49, 32, 50, 32, 48, 32, 48]⟩ : ByteArray), (⟨#[98, 108, 111, 99, 107, 115, 32, 120, 32, 57, 32, 50, 32, 49, 32, 48]⟩ : ByteArray), (⟨#[100, 97, 116, 97, 32, 97, 32, 49, 32, 50]⟩ : ByteArray), (⟨#[108, 97, 121, 32, 98, 32, 97, 32, 50]⟩ : ByteArray), (⟨#[102, 108, 105, 112, 32, 97, 32, 45, 49]⟩ : ByteArray), (⟨#[118, 111, 116, 101, 32, 98, 32, 97, 32, 50]⟩ : ByteArray), (⟨#[99, 108, 111, 99, 107, 32, 98, 32, 97, 32, 49, 32, 50]⟩ : ByteArray)] : List ByteArray))).bind fun bt189 => (some (bt189.1, bt189.2.1, bt189.2.2))) else (if bt183.1 = 1 then (if 4 + bt180.1.size ≤ 9223372036854775807 then (if ((⟨#[115, 101, 116, 32]⟩ : ByteArray) ++ bt180.1).size + 1 ≤ 9223372036854775807 then ((spec_l11DrawFew.f kj11 s0_0 bt183.2.1 bt183.2.2).bind fun bt192 => ((spec_l11Show.f bt192.1).bind fun t195 => (if (((⟨#[115, 101, 116, 32]⟩ : ByteArray) ++ bt180.1) ++ (⟨#[32]⟩ : ByteArray)).size + t195.size ≤ 9223372036854775807 then (some ((((⟨#[115, 101, 116, 32]⟩ : ByteArray) ++ bt180.1) ++ (⟨#[32]⟩ : ByteArray)) ++ t195, bt192.2.1, bt192.2.2)) else (none)))) else (none)) else (none)) else (if bt183.1 = 2 then ((spec_l00Src_text.f s0_0 bt183.2.1 bt183.2.2 (([(⟨#[115, 104, 111, 119, 32]⟩ : ByteArray), (⟨#[100, 114, 111, 112, 32]⟩ : ByteArray), (⟨#[115, 104, 111, 119, 32]⟩ : ByteArray)] : List ByteArray))).bind fun bt199 => (if bt199.1.size + x5_11.size ≤ 9223372036854775807 then (some (bt199.1 ++ x5_11, bt199.2.1, bt199.2.2)) else (none))) else (if bt183.1 = 3 then (if 5 + x5_11.size ≤ 9223372036854775807 then (if ((⟨#[102, 108, 105, 112, 32]⟩ : ByteArray) ++ x5_11).size + 1 ≤ 9223372036854775807 then ((spec_l00Src_pick.f s0_0 bt183.2.1 bt183.2.2 26).bind fun bt202 => ((spec_l01Dec.f kj11 (wrap64 (bt202.1 - 1))).bind fun t205 => (if (((⟨#[102, 108, 105, 112, 32]⟩ : ByteArray) ++ x5_11) ++ (⟨#[32]⟩ : ByteArray)).size + t205.size ≤ 9223372036854775807 then (some ((((⟨#[102, 108, 105, 112, 32]⟩ : ByteArray) ++ x5_11) ++ (⟨#[32]⟩ : ByteArray)) ++ t205, bt202.2.1, bt202.2.2)) else (none)))) else (none)) else (none)) else (if bt183.1 = 4 then ((spec_l00Src_pick.f s0_0 bt183.2.1 bt183.2.2 5).bind fun bt209 => (spec_l11DrawLine.l0 kj11 bt180.1 (([] : List Int)) bt209.1 s0_0 bt209.2.1 bt209.2.2)) else (if bt183.1 = 5 then ((spec_l00Src_pick.f s0_0 bt183.2.1 bt183.2.2 2).bind fun bt223 => (if 5 + x5_11.size ≤ 9223372036854775807 then (if ((⟨#[100, 97, 116, 97, 32]⟩ : ByteArray) ++ x5_11).size + 1 ≤ 9223372036854775807 then ((spec_l00Src_pick.f s0_0 bt223.2.1 bt223.2.2 2).bind fun bt226 => ((spec_l01Dec.f kj11 (wrap64 (1 + bt226.1))).bind fun t229 => (if (((⟨#[100, 97, 116, 97, 32]⟩ : ByteArray) ++ x5_11) ++ (⟨#[32]⟩ : ByteArray)).size + t229.size ≤ 9223372036854775807 then (if ((((⟨#[100, 97, 116, 97, 32]⟩ : ByteArray) ++ x5_11) ++ (⟨#[32]⟩ : ByteArray)) ++ t229).size + 1 ≤ 9223372036854775807 then (if (((((⟨#[100, 97, 116, 97, 32]⟩ : ByteArray) ++ x5_11) ++ (⟨#[32]⟩ : ByteArray)) ++ t229) ++ (⟨#[32]⟩ : ByteArray)).size + 2 ≤ 9223372036854775807 then ((spec_l01Dec.f kj11 (wrap64 ((wrap64 (2 * bt223.1)) - 1))).bind fun t230 => (if ((((((⟨#[100, 97, 116, 97, 32]⟩ : ByteArray) ++ x5_11) ++ (⟨#[32]⟩ : ByteArray)) ++ t229) ++ (⟨#[32]⟩ : ByteArray)) ++ (⟨#[52, 32]⟩ : ByteArray)).size + t230.size ≤ 9223372036854775807 then (some (((((((⟨#[100, 97, 116, 97, 32]⟩ : ByteArray) ++ x5_11) ++ (⟨#[32]⟩ : ByteArray)) ++ t229) ++ (⟨#[32]⟩ : ByteArray)) ++ (⟨#[52, 32]⟩ : ByteArray)) ++ t230, bt226.2.1, bt226.2.2)) else (none))) else (none)) else (none)) else (none)))) else (none)) else (none))) else (if bt183.1 = 6 then ((spec_l00Src_text.f s0_0 bt183.2.1 bt183.2.2 (([(⟨#[108, 97, 121, 32]⟩ : ByteArray), (⟨#[117, 110, 108, 97, 121, 32]⟩ : ByteArray), (⟨#[99, 108, 111, 99, 107, 32]⟩ : ByteArray)] : List ByteArray))).bind fun bt234 => ((spec_l00Src_pick.f s0_0 bt234.2.1 bt234.2.2 12).bind fun bt237 => (if bt234.1.size + bt180.1.size ≤ 9223372036854775807 then (if (bt234.1 ++ bt180.1).size + 1 ≤ 9223372036854775807 then (if ((bt234.1 ++ bt180.1) ++ (⟨#[32]⟩ : ByteArray)).size + x5_11.size ≤ 9223372036854775807 then (if (((bt234.1 ++ bt180.1) ++ (⟨#[32]⟩ : ByteArray)) ++ x5_11).size + 1 ≤ 9223372036854775807 then ((spec_l01Dec.f kj11 (wrap64 (1 + bt237.1))).bind fun t240 => (if ((((bt234.1 ++ bt180.1) ++ (⟨#[32]⟩ : ByteArray)) ++ x5_11) ++ (⟨#[32]⟩ : ByteArray)).size + t240.size ≤ 9223372036854775807 then (if (((((bt234.1 ++ bt180.1) ++ (⟨#[32]⟩ : ByteArray)) ++ x5_11) ++ (⟨#[32]⟩ : ByteArray)) ++ t240).size + 1 ≤ 9223372036854775807 then ((spec_l00Src_pick.f s0_0 bt237.2.1 bt237.2.2 12).bind fun bt241 => ((spec_l01Dec.f kj11 (wrap64 (1 + bt241.1))).bind fun t244 => (if ((((((bt234.1 ++ bt180.1) ++ (⟨#[32]⟩ : ByteArray)) ++ x5_11) ++ (⟨#[32]⟩ : ByteArray)) ++ t240) ++ (⟨#[32]⟩ : ByteArray)).size + t244.size ≤ 9223372036854775807 then (some (((((((bt234.1 ++ bt180.1) ++ (⟨#[32]⟩ : ByteArray)) ++ x5_11) ++ (⟨#[32]⟩ : ByteArray)) ++ t240) ++ (⟨#[32]⟩ : ByteArray)) ++ t244, bt241.2.1, bt241.2.2)) else (none)))) else (none)) else (none))) else (none)) else (none)) else (none)) else (none)))) else (if bt183.1 = 7 then ((spec_l00Src_text.f s0_0 bt183.2.1 bt183.2.2 (([(⟨#[114, 101, 112, 101, 97, 116, 32]⟩ : ByteArray), (⟨#[118, 111, 116, 101, 32]⟩ : ByteArray)] : List ByteArray))).bind fun bt248 => (if bt248.1.size + bt180.1.size ≤ 9223372036854775807 then (if (bt248.1 ++ bt180.1).size + 1 ≤ 9223372036854775807 then (if ((bt248.1 ++ bt180.1) ++ (⟨#[32]⟩ : ByteArray)).size + x5_11.size ≤ 9223372036854775807 then (if (((bt248.1 ++ bt180.1) ++ (⟨#[32]⟩ : ByteArray)) ++ x5_11).size + 1 ≤ 9223372036854775807 then ((spec_l00Src_pick.f s0_0 bt248.2.1 bt248.2.2 3).bind fun bt251 => ((spec_l01Dec.f kj11 (wrap64 (1 + (wrap64 (2 * bt251.1))))).bind fun t254 => (if ((((bt248.1 ++ bt180.1) ++ (⟨#[32]⟩ : ByteArray)) ++ x5_11) ++ (⟨#[32]⟩ : ByteArray)).size + t254.size ≤ 9223372036854775807 then (some (((((bt248.1 ++ bt180.1) ++ (⟨#[32]⟩ : ByteArray)) ++ x5_11) ++ (⟨#[32]⟩ : ByteArray)) ++ t254, bt251.2.1, bt251.2.2)) else (none)))) else (none)) else (none)) else (none)) else (none))) else ((spec_l00Src_among.f s0_0 bt183.2.1 bt183.2.2 (([11, 13, 19, 7, 2, 1] : List Int))).bind fun bt258 => ((spec_l00Src_one.f s0_0 bt258.2.1 bt258.2.2 2).bind fun bt261 => (if bt261.1 = true then (if 7 + x5_11.size ≤ 9223372036854775807 then (if ((⟨#[118, 101, 114, 105, 102, 121, 32]⟩ : ByteArray) ++ x5_11).size + 1 ≤ 9223372036854775807 then ((spec_l01Dec.f kj11 bt258.1).bind fun t264 => (if (((⟨#[118, 101, 114, 105, 102, 121, 32]⟩ : ByteArray) ++ x5_11) ++ (⟨#[32]⟩ : ByteArray)).size + t264.size ≤ 9223372036854775807 then (some ((((⟨#[118, 101, 114, 105, 102, 121, 32]⟩ : ByteArray) ++ x5_11) ++ (⟨#[32]⟩ : ByteArray)) ++ t264, bt261.2.1, bt261.2.2)) else (none))) else (none)) else (none)) else (if 6 + bt180.1.size ≤ 9223372036854775807 then (if ((⟨#[99, 104, 101, 99, 107, 32]⟩ : ByteArray) ++ bt180.1).size + 1 ≤ 9223372036854775807 then (if (((⟨#[99, 104, 101, 99, 107, 32]⟩ : ByteArray) ++ bt180.1) ++ (⟨#[32]⟩ : ByteArray)).size + x5_11.size ≤ 9223372036854775807 then (if ((((⟨#[99, 104, 101, 99, 107, 32]⟩ : ByteArray) ++ bt180.1) ++ (⟨#[32]⟩ : ByteArray)) ++ x5_11).size + 1 ≤ 9223372036854775807 then ((spec_l01Dec.f kj11 bt258.1).bind fun t265 => (if (((((⟨#[99, 104, 101, 99, 107, 32]⟩ : ByteArray) ++ bt180.1) ++ (⟨#[32]⟩ : ByteArray)) ++ x5_11) ++ (⟨#[32]⟩ : ByteArray)).size + t265.size ≤ 9223372036854775807 then (some ((((((⟨#[99, 104, 101, 99, 107, 32]⟩ : ByteArray) ++ bt180.1) ++ (⟨#[32]⟩ : ByteArray)) ++ x5_11) ++ (⟨#[32]⟩ : ByteArray)) ++ t265, bt261.2.1, bt261.2.2)) else (none))) else (none)) else (none)) else (none)) else (none))))))))))))))) = some (r1, r2, r3) := by first | (rw [hy177]; with_reducible exact H) | (have H2_ := (Option.bind_some _ _).symm.trans H; rw [hy177]; with_reducible exact H2_) | (have H2_ := (Option.bind_some _ _).symm.trans H; with_reducible exact H2_) | with_reducible exact H | (rw [hy177]; exact H) | exact H
     have Ny177 := Aside0.mk hy177
     clear hy177
     replace H := Option.bind_eq_some_iff.mp H
     obtain ⟨⟨t180, t181, t182⟩, A160, H⟩ := H
     try dsimp only at H
     have A16 := Aside0.mk A160
     clear A160
     replace H := Option.bind_eq_some_iff.mp H
     obtain ⟨⟨t183, t184, t185⟩, A170, H⟩ := H
     try dsimp only at H
     have A17 := Aside0.mk A170
     clear A170
     go_upto_if 41 with (first | ((with_reducible refine gate_dst (N := 37) rfl ?_); refine Kd.R_lit Kd.string _ 9 ?hg (N := 37) ?hd (xs := ([(⟨#[97]⟩ : ByteArray), (⟨#[98]⟩ : ByteArray), (⟨#[110, 101, 119]⟩ : ByteArray), (⟨#[120]⟩ : ByteArray), (⟨#[119, 105, 114, 101]⟩ : ByteArray), (⟨#[81]⟩ : ByteArray)] : List ByteArray)) (inner := [.string (⟨#[97]⟩ : ByteArray), .string (⟨#[98]⟩ : ByteArray), .string (⟨#[110, 101, 119]⟩ : ByteArray), .string (⟨#[120]⟩ : ByteArray), .string (⟨#[119, 105, 114, 101]⟩ : ByteArray), .string (⟨#[81]⟩ : ByteArray)]) (ok := fun _ => True) (okp := fun _ => True) ?hr ?hp (fun _ hk => hk) trivial (Below.refl _ _) (Nat.le_refl _) (by simp) ?_; (case hd => rfl); (case hg => rfl); (case hr => exact Qj0_); (case hp => exact (Reps.one (show Kd.M Kd.string _ _ _ (⟨#[97]⟩ : ByteArray) [.string (⟨#[97]⟩ : ByteArray)] from rfl) (Reps.one (show Kd.M Kd.string _ _ _ (⟨#[98]⟩ : ByteArray) [.string (⟨#[98]⟩ : ByteArray)] from rfl) (Reps.one (show Kd.M Kd.string _ _ _ (⟨#[110, 101, 119]⟩ : ByteArray) [.string (⟨#[110, 101, 119]⟩ : ByteArray)] from rfl) (Reps.one (show Kd.M Kd.string _ _ _ (⟨#[120]⟩ : ByteArray) [.string (⟨#[120]⟩ : ByteArray)] from rfl) (Reps.one (show Kd.M Kd.string _ _ _ (⟨#[119, 105, 114, 101]⟩ : ByteArray) [.string (⟨#[119, 105, 114, 101]⟩ : ByteArray)] from rfl) (Reps.one (show Kd.M Kd.string _ _ _ (⟨#[81]⟩ : ByteArray) [.string (⟨#[81]⟩ : ByteArray)] from rfl) (Reps.none _ _)))))))); intro v178 w20 ho21 hb hg_ hnew_; clear hg_ hnew_; (first | rw [← Ny177.out] at ho21 | (simp only [Int.reduceToNat] at ho21; rw [← Ny177.out] at ho21)); have n0_ := Aside0.mk (Kd.R_lower ho21 (keep_size (w := w) (g := g) (row := none) Qe0_)); have n1_ := Aside0.mk (IsS53.below Qc0_ hb); have n2_ := Aside0.mk (KeepBut.trans Qe0_ (KeepBut.of_below hb g none) (.inl rfl)); have n3_ := Aside0.mk (below_step Qd0_ hb); clear HI0; clear HK; clear HB; have HO179 := n0_; have HI0 := n1_; have HK := n2_; have HB := n3_; clear n0_ n1_ n2_ n3_; clear hb ho21; obtain ⟨Ao22, co22, eo22⟩ := Kd.R_slice HO179.out; subst eo22) | ((with_reducible refine gate_callee (f := 21) rfl ?_); refine goesL_ (some 38) rfl rfl Tryz.func21 Ql0_ rfl #[.pointer (some ⟨g, 0, none⟩), .slice Ao22 y177.length co22] rfl Qb0_ ?_; (with_reducible refine (spec_l00Src_text.calls g s0_0 x1001_11 x1002_11 _ _ y177 t180 t181 t182 w0 _ ?side1 ?side2 ?side3 ?side4 ?side5 A16.out).mono ?_); (case side1 => exact Qi0_); (case side2 => exact Qd0_); (case side3 => exact Qc_ (Kd.R_reads' HO179.out).2.2); (case side4 => exact (Kd.R_reads' HO179.out).2.1); (case side5 => exact far_slice (IsS53.own_ne HI0.out HO179.out (by decide))); rintro e w23 ⟨rfl, hi, hb, hk⟩; refine ⟨_, rfl, ?_⟩; have n0_ := Aside0.mk (Kd.R_mono (Kd.R_keep (IsS53.apart (show IsS53 w0 _ g s0_0 x1001_11 x1002_11 from Qc0_) (Qr_ HO179.out) (by decide)) hk (fun _ h => h.2)) (fun _ h => h.1)); have n1_ := Aside0.mk (KeepBut.trans Qe0_ hk (.inl rfl)); have n2_ := Aside0.mk (hb); have n3_ := Aside0.mk (hi); clear HO179; clear HK; clear HB; clear HI0; have HO179 := n0_; have HK := n1_; have HB := n2_; have HI0 := n3_; clear n0_ n1_ n2_ n3_; (try clear hb); (try clear hb2); (try clear hk); (try clear hi)) | ((with_reducible refine gate_callee (f := 12) rfl ?_); refine goesL_ (some 40) rfl rfl Tryz.func12 Ql0_ rfl #[.pointer (some ⟨g, 0, none⟩), .int .i64 9] rfl Qb0_ ?_; (with_reducible refine (spec_l00Src_pick.calls g s0_0 t181 t182 9 t183 t184 t185 w0 _ ?side1 ?side2 A17.out).mono ?_); (case side1 => exact Qi0_); (case side2 => exact Qd0_); rintro e w24 ⟨rfl, hi, hb, hk⟩; refine ⟨_, rfl, ?_⟩; have n0_ := Aside0.mk (Kd.R_mono (Kd.R_keep (IsS53.apart (show IsS53 w0 _ g s0_0 t181 t182 from Qc0_) (Qr_ HO179.out) (by decide)) hk (fun _ h => h.2)) (fun _ h => h.1)); have n1_ := Aside0.mk (KeepBut.trans Qe0_ hk (.inl rfl)); have n2_ := Aside0.mk (hb); have n3_ := Aside0.mk (hi); clear HO179; clear HK; clear HB; clear HI0; have HO179 := n0_; have HK := n1_; have HB := n2_; have HI0 := n3_; clear n0_ n1_ n2_ n3_; (try clear hb); (try clear hb2); (try clear hk); (try clear hi)))
     by_cases c18 : t183 = 0
     ·rw [if_pos c18] at H
      have c18b0 := beq_iff_eq.mpr c18
      have c18b1 := bne_eq_false_iff_eq.mpr c18
      clear c18
      obtain ⟨y186, hy186⟩ : ∃ y_ : List ByteArray, y_ = (([(⟨#[]⟩ : ByteArray), (⟨#[119, 104, 97, 116]⟩ : ByteArray), (⟨#[115, 101, 116]⟩ : ByteArray), (⟨#[115, 101, 116, 32, 97]⟩ : ByteArray), (⟨#[115, 101, 116, 32, 97, 32, 50]⟩ : ByteArray), (⟨#[115, 101, 116, 32, 97, 32, 110, 111, 110, 101]⟩ : ByteArray), (⟨#[115, 101, 116, 32, 97, 32]⟩ : ByteArray), (⟨#[115, 104, 111, 119]⟩ : ByteArray), (⟨#[98, 108, 111, 99, 107, 115, 32, 120, 32, 49, 32, 50, 32, 45, 49, 32, 48, 44, 49, 44, 49]⟩ : ByteArray), (⟨#[98, 108, 111, 99, 107, 115, 32, 120, 32, 49, 32, 50, 32, 48, 32, 48]⟩ : ByteArray), (⟨#[98, 108, 111, 99, 107, 115, 32, 120, 32, 57, 32, 50, 32, 49, 32, 48]⟩ : ByteArray), (⟨#[100, 97, 116, 97, 32, 97, 32, 49, 32, 50]⟩ : ByteArray), (⟨#[108, 97, 121, 32, 98, 32, 97, 32, 50]⟩ : ByteArray), (⟨#[102, 108, 105, 112, 32, 97, 32, 45, 49]⟩ : ByteArray), (⟨#[118, 111, 116, 101, 32, 98, 32, 97, 32, 50]⟩ : ByteArray), (⟨#[99, 108, 111, 99, 107, 32, 98, 32, 97, 32, 49, 32, 50]⟩ : ByteArray)] : List ByteArray)) := ⟨_, rfl⟩
      replace H : ((spec_l00Src_text.f s0_0 t184 t185 y186).bind fun bt189 => (some (bt189.1, bt189.2.1, bt189.2.2))) = some (r1, r2, r3) := by first | (rw [hy186]; with_reducible exact H) | (have H2_ := (Option.bind_some _ _).symm.trans H; rw [hy186]; with_reducible exact H2_) | (have H2_ := (Option.bind_some _ _).symm.trans H; with_reducible exact H2_) | with_reducible exact H | (rw [hy186]; exact H) | exact H
      have Ny186 := Aside0.mk hy186
      clear hy186
      replace H := Option.bind_eq_some_iff.mp H
      obtain ⟨⟨t189, t190, t191⟩, A190, H⟩ := H
      try dsimp only at H
      have A19 := Aside0.mk A190
      clear A190
      simp only [Option.some.injEq, Prod.mk.injEq] at H
      obtain ⟨rfl, rfl, rfl⟩ := H
      go_wp2_with (first | ((with_reducible refine gate_dst (N := 44) rfl ?_); refine Kd.R_lit Kd.string _ 9 ?hg (N := 44) ?hd (xs := ([(⟨#[]⟩ : ByteArray), (⟨#[119, 104, 97, 116]⟩ : ByteArray), (⟨#[115, 101, 116]⟩ : ByteArray), (⟨#[115, 101, 116, 32, 97]⟩ : ByteArray), (⟨#[115, 101, 116, 32, 97, 32, 50]⟩ : ByteArray), (⟨#[115, 101, 116, 32, 97, 32, 110, 111, 110, 101]⟩ : ByteArray), (⟨#[115, 101, 116, 32, 97, 32]⟩ : ByteArray), (⟨#[115, 104, 111, 119]⟩ : ByteArray), (⟨#[98, 108, 111, 99, 107, 115, 32, 120, 32, 49, 32, 50, 32, 45, 49, 32, 48, 44, 49, 44, 49]⟩ : ByteArray), (⟨#[98, 108, 111, 99, 107, 115, 32, 120, 32, 49, 32, 50, 32, 48, 32, 48]⟩ : ByteArray), (⟨#[98, 108, 111, 99, 107, 115, 32, 120, 32, 57, 32, 50, 32, 49, 32, 48]⟩ : ByteArray), (⟨#[100, 97, 116, 97, 32, 97, 32, 49, 32, 50]⟩ : ByteArray), (⟨#[108, 97, 121, 32, 98, 32, 97, 32, 50]⟩ : ByteArray), (⟨#[102, 108, 105, 112, 32, 97, 32, 45, 49]⟩ : ByteArray), (⟨#[118, 111, 116, 101, 32, 98, 32, 97, 32, 50]⟩ : ByteArray), (⟨#[99, 108, 111, 99, 107, 32, 98, 32, 97, 32, 49, 32, 50]⟩ : ByteArray)] : List ByteArray)) (inner := [.string (⟨#[]⟩ : ByteArray), .string (⟨#[119, 104, 97, 116]⟩ : ByteArray), .string (⟨#[115, 101, 116]⟩ : ByteArray), .string (⟨#[115, 101, 116, 32, 97]⟩ : ByteArray), .string (⟨#[115, 101, 116, 32, 97, 32, 50]⟩ : ByteArray), .string (⟨#[115, 101, 116, 32, 97, 32, 110, 111, 110, 101]⟩ : ByteArray), .string (⟨#[115, 101, 116, 32, 97, 32]⟩ : ByteArray), .string (⟨#[115, 104, 111, 119]⟩ : ByteArray), .string (⟨#[98, 108, 111, 99, 107, 115, 32, 120, 32, 49, 32, 50, 32, 45, 49, 32, 48, 44, 49, 44, 49]⟩ : ByteArray), .string (⟨#[98, 108, 111, 99, 107, 115, 32, 120, 32, 49, 32, 50, 32, 48, 32, 48]⟩ : ByteArray), .string (⟨#[98, 108, 111, 99, 107, 115, 32, 120, 32, 57, 32, 50, 32, 49, 32, 48]⟩ : ByteArray), .string (⟨#[100, 97, 116, 97, 32, 97, 32, 49, 32, 50]⟩ : ByteArray), .string (⟨#[108, 97, 121, 32, 98, 32, 97, 32, 50]⟩ : ByteArray), .string (⟨#[102, 108, 105, 112, 32, 97, 32, 45, 49]⟩ : ByteArray), .string (⟨#[118, 111, 116, 101, 32, 98, 32, 97, 32, 50]⟩ : ByteArray), .string (⟨#[99, 108, 111, 99, 107, 32, 98, 32, 97, 32, 49, 32, 50]⟩ : ByteArray)]) (ok := fun _ => True) (okp := fun _ => True) ?hr ?hp (fun _ hk => hk) trivial (Below.refl _ _) (Nat.le_refl _) (by simp) ?_; (case hd => rfl); (case hg => rfl); (case hr => exact Qj0_); (case hp => exact (Reps.one (show Kd.M Kd.string _ _ _ (⟨#[]⟩ : ByteArray) [.string (⟨#[]⟩ : ByteArray)] from rfl) (Reps.one (show Kd.M Kd.string _ _ _ (⟨#[119, 104, 97, 116]⟩ : ByteArray) [.string (⟨#[119, 104, 97, 116]⟩ : ByteArray)] from rfl) (Reps.one (show Kd.M Kd.string _ _ _ (⟨#[115, 101, 116]⟩ : ByteArray) [.string (⟨#[115, 101, 116]⟩ : ByteArray)] from rfl) (Reps.one (show Kd.M Kd.string _ _ _ (⟨#[115, 101, 116, 32, 97]⟩ : ByteArray) [.string (⟨#[115, 101, 116, 32, 97]⟩ : ByteArray)] from rfl) (Reps.one (show Kd.M Kd.string _ _ _ (⟨#[115, 101, 116, 32, 97, 32, 50]⟩ : ByteArray) [.string (⟨#[115, 101, 116, 32, 97, 32, 50]⟩ : ByteArray)] from rfl) (Reps.one (show Kd.M Kd.string _ _ _ (⟨#[115, 101, 116, 32, 97, 32, 110, 111, 110, 101]⟩ : ByteArray) [.string (⟨#[115, 101, 116, 32, 97, 32, 110, 111, 110, 101]⟩ : ByteArray)] from rfl) (Reps.one (show Kd.M Kd.string _ _ _ (⟨#[115, 101, 116, 32, 97, 32]⟩ : ByteArray) [.string (⟨#[115, 101, 116, 32, 97, 32]⟩ : ByteArray)] from rfl) (Reps.one (show Kd.M Kd.string _ _ _ (⟨#[115, 104, 111, 119]⟩ : ByteArray) [.string (⟨#[115, 104, 111, 119]⟩ : ByteArray)] from rfl) (Reps.one (show Kd.M Kd.string _ _ _ (⟨#[98, 108, 111, 99, 107, 115, 32, 120, 32, 49, 32, 50, 32, 45, 49, 32, 48, 44, 49, 44, 49]⟩ : ByteArray) [.string (⟨#[98, 108, 111, 99, 107, 115, 32, 120, 32, 49, 32, 50, 32, 45, 49, 32, 48, 44, 49, 44, 49]⟩ : ByteArray)] from rfl) (Reps.one (show Kd.M Kd.string _ _ _ (⟨#[98, 108, 111, 99, 107, 115, 32, 120, 32, 49, 32, 50, 32, 48, 32, 48]⟩ : ByteArray) [.string (⟨#[98, 108, 111, 99, 107, 115, 32, 120, 32, 49, 32, 50, 32, 48, 32, 48]⟩ : ByteArray)] from rfl) (Reps.one (show Kd.M Kd.string _ _ _ (⟨#[98, 108, 111, 99, 107, 115, 32, 120, 32, 57, 32, 50, 32, 49, 32, 48]⟩ : ByteArray) [.string (⟨#[98, 108, 111, 99, 107, 115, 32, 120, 32, 57, 32, 50, 32, 49, 32, 48]⟩ : ByteArray)] from rfl) (Reps.one (show Kd.M Kd.string _ _ _ (⟨#[100, 97, 116, 97, 32, 97, 32, 49, 32, 50]⟩ : ByteArray) [.string (⟨#[100, 97, 116, 97, 32, 97, 32, 49, 32, 50]⟩ : ByteArray)] from rfl) (Reps.one (show Kd.M Kd.string _ _ _ (⟨#[108, 97, 121, 32, 98, 32, 97, 32, 50]⟩ : ByteArray) [.string (⟨#[108, 97, 121, 32, 98, 32, 97, 32, 50]⟩ : ByteArray)] from rfl) (Reps.one (show Kd.M Kd.string _ _ _ (⟨#[102, 108, 105, 112, 32, 97, 32, 45, 49]⟩ : ByteArray) [.string (⟨#[102, 108, 105, 112, 32, 97, 32, 45, 49]⟩ : ByteArray)] from rfl) (Reps.one (show Kd.M Kd.string _ _ _ (⟨#[118, 111, 116, 101, 32, 98, 32, 97, 32, 50]⟩ : ByteArray) [.string (⟨#[118, 111, 116, 101, 32, 98, 32, 97, 32, 50]⟩ : ByteArray)] from rfl) (Reps.one (show Kd.M Kd.string _ _ _ (⟨#[99, 108, 111, 99, 107, 32, 98, 32, 97, 32, 49, 32, 50]⟩ : ByteArray) [.string (⟨#[99, 108, 111, 99, 107, 32, 98, 32, 97, 32, 49, 32, 50]⟩ : ByteArray)] from rfl) (Reps.none _ _)))))))))))))))))); intro v187 w25 ho26 hb hg_ hnew_; clear hg_ hnew_; (first | rw [← Ny186.out] at ho26 | (simp only [Int.reduceToNat] at ho26; rw [← Ny186.out] at ho26)); have n0_ := Aside0.mk (Kd.R_elder' (Qr_ HO179.out) (Kd.R_base ho26) hb); have n1_ := Aside0.mk (Kd.R_lower (Kd.R_new' ho26 (Kd.R_lt (Qr_ HO179.out))) (keep_size (w := w) (g := g) (row := none) Qe0_)); have n2_ := Aside0.mk (IsS53.below Qc0_ hb); have n3_ := Aside0.mk (KeepBut.trans Qe0_ (KeepBut.of_below hb g none) (.inl rfl)); have n4_ := Aside0.mk (below_step Qd0_ hb); clear HO179; clear HI0; clear HK; clear HB; have HO179 := n0_; have HO188 := n1_; have HI0 := n2_; have HK := n3_; have HB := n4_; clear n0_ n1_ n2_ n3_ n4_; clear hb ho26; obtain ⟨Ao27, co27, eo27⟩ := Kd.R_slice HO188.out; subst eo27) | ((with_reducible refine gate_callee (f := 21) rfl ?_); refine goesL_ (some 45) rfl rfl Tryz.func21 Ql0_ rfl #[.pointer (some ⟨g, 0, none⟩), .slice Ao27 y186.length co27] rfl Qb0_ ?_; (with_reducible refine (spec_l00Src_text.calls g s0_0 t184 t185 _ _ y186 t189 t190 t191 w0 _ ?side1 ?side2 ?side3 ?side4 ?side5 A19.out).mono ?_); (case side1 => exact Qi0_); (case side2 => exact Qd0_); (case side3 => exact Qc_ (Kd.R_reads' HO188.out).2.2); (case side4 => exact (Kd.R_reads' HO188.out).2.1); (case side5 => exact far_slice (IsS53.own_ne HI0.out HO188.out (by decide))); rintro e w28 ⟨rfl, hi, hb, hk⟩; refine ⟨_, rfl, ?_⟩; have n0_ := Aside0.mk (Kd.R_mono (Kd.R_keep (IsS53.apart (show IsS53 w0 _ g s0_0 t184 t185 from Qc0_) (Qr_ HO179.out) (by decide)) hk (fun _ h => h.2)) (fun _ h => h.1)); have n1_ := Aside0.mk (Kd.R_mono (Kd.R_keep (IsS53.apart (show IsS53 w0 _ g s0_0 t184 t185 from Qc0_) (Qr_ HO188.out) (by decide)) hk (fun _ h => h.2)) (fun _ h => h.1)); have n2_ := Aside0.mk (KeepBut.trans Qe0_ hk (.inl rfl)); have n3_ := Aside0.mk (hb); have n4_ := Aside0.mk (hi); clear HO179; clear HO188; clear HK; clear HB; clear HI0; have HO179 := n0_; have HO188 := n1_; have HK := n2_; have HB := n3_; have HI0 := n4_; clear n0_ n1_ n2_ n3_ n4_; (try clear hb); (try clear hb2); (try clear hk); (try clear hi)))
      go_ret
      exact ⟨Qh0_, Qc0_, Qd0_, Qe0_⟩
     ·rw [if_neg c18] at H
      have c18b0 := beq_eq_false_iff_ne.mpr c18
      have c18b1 := bne_iff_ne.mpr c18
      by_cases c29 : t183 = 1
      ·rw [if_pos c29] at H
       have c29b0 := beq_iff_eq.mpr c29
       have c29b1 := bne_eq_false_iff_eq.mpr c29
       clear c29
       by_cases c30 : 4 + t180.size ≤ 9223372036854775807
       ·rw [if_pos c30] at H
        have c30b0 := eq_true c30
        have c30b1 := decide_eq_true c30
        try have c30b2 := eq_false (Nat.not_lt.2 c30)
        by_cases c31 : ((⟨#[115, 101, 116, 32]⟩ : ByteArray) ++ t180).size + 1 ≤ 9223372036854775807
        ·rw [if_pos c31] at H
         have c31b0 := eq_true c31
         have c31b1 := decide_eq_true c31
         try have c31b2 := eq_false (Nat.not_lt.2 c31)
         try have c31b4 : (9223372036854775807 < (4 + t180.size) + 1) = False := eq_false (Nat.not_lt.2 (by have q_ := c31; simp only [ByteArray.size_append] at q_; exact q_))
         replace H := Option.bind_eq_some_iff.mp H
         obtain ⟨⟨t192, t193, t194⟩, A320, H⟩ := H
         try dsimp only at H
         have A32 := Aside0.mk A320
         clear A320
         replace H := Option.bind_eq_some_iff.mp H
         obtain ⟨t195, A330, H⟩ := H
         try dsimp only at H
         have A33 := Aside0.mk A330
         clear A330
         by_cases c34 : (((⟨#[115, 101, 116, 32]⟩ : ByteArray) ++ t180) ++ (⟨#[32]⟩ : ByteArray)).size + t195.size ≤ 9223372036854775807
         ·rw [if_pos c34] at H
          have c34b0 := eq_true c34
          have c34b1 := decide_eq_true c34
          try have c34b2 := eq_false (Nat.not_lt.2 c34)
          try have c34b4 : (9223372036854775807 < ((4 + t180.size) + 1) + t195.size) = False := eq_false (Nat.not_lt.2 (by have q_ := c34; simp only [ByteArray.size_append] at q_; exact q_))
          simp only [Option.some.injEq, Prod.mk.injEq] at H
          obtain ⟨rfl, rfl, rfl⟩ := H
          go_wp2_with (first | ((with_reducible refine gate_callee (f := 23) rfl ?_); refine goesL_ (some 52) rfl rfl Tryz.func23 Ql0_ rfl #[.pointer (some ⟨g, 0, none⟩)] rfl Qb0_ ?_; (with_reducible refine (spec_l11DrawFew.calls kj11 g s0_0 t184 t185 t192 t193 t194 w0 _ ?side1 ?side2 A32.out).mono ?_); (case side1 => exact Qi0_); (case side2 => exact Qd0_); rintro e w40 ⟨rfl, hi, hb, hk⟩; refine ⟨_, rfl, ?_⟩; have n0_ := Aside0.mk (Kd.R_mono (Kd.R_keep (IsS53.apart (show IsS53 w0 _ g s0_0 t184 t185 from Qc0_) (Qr_ HO179.out) (by decide)) hk (fun _ h => h.2)) (fun _ h => h.1)); have n1_ := Aside0.mk (KeepBut.trans Qe0_ hk (.inl rfl)); have n2_ := Aside0.mk (hb); have n3_ := Aside0.mk (hi); clear HO179; clear HK; clear HB; clear HI0; have HO179 := n0_; have HK := n1_; have HB := n2_; have HI0 := n3_; clear n0_ n1_ n2_ n3_; (try clear hb); (try clear hb2); (try clear hk); (try clear hi)) | ((with_reducible refine gate_callee (f := 26) rfl ?_); refine goesL_ (some 53) rfl rfl Tryz.func26 Ql0_ rfl #[.string t192] rfl Qb0_ ?_; (with_reducible refine (spec_l11Show.calls t192 t195 _ A33.out).mono ?_); rintro e w' ⟨rfl, ⟨nd, rfl⟩⟩; refine ⟨_, rfl, ?_⟩))
          go_ret
          exact ⟨Qh0_, Qc0_, Qd0_, Qe0_⟩
         ·rw [if_neg c34] at H
          exact absurd H (by simp)
        ·rw [if_neg c31] at H
         exact absurd H (by simp)
       ·rw [if_neg c30] at H
        exact absurd H (by simp)
      ·rw [if_neg c29] at H
       have c29b0 := beq_eq_false_iff_ne.mpr c29
       have c29b1 := bne_iff_ne.mpr c29
       by_cases c41 : t183 = 2
       ·rw [if_pos c41] at H
        have c41b0 := beq_iff_eq.mpr c41
        have c41b1 := bne_eq_false_iff_eq.mpr c41
        clear c41
        obtain ⟨y196, hy196⟩ : ∃ y_ : List ByteArray, y_ = (([(⟨#[115, 104, 111, 119, 32]⟩ : ByteArray), (⟨#[100, 114, 111, 112, 32]⟩ : ByteArray), (⟨#[115, 104, 111, 119, 32]⟩ : ByteArray)] : List ByteArray)) := ⟨_, rfl⟩
        replace H : ((spec_l00Src_text.f s0_0 t184 t185 y196).bind fun bt199 => (if bt199.1.size + x5_11.size ≤ 9223372036854775807 then (some (bt199.1 ++ x5_11, bt199.2.1, bt199.2.2)) else (none))) = some (r1, r2, r3) := by first | (rw [hy196]; with_reducible exact H) | (have H2_ := (Option.bind_some _ _).symm.trans H; rw [hy196]; with_reducible exact H2_) | (have H2_ := (Option.bind_some _ _).symm.trans H; with_reducible exact H2_) | with_reducible exact H | (rw [hy196]; exact H) | exact H
        have Ny196 := Aside0.mk hy196
        clear hy196
        replace H := Option.bind_eq_some_iff.mp H
        obtain ⟨⟨t199, t200, t201⟩, A420, H⟩ := H
        try dsimp only at H
        have A42 := Aside0.mk A420
        clear A420
        by_cases c43 : t199.size + x5_11.size ≤ 9223372036854775807
        ·rw [if_pos c43] at H
         have c43b0 := eq_true c43
         have c43b1 := decide_eq_true c43
         try have c43b2 := eq_false (Nat.not_lt.2 c43)
         simp only [Option.some.injEq, Prod.mk.injEq] at H
         obtain ⟨rfl, rfl, rfl⟩ := H
         go_wp2_with (first | ((with_reducible refine gate_dst (N := 58) rfl ?_); refine Kd.R_lit Kd.string _ 9 ?hg (N := 58) ?hd (xs := ([(⟨#[115, 104, 111, 119, 32]⟩ : ByteArray), (⟨#[100, 114, 111, 112, 32]⟩ : ByteArray), (⟨#[115, 104, 111, 119, 32]⟩ : ByteArray)] : List ByteArray)) (inner := [.string (⟨#[115, 104, 111, 119, 32]⟩ : ByteArray), .string (⟨#[100, 114, 111, 112, 32]⟩ : ByteArray), .string (⟨#[115, 104, 111, 119, 32]⟩ : ByteArray)]) (ok := fun _ => True) (okp := fun _ => True) ?hr ?hp (fun _ hk => hk) trivial (Below.refl _ _) (Nat.le_refl _) (by simp) ?_; (case hd => rfl); (case hg => rfl); (case hr => exact Qj0_); (case hp => exact (Reps.one (show Kd.M Kd.string _ _ _ (⟨#[115, 104, 111, 119, 32]⟩ : ByteArray) [.string (⟨#[115, 104, 111, 119, 32]⟩ : ByteArray)] from rfl) (Reps.one (show Kd.M Kd.string _ _ _ (⟨#[100, 114, 111, 112, 32]⟩ : ByteArray) [.string (⟨#[100, 114, 111, 112, 32]⟩ : ByteArray)] from rfl) (Reps.one (show Kd.M Kd.string _ _ _ (⟨#[115, 104, 111, 119, 32]⟩ : ByteArray) [.string (⟨#[115, 104, 111, 119, 32]⟩ : ByteArray)] from rfl) (Reps.none _ _))))); intro v197 w49 ho50 hb hg_ hnew_; clear hg_ hnew_; (first | rw [← Ny196.out] at ho50 | (simp only [Int.reduceToNat] at ho50; rw [← Ny196.out] at ho50)); have n0_ := Aside0.mk (Kd.R_elder' (Qr_ HO179.out) (Kd.R_base ho50) hb); have n1_ := Aside0.mk (Kd.R_lower (Kd.R_new' ho50 (Kd.R_lt (Qr_ HO179.out))) (keep_size (w := w) (g := g) (row := none) Qe0_)); have n2_ := Aside0.mk (IsS53.below Qc0_ hb); have n3_ := Aside0.mk (KeepBut.trans Qe0_ (KeepBut.of_below hb g none) (.inl rfl)); have n4_ := Aside0.mk (below_step Qd0_ hb); clear HO179; clear HI0; clear HK; clear HB; have HO179 := n0_; have HO198 := n1_; have HI0 := n2_; have HK := n3_; have HB := n4_; clear n0_ n1_ n2_ n3_ n4_; clear hb ho50; obtain ⟨Ao51, co51, eo51⟩ := Kd.R_slice HO198.out; subst eo51) | ((with_reducible refine gate_callee (f := 21) rfl ?_); refine goesL_ (some 59) rfl rfl Tryz.func21 Ql0_ rfl #[.pointer (some ⟨g, 0, none⟩), .slice Ao51 y196.length co51] rfl Qb0_ ?_; (with_reducible refine (spec_l00Src_text.calls g s0_0 t184 t185 _ _ y196 t199 t200 t201 w0 _ ?side1 ?side2 ?side3 ?side4 ?side5 A42.out).mono ?_); (case side1 => exact Qi0_); (case side2 => exact Qd0_); (case side3 => exact Qc_ (Kd.R_reads' HO198.out).2.2); (case side4 => exact (Kd.R_reads' HO198.out).2.1); (case side5 => exact far_slice (IsS53.own_ne HI0.out HO198.out (by decide))); rintro e w52 ⟨rfl, hi, hb, hk⟩; refine ⟨_, rfl, ?_⟩; have n0_ := Aside0.mk (Kd.R_mono (Kd.R_keep (IsS53.apart (show IsS53 w0 _ g s0_0 t184 t185 from Qc0_) (Qr_ HO179.out) (by decide)) hk (fun _ h => h.2)) (fun _ h => h.1)); have n1_ := Aside0.mk (Kd.R_mono (Kd.R_keep (IsS53.apart (show IsS53 w0 _ g s0_0 t184 t185 from Qc0_) (Qr_ HO198.out) (by decide)) hk (fun _ h => h.2)) (fun _ h => h.1)); have n2_ := Aside0.mk (KeepBut.trans Qe0_ hk (.inl rfl)); have n3_ := Aside0.mk (hb); have n4_ := Aside0.mk (hi); clear HO179; clear HO198; clear HK; clear HB; clear HI0; have HO179 := n0_; have HO198 := n1_; have HK := n2_; have HB := n3_; have HI0 := n4_; clear n0_ n1_ n2_ n3_ n4_; (try clear hb); (try clear hb2); (try clear hk); (try clear hi)))
         go_ret
         exact ⟨Qh0_, Qc0_, Qd0_, Qe0_⟩
        ·rw [if_neg c43] at H
         exact absurd H (by simp)
       ·rw [if_neg c41] at H
        have c41b0 := beq_eq_false_iff_ne.mpr c41
        have c41b1 := bne_iff_ne.mpr c41
        by_cases c53 : t183 = 3
        ·rw [if_pos c53] at H
         have c53b0 := beq_iff_eq.mpr c53
         have c53b1 := bne_eq_false_iff_eq.mpr c53
         clear c53
         by_cases c54 : 5 + x5_11.size ≤ 9223372036854775807
         ·rw [if_pos c54] at H
          have c54b0 := eq_true c54
          have c54b1 := decide_eq_true c54
          try have c54b2 := eq_false (Nat.not_lt.2 c54)
          by_cases c55 : ((⟨#[102, 108, 105, 112, 32]⟩ : ByteArray) ++ x5_11).size + 1 ≤ 9223372036854775807
          ·rw [if_pos c55] at H
           have c55b0 := eq_true c55
           have c55b1 := decide_eq_true c55
           try have c55b2 := eq_false (Nat.not_lt.2 c55)
           try have c55b4 : (9223372036854775807 < (5 + x5_11.size) + 1) = False := eq_false (Nat.not_lt.2 (by have q_ := c55; simp only [ByteArray.size_append] at q_; exact q_))
           replace H := Option.bind_eq_some_iff.mp H
           obtain ⟨⟨t202, t203, t204⟩, A560, H⟩ := H
           try dsimp only at H
           have A56 := Aside0.mk A560
           clear A560
           replace H := Option.bind_eq_some_iff.mp H
           obtain ⟨t205, A570, H⟩ := H
           try dsimp only at H
           have A57 := Aside0.mk A570
           clear A570
           by_cases c58 : (((⟨#[102, 108, 105, 112, 32]⟩ : ByteArray) ++ x5_11) ++ (⟨#[32]⟩ : ByteArray)).size + t205.size ≤ 9223372036854775807
           ·rw [if_pos c58] at H
            have c58b0 := eq_true c58
            have c58b1 := decide_eq_true c58
            try have c58b2 := eq_false (Nat.not_lt.2 c58)
            try have c58b4 : (9223372036854775807 < ((5 + x5_11.size) + 1) + t205.size) = False := eq_false (Nat.not_lt.2 (by have q_ := c58; simp only [ByteArray.size_append] at q_; exact q_))
            simp only [Option.some.injEq, Prod.mk.injEq] at H
            obtain ⟨rfl, rfl, rfl⟩ := H
            go_wp2_with (first | ((with_reducible refine gate_callee (f := 12) rfl ?_); refine goesL_ (some 69) rfl rfl Tryz.func12 Ql0_ rfl #[.pointer (some ⟨g, 0, none⟩), .int .i64 26] rfl Qb0_ ?_; (with_reducible refine (spec_l00Src_pick.calls g s0_0 t184 t185 26 t202 t203 t204 w0 _ ?side1 ?side2 A56.out).mono ?_); (case side1 => exact Qi0_); (case side2 => exact Qd0_); rintro e w64 ⟨rfl, hi, hb, hk⟩; refine ⟨_, rfl, ?_⟩; have n0_ := Aside0.mk (Kd.R_mono (Kd.R_keep (IsS53.apart (show IsS53 w0 _ g s0_0 t184 t185 from Qc0_) (Qr_ HO179.out) (by decide)) hk (fun _ h => h.2)) (fun _ h => h.1)); have n1_ := Aside0.mk (KeepBut.trans Qe0_ hk (.inl rfl)); have n2_ := Aside0.mk (hb); have n3_ := Aside0.mk (hi); clear HO179; clear HK; clear HB; clear HI0; have HO179 := n0_; have HK := n1_; have HB := n2_; have HI0 := n3_; clear n0_ n1_ n2_ n3_; (try clear hb); (try clear hb2); (try clear hk); (try clear hi)) | ((with_reducible refine gate_callee (f := 27) rfl ?_); refine goesL_ (some 71) rfl rfl Tryz.func27 Ql0_ rfl #[.int .i64 (wrap64 (t202 - 1))] rfl Qb0_ ?_; (with_reducible refine (spec_l01Dec.calls kj11 (wrap64 (t202 - 1)) t205 _ A57.out).mono ?_); rintro e w65 ⟨rfl, hb⟩; refine ⟨_, rfl, ?_⟩; have n0_ := Aside0.mk (Kd.R_below (Qr_ HO179.out) hb); have n1_ := Aside0.mk (IsS53.below Qc0_ hb); have n2_ := Aside0.mk (KeepBut.trans Qe0_ (KeepBut.of_below hb g none) (.inl rfl)); have n3_ := Aside0.mk (below_step Qd0_ hb); clear HO179; clear HI0; clear HK; clear HB; have HO179 := n0_; have HI0 := n1_; have HK := n2_; have HB := n3_; clear n0_ n1_ n2_ n3_; (try clear hb); (try clear hb2); (try clear hk); (try clear hi)))
            go_ret
            exact ⟨Qh0_, Qc0_, Qd0_, Qe0_⟩
           ·rw [if_neg c58] at H
            exact absurd H (by simp)
          ·rw [if_neg c55] at H
           exact absurd H (by simp)
         ·rw [if_neg c54] at H
          exact absurd H (by simp)
        ·rw [if_neg c53] at H
         have c53b0 := beq_eq_false_iff_ne.mpr c53
         have c53b1 := bne_iff_ne.mpr c53
         by_cases c66 : t183 = 4
         ·rw [if_pos c66] at H
          have c66b0 := beq_iff_eq.mpr c66
          have c66b1 := bne_eq_false_iff_eq.mpr c66
          clear c66
          obtain ⟨y206, hy206⟩ : ∃ y_ : List Int, y_ = (([] : List Int)) := ⟨_, rfl⟩
          replace H : ((spec_l00Src_pick.f s0_0 t184 t185 5).bind fun bt209 => (spec_l11DrawLine.l0 kj11 t180 y206 bt209.1 s0_0 bt209.2.1 bt209.2.2)) = some (r1, r2, r3) := by first | (rw [hy206]; with_reducible exact H) | (have H2_ := (Option.bind_some _ _).symm.trans H; rw [hy206]; with_reducible exact H2_) | (have H2_ := (Option.bind_some _ _).symm.trans H; with_reducible exact H2_) | with_reducible exact H | (rw [hy206]; exact H) | exact H
          have Ny206 := Aside0.mk hy206
          clear hy206
          replace H := Option.bind_eq_some_iff.mp H
          obtain ⟨⟨t209, t210, t211⟩, A670, H⟩ := H
          try dsimp only at H
          have A67 := Aside0.mk A670
          clear A670
          have H' := Aside0.mk H
          clear H
          go_wp2_with (first | ((with_reducible refine gate_dst (N := 75) rfl ?_); refine Kd.R_lit (Kd.int .i64) _ 2 ?hg (N := 75) ?hd (xs := ([] : List Int)) (inner := []) (ok := fun _ => True) (okp := fun _ => True) ?hr ?hp (fun _ hk => hk) trivial (Below.refl _ _) (Nat.le_refl _) (by simp) ?_; (case hd => rfl); (case hg => rfl); (case hr => exact Qj0_); (case hp => exact (Reps.none _ _)); intro v207 w73 ho74 hb hg_ hnew_; clear hg_ hnew_; (first | rw [← Ny206.out] at ho74 | (simp only [Int.reduceToNat] at ho74; rw [← Ny206.out] at ho74)); have n0_ := Aside0.mk (Kd.R_below (Qr_ HO179.out) hb); have n1_ := Aside0.mk (Kd.R_lower ho74 (keep_size (w := w) (g := g) (row := none) Qe0_)); have n2_ := Aside0.mk (IsS53.below Qc0_ hb); have n3_ := Aside0.mk (KeepBut.trans Qe0_ (KeepBut.of_below hb g none) (.inl rfl)); have n4_ := Aside0.mk (below_step Qd0_ hb); clear HO179; clear HI0; clear HK; clear HB; have HO179 := n0_; have HO208 := n1_; have HI0 := n2_; have HK := n3_; have HB := n4_; clear n0_ n1_ n2_ n3_ n4_; clear hb ho74) | ((with_reducible refine gate_callee (f := 12) rfl ?_); refine goesL_ (some 77) rfl rfl Tryz.func12 Ql0_ rfl #[.pointer (some ⟨g, 0, none⟩), .int .i64 5] rfl Qb0_ ?_; (with_reducible refine (spec_l00Src_pick.calls g s0_0 t184 t185 5 t209 t210 t211 w0 _ ?side1 ?side2 A67.out).mono ?_); (case side1 => exact Qi0_); (case side2 => exact Qd0_); rintro e w75 ⟨rfl, hi, hb, hk⟩; refine ⟨_, rfl, ?_⟩; have n0_ := Aside0.mk (Kd.R_mono (Kd.R_keep (IsS53.apart (show IsS53 w0 _ g s0_0 t184 t185 from Qc0_) (Qr_ HO179.out) (by decide)) hk (fun _ h => h.2)) (fun _ h => h.1)); have n1_ := Aside0.mk (Kd.R_mono (Kd.R_keep (IsS53.apart (show IsS53 w0 _ g s0_0 t184 t185 from Qc0_) (Qr_ HO208.out) (by decide)) hk (fun _ h => h.2)) (fun _ h => h.1)); have n2_ := Aside0.mk (KeepBut.trans Qe0_ hk (.inl rfl)); have n3_ := Aside0.mk (hb); have n4_ := Aside0.mk (hi); clear HO179; clear HO208; clear HK; clear HB; clear HI0; have HO179 := n0_; have HO208 := n1_; have HK := n2_; have HB := n3_; have HI0 := n4_; clear n0_ n1_ n2_ n3_ n4_; (try clear hb); (try clear hb2); (try clear hk); (try clear hi)))
          go_loopg [8, 9] kj11 (fun kq v8 v9 w' => ∃ (x8_3 : List Int) (x9_3 : Int) (x1001_3 : Int) (x1002_3 : Int), v9 = .int .i64 x9_3 ∧ Aside0 (spec_l11DrawLine.l0 kq t180 x8_3 x9_3 s0_0 x1001_3 x1002_3 = some (r1, r2, r3)) ∧ Aside0 (kq ≤ kj11) ∧ Aside0 (Kd.R (Kd.int .i64) 2 w' w.heap.size (fun _ => True) v8 x8_3) ∧ Aside0 (IsS53 w0 w' g s0_0 x1001_3 x1002_3) ∧ Aside0 (KeepBut w w' g none) ∧ Aside0 (Below w0.heap.size w0 w'))
          case atStart => exact ⟨(y206), (t209), (t210), (t211), Qf0_, H', ⟨Nat.le_refl _⟩, ⟨Qr_ HO208.out⟩, ⟨Qc0_⟩, ⟨Qe0_⟩, ⟨Qd0_⟩⟩
          case round =>
           clear H'
           try clear c1
           try clear c2
           try clear p2
           try clear c3
           try clear c4
           try clear c5
           try clear c6
           try clear p6
           try clear c9
           try clear c9b0
           try clear c9b1
           try clear c12
           try clear c13
           try clear c18
           try clear c18b0
           try clear c18b1
           try clear c21
           try clear c23
           try clear c26
           try clear c27
           try clear c29
           try clear c29b0
           try clear c29b1
           try clear c30
           try clear c30b0
           try clear c30b1
           try clear c30b2
           try clear c31
           try clear c31b0
           try clear c31b1
           try clear c31b2
           try clear c34
           try clear c34b0
           try clear c34b1
           try clear c34b2
           try clear c41
           try clear c41b0
           try clear c41b1
           try clear c43
           try clear c43b0
           try clear c43b1
           try clear c43b2
           try clear c53
           try clear c53b0
           try clear c53b1
           try clear c54
           try clear c54b0
           try clear c54b1
           try clear c54b2
           try clear c55
           try clear c55b0
           try clear c55b1
           try clear c55b2
           try clear c58
           try clear c58b0
           try clear c58b1
           try clear c58b2
           try clear p64
           try clear c66
           try clear c66b0
           try clear c66b1
           try clear p2
           obtain ⟨x8_3, x9_3, x1001_3, x1002_3, rfl, HA, HK3, HO_8, HI0, HK, HB⟩ := hrel
           cases gk with
           | zero => exact absurd HA.out (by simp [spec_l11DrawLine.l0])
           | succ k3 =>
            have H := HA.out
            clear HA
            simp only [spec_l11DrawLine.l0] at H
            by_cases c76 : x9_3 > 0
            ·rw [if_pos c76] at H
             have c76b0 := decide_eq_true c76
             clear c76
             replace H := Option.bind_eq_some_iff.mp H
             obtain ⟨⟨t212, t213, t214⟩, A770, H⟩ := H
             try dsimp only at H
             have A77 := Aside0.mk A770
             clear A770
             by_cases c78 : x8_3.length < 17592186044416
             ·rw [if_pos c78] at H
              have LMc78 := Aside0.mk c78
              clear c78
              obtain ⟨y215, hy215⟩ : ∃ y_ : List Int, y_ = (x8_3 ++ [t212]) := ⟨_, rfl⟩
              replace H : (spec_l11DrawLine.l0 k3 t180 y215 (wrap64 (x9_3 - 1)) s0_0 t213 t214) = some (r1, r2, r3) := by first | (rw [hy215]; with_reducible exact H) | (have H2_ := (Option.bind_some _ _).symm.trans H; rw [hy215]; with_reducible exact H2_) | (have H2_ := (Option.bind_some _ _).symm.trans H; with_reducible exact H2_) | with_reducible exact H | (rw [hy215]; exact H) | exact H
              have Ny215 := Aside0.mk hy215
              clear hy215
              have H' := Aside0.mk H
              clear H
              go_wp2_with (first | ((with_reducible refine gate_callee (f := 12) rfl ?_); refine goesL_ (some 84) rfl rfl Tryz.func12 Ql0_ rfl #[.pointer (some ⟨g, 0, none⟩), .int .i64 4] rfl Qb0_ ?_; (with_reducible refine (spec_l00Src_pick.calls g s0_0 x1001_3 x1002_3 4 t212 t213 t214 w0 _ ?side1 ?side2 A77.out).mono ?_); (case side1 => exact Qi0_); (case side2 => exact Qd0_); rintro e w79 ⟨rfl, hi, hb, hk⟩; refine ⟨_, rfl, ?_⟩; have n0_ := Aside0.mk (Kd.R_mono (Kd.R_keep (IsS53.apart (show IsS53 w0 _ g s0_0 x1001_3 x1002_3 from Qc0_) (Qr_ HO_8.out) (by decide)) hk (fun _ h => h.2)) (fun _ h => h.1)); have n1_ := Aside0.mk (KeepBut.trans Qe0_ hk (.inl rfl)); have n2_ := Aside0.mk (hb); have n3_ := Aside0.mk (hi); clear HO_8; clear HK; clear HB; clear HI0; have HO_8 := n0_; have HK := n1_; have HB := n2_; have HI0 := n3_; clear n0_ n1_ n2_ n3_; (try clear hb); (try clear hb2); (try clear hk); (try clear hi)) | ((with_reducible refine gate_builtin (b := .append) (xs := #[.tmp 82, .tmp 85]) rfl ?_); at_builtin; refine Kd.R_append (Kd.int .i64) w.heap.size rfl (.tmp 82) (.tmp 85) 61 2 (.int .i64 0) 8 rfl Tryz.underlying61 info2 rfl (by decide) (by omega) u8 x8_3 t212 [.int .i64 t212] (fun _ => True) (fun _ => False) rfl rfl ?aP (fun _ hk => hk.elim) ?aF ?aO (Below.refl _ _) ?aS ?aL ?_; (case aP => exact rfl); (case aF => exact (fun _ _ => trivial)); (case aO => exact (Qr_ HO_8.out)); (case aS => exact (keep_size (w := w) (g := g) (row := none) Qe0_)); (case aL => have := LMc78.out; omega); intro v216 w80 ho hb hg hat; rw [← Ny215.out] at ho; have n0_ := Aside0.mk (IsS53.grown Qc0_ hg (IsS53.own_ne HI0.out HO_8.out (by decide))); have n1_ := Aside0.mk (below_weaken Qd0_ HL.out hb); have n2_ := Aside0.mk (KeepBut.trans Qe0_ (KeepBut.of_grown hg g) (Kd.R_base2 HO_8.out)); have n3_ := Aside0.mk (ho); clear HI0; clear HB; clear HK; clear HO_8; have HI0 := n0_; have HB := n1_; have HK := n2_; have HO217 := n3_; clear n0_ n1_ n2_ n3_; clear ho hb hg hat))
              go_roundg k3
              case measure => have := HJ3.out; have := HJ11.out; have := HK3.out; omega
              case rel => exact ⟨(y215), (wrap64 (x9_3 - 1)), (t213), (t214), Qf0_, H', ⟨by have := HJ3.out; have := HJ11.out; have := HK3.out; omega⟩, ⟨Qr_ HO217.out⟩, ⟨Qc0_⟩, ⟨Qe0_⟩, ⟨Qd0_⟩⟩
             ·rw [if_neg c78] at H
              exact absurd H (by simp)
            ·rw [if_neg c76] at H
             have c76b0 := decide_eq_false c76
             clear c76
             replace H := Option.bind_eq_some_iff.mp H
             obtain ⟨⟨t218, t219, t220⟩, A810, H⟩ := H
             try dsimp only at H
             have A81 := Aside0.mk A810
             clear A810
             by_cases c82 : 7 + t180.size ≤ 9223372036854775807
             ·rw [if_pos c82] at H
              have c82b0 := eq_true c82
              have c82b1 := decide_eq_true c82
              try have c82b2 := eq_false (Nat.not_lt.2 c82)
              by_cases c83 : ((⟨#[98, 108, 111, 99, 107, 115, 32]⟩ : ByteArray) ++ t180).size + 5 ≤ 9223372036854775807
              ·rw [if_pos c83] at H
               have c83b0 := eq_true c83
               have c83b1 := decide_eq_true c83
               try have c83b2 := eq_false (Nat.not_lt.2 c83)
               try have c83b4 : (9223372036854775807 < (7 + t180.size) + 5) = False := eq_false (Nat.not_lt.2 (by have q_ := c83; simp only [ByteArray.size_append] at q_; exact q_))
               replace H := Option.bind_eq_some_iff.mp H
               obtain ⟨t221, A840, H⟩ := H
               try dsimp only at H
               have A84 := Aside0.mk A840
               clear A840
               by_cases c85 : (((⟨#[98, 108, 111, 99, 107, 115, 32]⟩ : ByteArray) ++ t180) ++ (⟨#[32, 50, 32, 52, 32]⟩ : ByteArray)).size + t221.size ≤ 9223372036854775807
               ·rw [if_pos c85] at H
                have c85b0 := eq_true c85
                have c85b1 := decide_eq_true c85
                try have c85b2 := eq_false (Nat.not_lt.2 c85)
                try have c85b4 : (9223372036854775807 < ((7 + t180.size) + 5) + t221.size) = False := eq_false (Nat.not_lt.2 (by have q_ := c85; simp only [ByteArray.size_append] at q_; exact q_))
                by_cases c86 : ((((⟨#[98, 108, 111, 99, 107, 115, 32]⟩ : ByteArray) ++ t180) ++ (⟨#[32, 50, 32, 52, 32]⟩ : ByteArray)) ++ t221).size + 1 ≤ 9223372036854775807
                ·rw [if_pos c86] at H
                 have c86b0 := eq_true c86
                 have c86b1 := decide_eq_true c86
                 try have c86b2 := eq_false (Nat.not_lt.2 c86)
                 try have c86b4 : (9223372036854775807 < (((7 + t180.size) + 5) + t221.size) + 1) = False := eq_false (Nat.not_lt.2 (by have q_ := c86; simp only [ByteArray.size_append] at q_; exact q_))
                 replace H := Option.bind_eq_some_iff.mp H
                 obtain ⟨t222, A870, H⟩ := H
                 try dsimp only at H
                 have A87 := Aside0.mk A870
                 clear A870
                 by_cases c88 : (((((⟨#[98, 108, 111, 99, 107, 115, 32]⟩ : ByteArray) ++ t180) ++ (⟨#[32, 50, 32, 52, 32]⟩ : ByteArray)) ++ t221) ++ (⟨#[32]⟩ : ByteArray)).size + t222.size ≤ 9223372036854775807
                 ·rw [if_pos c88] at H
                  have c88b0 := eq_true c88
                  have c88b1 := decide_eq_true c88
                  try have c88b2 := eq_false (Nat.not_lt.2 c88)
                  try have c88b4 : (9223372036854775807 < ((((7 + t180.size) + 5) + t221.size) + 1) + t222.size) = False := eq_false (Nat.not_lt.2 (by have q_ := c88; simp only [ByteArray.size_append] at q_; exact q_))
                  simp only [Option.some.injEq, Prod.mk.injEq] at H
                  obtain ⟨rfl, rfl, rfl⟩ := H
                  go_wp2_with (first | ((with_reducible refine gate_callee (f := 12) rfl ?_); refine goesL_ (some 88) rfl rfl Tryz.func12 Ql0_ rfl #[.pointer (some ⟨g, 0, none⟩), .int .i64 2] rfl Qb0_ ?_; (with_reducible refine (spec_l00Src_pick.calls g s0_0 x1001_3 x1002_3 2 t218 t219 t220 w0 _ ?side1 ?side2 A81.out).mono ?_); (case side1 => exact Qi0_); (case side2 => exact Qd0_); rintro e w89 ⟨rfl, hi, hb, hk⟩; refine ⟨_, rfl, ?_⟩; have n0_ := Aside0.mk (Kd.R_mono (Kd.R_keep (IsS53.apart (show IsS53 w0 _ g s0_0 x1001_3 x1002_3 from Qc0_) (Qr_ HO_8.out) (by decide)) hk (fun _ h => h.2)) (fun _ h => h.1)); have n1_ := Aside0.mk (KeepBut.trans Qe0_ hk (.inl rfl)); have n2_ := Aside0.mk (hb); have n3_ := Aside0.mk (hi); clear HO_8; clear HK; clear HB; clear HI0; have HO_8 := n0_; have HK := n1_; have HB := n2_; have HI0 := n3_; clear n0_ n1_ n2_ n3_; (try clear hb); (try clear hb2); (try clear hk); (try clear hi)) | ((with_reducible refine gate_callee (f := 27) rfl ?_); refine goesL_ (some 95) rfl rfl Tryz.func27 Ql0_ rfl #[.int .i64 (wrap64 ((wrap64 (2 * t218)) - 1))] rfl Qb0_ ?_; (with_reducible refine (spec_l01Dec.calls k3 (wrap64 ((wrap64 (2 * t218)) - 1)) t221 _ A84.out).mono ?_); rintro e w90 ⟨rfl, hb⟩; refine ⟨_, rfl, ?_⟩; have n0_ := Aside0.mk (Kd.R_below (Qr_ HO_8.out) hb); have n1_ := Aside0.mk (IsS53.below Qc0_ hb); have n2_ := Aside0.mk (KeepBut.trans Qe0_ (KeepBut.of_below hb g none) (.inl rfl)); have n3_ := Aside0.mk (below_step Qd0_ hb); clear HO_8; clear HI0; clear HK; clear HB; have HO_8 := n0_; have HI0 := n1_; have HK := n2_; have HB := n3_; clear n0_ n1_ n2_ n3_; (try clear hb); (try clear hb2); (try clear hk); (try clear hi); obtain ⟨Ao91, co91, eo91⟩ := Kd.R_slice HO_8.out; subst eo91) | ((with_reducible refine gate_callee (f := 28) rfl ?_); refine goesL_ (some 99) rfl rfl Tryz.func28 Ql0_ rfl #[.slice Ao91 x8_3.length co91] rfl Qb0_ ?_; (with_reducible refine (spec_l01Text.calls k3 _ _ x8_3 t222 _ ?side1 ?side2 A87.out).mono ?_); (case side1 => exact Qc_ (Kd.R_reads' HO_8.out).2.2); (case side2 => exact (Kd.R_reads' HO_8.out).2.1); rintro e w92 ⟨rfl, hb⟩; refine ⟨_, rfl, ?_⟩; have n0_ := Aside0.mk (Kd.R_below (Qr_ HO_8.out) hb); have n1_ := Aside0.mk (IsS53.below Qc0_ hb); have n2_ := Aside0.mk (KeepBut.trans Qe0_ (KeepBut.of_below hb g none) (.inl rfl)); have n3_ := Aside0.mk (below_step Qd0_ hb); clear HO_8; clear HI0; clear HK; clear HB; have HO_8 := n0_; have HI0 := n1_; have HK := n2_; have HB := n3_; clear n0_ n1_ n2_ n3_; (try clear hb); (try clear hb2); (try clear hk); (try clear hi)))
                  go_ret
                  exact ⟨Qh0_, Qc0_, Qd0_, Qe0_⟩
                 ·rw [if_neg c88] at H
                  exact absurd H (by simp)
                ·rw [if_neg c86] at H
                 exact absurd H (by simp)
               ·rw [if_neg c85] at H
                exact absurd H (by simp)
              ·rw [if_neg c83] at H
               exact absurd H (by simp)
             ·rw [if_neg c82] at H
              exact absurd H (by simp)
         ·rw [if_neg c66] at H
          have c66b0 := beq_eq_false_iff_ne.mpr c66
          have c66b1 := bne_iff_ne.mpr c66
          by_cases c93 : t183 = 5
          ·rw [if_pos c93] at H
           have c93b0 := beq_iff_eq.mpr c93
           have c93b1 := bne_eq_false_iff_eq.mpr c93
           clear c93
           replace H := Option.bind_eq_some_iff.mp H
           obtain ⟨⟨t223, t224, t225⟩, A940, H⟩ := H
           try dsimp only at H
           have A94 := Aside0.mk A940
           clear A940
           by_cases c95 : 5 + x5_11.size ≤ 9223372036854775807
           ·rw [if_pos c95] at H
            have c95b0 := eq_true c95
            have c95b1 := decide_eq_true c95
            try have c95b2 := eq_false (Nat.not_lt.2 c95)
            by_cases c96 : ((⟨#[100, 97, 116, 97, 32]⟩ : ByteArray) ++ x5_11).size + 1 ≤ 9223372036854775807
            ·rw [if_pos c96] at H
             have c96b0 := eq_true c96
             have c96b1 := decide_eq_true c96
             try have c96b2 := eq_false (Nat.not_lt.2 c96)
             try have c96b4 : (9223372036854775807 < (5 + x5_11.size) + 1) = False := eq_false (Nat.not_lt.2 (by have q_ := c96; simp only [ByteArray.size_append] at q_; exact q_))
             replace H := Option.bind_eq_some_iff.mp H
             obtain ⟨⟨t226, t227, t228⟩, A970, H⟩ := H
             try dsimp only at H
             have A97 := Aside0.mk A970
             clear A970
             replace H := Option.bind_eq_some_iff.mp H
             obtain ⟨t229, A980, H⟩ := H
             try dsimp only at H
             have A98 := Aside0.mk A980
             clear A980
             by_cases c99 : (((⟨#[100, 97, 116, 97, 32]⟩ : ByteArray) ++ x5_11) ++ (⟨#[32]⟩ : ByteArray)).size + t229.size ≤ 9223372036854775807
             ·rw [if_pos c99] at H
              have c99b0 := eq_true c99
              have c99b1 := decide_eq_true c99
              try have c99b2 := eq_false (Nat.not_lt.2 c99)
              try have c99b4 : (9223372036854775807 < ((5 + x5_11.size) + 1) + t229.size) = False := eq_false (Nat.not_lt.2 (by have q_ := c99; simp only [ByteArray.size_append] at q_; exact q_))
              by_cases c100 : ((((⟨#[100, 97, 116, 97, 32]⟩ : ByteArray) ++ x5_11) ++ (⟨#[32]⟩ : ByteArray)) ++ t229).size + 1 ≤ 9223372036854775807
              ·rw [if_pos c100] at H
               have c100b0 := eq_true c100
               have c100b1 := decide_eq_true c100
               try have c100b2 := eq_false (Nat.not_lt.2 c100)
               try have c100b4 : (9223372036854775807 < (((5 + x5_11.size) + 1) + t229.size) + 1) = False := eq_false (Nat.not_lt.2 (by have q_ := c100; simp only [ByteArray.size_append] at q_; exact q_))
               by_cases c101 : (((((⟨#[100, 97, 116, 97, 32]⟩ : ByteArray) ++ x5_11) ++ (⟨#[32]⟩ : ByteArray)) ++ t229) ++ (⟨#[32]⟩ : ByteArray)).size + 2 ≤ 9223372036854775807
               ·rw [if_pos c101] at H
                have c101b0 := eq_true c101
                have c101b1 := decide_eq_true c101
                try have c101b2 := eq_false (Nat.not_lt.2 c101)
                try have c101b4 : (9223372036854775807 < ((((5 + x5_11.size) + 1) + t229.size) + 1) + 2) = False := eq_false (Nat.not_lt.2 (by have q_ := c101; simp only [ByteArray.size_append] at q_; exact q_))
                replace H := Option.bind_eq_some_iff.mp H
                obtain ⟨t230, A1020, H⟩ := H
                try dsimp only at H
                have A102 := Aside0.mk A1020
                clear A1020
                by_cases c103 : ((((((⟨#[100, 97, 116, 97, 32]⟩ : ByteArray) ++ x5_11) ++ (⟨#[32]⟩ : ByteArray)) ++ t229) ++ (⟨#[32]⟩ : ByteArray)) ++ (⟨#[52, 32]⟩ : ByteArray)).size + t230.size ≤ 9223372036854775807
                ·rw [if_pos c103] at H
                 have c103b0 := eq_true c103
                 have c103b1 := decide_eq_true c103
                 try have c103b2 := eq_false (Nat.not_lt.2 c103)
                 try have c103b4 : (9223372036854775807 < (((((5 + x5_11.size) + 1) + t229.size) + 1) + 2) + t230.size) = False := eq_false (Nat.not_lt.2 (by have q_ := c103; simp only [ByteArray.size_append] at q_; exact q_))
                 simp only [Option.some.injEq, Prod.mk.injEq] at H
                 obtain ⟨rfl, rfl, rfl⟩ := H
                 go_wp2_with (first | ((with_reducible refine gate_callee (f := 12) rfl ?_); refine goesL_ (some 104) rfl rfl Tryz.func12 Ql0_ rfl #[.pointer (some ⟨g, 0, none⟩), .int .i64 2] rfl Qb0_ ?_; (with_reducible refine (spec_l00Src_pick.calls g s0_0 t184 t185 2 t223 t224 t225 w0 _ ?side1 ?side2 A94.out).mono ?_); (case side1 => exact Qi0_); (case side2 => exact Qd0_); rintro e w109 ⟨rfl, hi, hb, hk⟩; refine ⟨_, rfl, ?_⟩; have n0_ := Aside0.mk (Kd.R_mono (Kd.R_keep (IsS53.apart (show IsS53 w0 _ g s0_0 t184 t185 from Qc0_) (Qr_ HO179.out) (by decide)) hk (fun _ h => h.2)) (fun _ h => h.1)); have n1_ := Aside0.mk (KeepBut.trans Qe0_ hk (.inl rfl)); have n2_ := Aside0.mk (hb); have n3_ := Aside0.mk (hi); clear HO179; clear HK; clear HB; clear HI0; have HO179 := n0_; have HK := n1_; have HB := n2_; have HI0 := n3_; clear n0_ n1_ n2_ n3_; (try clear hb); (try clear hb2); (try clear hk); (try clear hi)) | ((with_reducible refine gate_callee (f := 12) rfl ?_); refine goesL_ (some 111) rfl rfl Tryz.func12 Ql0_ rfl #[.pointer (some ⟨g, 0, none⟩), .int .i64 2] rfl Qb0_ ?_; (with_reducible refine (spec_l00Src_pick.calls g s0_0 t224 t225 2 t226 t227 t228 w0 _ ?side1 ?side2 A97.out).mono ?_); (case side1 => exact Qi0_); (case side2 => exact Qd0_); rintro e w110 ⟨rfl, hi, hb, hk⟩; refine ⟨_, rfl, ?_⟩; have n0_ := Aside0.mk (Kd.R_mono (Kd.R_keep (IsS53.apart (show IsS53 w0 _ g s0_0 t224 t225 from Qc0_) (Qr_ HO179.out) (by decide)) hk (fun _ h => h.2)) (fun _ h => h.1)); have n1_ := Aside0.mk (KeepBut.trans Qe0_ hk (.inl rfl)); have n2_ := Aside0.mk (hb); have n3_ := Aside0.mk (hi); clear HO179; clear HK; clear HB; clear HI0; have HO179 := n0_; have HK := n1_; have HB := n2_; have HI0 := n3_; clear n0_ n1_ n2_ n3_; (try clear hb); (try clear hb2); (try clear hk); (try clear hi)) | ((with_reducible refine gate_callee (f := 27) rfl ?_); refine goesL_ (some 113) rfl rfl Tryz.func27 Ql0_ rfl #[.int .i64 (wrap64 (1 + t226))] rfl Qb0_ ?_; (with_reducible refine (spec_l01Dec.calls kj11 (wrap64 (1 + t226)) t229 _ A98.out).mono ?_); rintro e w111 ⟨rfl, hb⟩; refine ⟨_, rfl, ?_⟩; have n0_ := Aside0.mk (Kd.R_below (Qr_ HO179.out) hb); have n1_ := Aside0.mk (IsS53.below Qc0_ hb); have n2_ := Aside0.mk (KeepBut.trans Qe0_ (KeepBut.of_below hb g none) (.inl rfl)); have n3_ := Aside0.mk (below_step Qd0_ hb); clear HO179; clear HI0; clear HK; clear HB; have HO179 := n0_; have HI0 := n1_; have HK := n2_; have HB := n3_; clear n0_ n1_ n2_ n3_; (try clear hb); (try clear hb2); (try clear hk); (try clear hi)) | ((with_reducible refine gate_callee (f := 27) rfl ?_); refine goesL_ (some 118) rfl rfl Tryz.func27 Ql0_ rfl #[.int .i64 (wrap64 ((wrap64 (2 * t223)) - 1))] rfl Qb0_ ?_; (with_reducible refine (spec_l01Dec.calls kj11 (wrap64 ((wrap64 (2 * t223)) - 1)) t230 _ A102.out).mono ?_); rintro e w112 ⟨rfl, hb⟩; refine ⟨_, rfl, ?_⟩; have n0_ := Aside0.mk (Kd.R_below (Qr_ HO179.out) hb); have n1_ := Aside0.mk (IsS53.below Qc0_ hb); have n2_ := Aside0.mk (KeepBut.trans Qe0_ (KeepBut.of_below hb g none) (.inl rfl)); have n3_ := Aside0.mk (below_step Qd0_ hb); clear HO179; clear HI0; clear HK; clear HB; have HO179 := n0_; have HI0 := n1_; have HK := n2_; have HB := n3_; clear n0_ n1_ n2_ n3_; (try clear hb); (try clear hb2); (try clear hk); (try clear hi)))
                 go_ret
                 exact ⟨Qh0_, Qc0_, Qd0_, Qe0_⟩
                ·rw [if_neg c103] at H
                 exact absurd H (by simp)
               ·rw [if_neg c101] at H
                exact absurd H (by simp)
              ·rw [if_neg c100] at H
               exact absurd H (by simp)
             ·rw [if_neg c99] at H
              exact absurd H (by simp)
            ·rw [if_neg c96] at H
             exact absurd H (by simp)
           ·rw [if_neg c95] at H
            exact absurd H (by simp)
          ·rw [if_neg c93] at H
           have c93b0 := beq_eq_false_iff_ne.mpr c93
           have c93b1 := bne_iff_ne.mpr c93
           by_cases c113 : t183 = 6
           ·rw [if_pos c113] at H
            have c113b0 := beq_iff_eq.mpr c113
            have c113b1 := bne_eq_false_iff_eq.mpr c113
            clear c113
            obtain ⟨y231, hy231⟩ : ∃ y_ : List ByteArray, y_ = (([(⟨#[108, 97, 121, 32]⟩ : ByteArray), (⟨#[117, 110, 108, 97, 121, 32]⟩ : ByteArray), (⟨#[99, 108, 111, 99, 107, 32]⟩ : ByteArray)] : List ByteArray)) := ⟨_, rfl⟩
            replace H : ((spec_l00Src_text.f s0_0 t184 t185 y231).bind fun bt234 => ((spec_l00Src_pick.f s0_0 bt234.2.1 bt234.2.2 12).bind fun bt237 => (if bt234.1.size + t180.size ≤ 9223372036854775807 then (if (bt234.1 ++ t180).size + 1 ≤ 9223372036854775807 then (if ((bt234.1 ++ t180) ++ (⟨#[32]⟩ : ByteArray)).size + x5_11.size ≤ 9223372036854775807 then (if (((bt234.1 ++ t180) ++ (⟨#[32]⟩ : ByteArray)) ++ x5_11).size + 1 ≤ 9223372036854775807 then ((spec_l01Dec.f kj11 (wrap64 (1 + bt237.1))).bind fun t240 => (if ((((bt234.1 ++ t180) ++ (⟨#[32]⟩ : ByteArray)) ++ x5_11) ++ (⟨#[32]⟩ : ByteArray)).size + t240.size ≤ 9223372036854775807 then (if (((((bt234.1 ++ t180) ++ (⟨#[32]⟩ : ByteArray)) ++ x5_11) ++ (⟨#[32]⟩ : ByteArray)) ++ t240).size + 1 ≤ 9223372036854775807 then ((spec_l00Src_pick.f s0_0 bt237.2.1 bt237.2.2 12).bind fun bt241 => ((spec_l01Dec.f kj11 (wrap64 (1 + bt241.1))).bind fun t244 => (if ((((((bt234.1 ++ t180) ++ (⟨#[32]⟩ : ByteArray)) ++ x5_11) ++ (⟨#[32]⟩ : ByteArray)) ++ t240) ++ (⟨#[32]⟩ : ByteArray)).size + t244.size ≤ 9223372036854775807 then (some (((((((bt234.1 ++ t180) ++ (⟨#[32]⟩ : ByteArray)) ++ x5_11) ++ (⟨#[32]⟩ : ByteArray)) ++ t240) ++ (⟨#[32]⟩ : ByteArray)) ++ t244, bt241.2.1, bt241.2.2)) else (none)))) else (none)) else (none))) else (none)) else (none)) else (none)) else (none)))) = some (r1, r2, r3) := by first | (rw [hy231]; with_reducible exact H) | (have H2_ := (Option.bind_some _ _).symm.trans H; rw [hy231]; with_reducible exact H2_) | (have H2_ := (Option.bind_some _ _).symm.trans H; with_reducible exact H2_) | with_reducible exact H | (rw [hy231]; exact H) | exact H
            have Ny231 := Aside0.mk hy231
            clear hy231
            replace H := Option.bind_eq_some_iff.mp H
            obtain ⟨⟨t234, t235, t236⟩, A1140, H⟩ := H
            try dsimp only at H
            have A114 := Aside0.mk A1140
            clear A1140
            replace H := Option.bind_eq_some_iff.mp H
            obtain ⟨⟨t237, t238, t239⟩, A1150, H⟩ := H
            try dsimp only at H
            have A115 := Aside0.mk A1150
            clear A1150
            by_cases c116 : t234.size + t180.size ≤ 9223372036854775807
            ·rw [if_pos c116] at H
             have c116b0 := eq_true c116
             have c116b1 := decide_eq_true c116
             try have c116b2 := eq_false (Nat.not_lt.2 c116)
             by_cases c117 : (t234 ++ t180).size + 1 ≤ 9223372036854775807
             ·rw [if_pos c117] at H
              have c117b0 := eq_true c117
              have c117b1 := decide_eq_true c117
              try have c117b2 := eq_false (Nat.not_lt.2 c117)
              try have c117b4 : (9223372036854775807 < (t234.size + t180.size) + 1) = False := eq_false (Nat.not_lt.2 (by have q_ := c117; simp only [ByteArray.size_append] at q_; exact q_))
              by_cases c118 : ((t234 ++ t180) ++ (⟨#[32]⟩ : ByteArray)).size + x5_11.size ≤ 9223372036854775807
              ·rw [if_pos c118] at H
               have c118b0 := eq_true c118
               have c118b1 := decide_eq_true c118
               try have c118b2 := eq_false (Nat.not_lt.2 c118)
               try have c118b4 : (9223372036854775807 < ((t234.size + t180.size) + 1) + x5_11.size) = False := eq_false (Nat.not_lt.2 (by have q_ := c118; simp only [ByteArray.size_append] at q_; exact q_))
               by_cases c119 : (((t234 ++ t180) ++ (⟨#[32]⟩ : ByteArray)) ++ x5_11).size + 1 ≤ 9223372036854775807
               ·rw [if_pos c119] at H
                have c119b0 := eq_true c119
                have c119b1 := decide_eq_true c119
                try have c119b2 := eq_false (Nat.not_lt.2 c119)
                try have c119b4 : (9223372036854775807 < (((t234.size + t180.size) + 1) + x5_11.size) + 1) = False := eq_false (Nat.not_lt.2 (by have q_ := c119; simp only [ByteArray.size_append] at q_; exact q_))
                replace H := Option.bind_eq_some_iff.mp H
                obtain ⟨t240, A1200, H⟩ := H
                try dsimp only at H
                have A120 := Aside0.mk A1200
                clear A1200
                by_cases c121 : ((((t234 ++ t180) ++ (⟨#[32]⟩ : ByteArray)) ++ x5_11) ++ (⟨#[32]⟩ : ByteArray)).size + t240.size ≤ 9223372036854775807
                ·rw [if_pos c121] at H
                 have c121b0 := eq_true c121
                 have c121b1 := decide_eq_true c121
                 try have c121b2 := eq_false (Nat.not_lt.2 c121)
                 try have c121b4 : (9223372036854775807 < ((((t234.size + t180.size) + 1) + x5_11.size) + 1) + t240.size) = False := eq_false (Nat.not_lt.2 (by have q_ := c121; simp only [ByteArray.size_append] at q_; exact q_))
                 by_cases c122 : (((((t234 ++ t180) ++ (⟨#[32]⟩ : ByteArray)) ++ x5_11) ++ (⟨#[32]⟩ : ByteArray)) ++ t240).size + 1 ≤ 9223372036854775807
                 ·rw [if_pos c122] at H
                  have c122b0 := eq_true c122
                  have c122b1 := decide_eq_true c122
                  try have c122b2 := eq_false (Nat.not_lt.2 c122)
                  try have c122b4 : (9223372036854775807 < (((((t234.size + t180.size) + 1) + x5_11.size) + 1) + t240.size) + 1) = False := eq_false (Nat.not_lt.2 (by have q_ := c122; simp only [ByteArray.size_append] at q_; exact q_))
                  replace H := Option.bind_eq_some_iff.mp H
                  obtain ⟨⟨t241, t242, t243⟩, A1230, H⟩ := H
                  try dsimp only at H
                  have A123 := Aside0.mk A1230
                  clear A1230
                  replace H := Option.bind_eq_some_iff.mp H
                  obtain ⟨t244, A1240, H⟩ := H
                  try dsimp only at H
                  have A124 := Aside0.mk A1240
                  clear A1240
                  by_cases c125 : ((((((t234 ++ t180) ++ (⟨#[32]⟩ : ByteArray)) ++ x5_11) ++ (⟨#[32]⟩ : ByteArray)) ++ t240) ++ (⟨#[32]⟩ : ByteArray)).size + t244.size ≤ 9223372036854775807
                  ·rw [if_pos c125] at H
                   have c125b0 := eq_true c125
                   have c125b1 := decide_eq_true c125
                   try have c125b2 := eq_false (Nat.not_lt.2 c125)
                   try have c125b4 : (9223372036854775807 < ((((((t234.size + t180.size) + 1) + x5_11.size) + 1) + t240.size) + 1) + t244.size) = False := eq_false (Nat.not_lt.2 (by have q_ := c125; simp only [ByteArray.size_append] at q_; exact q_))
                   simp only [Option.some.injEq, Prod.mk.injEq] at H
                   obtain ⟨rfl, rfl, rfl⟩ := H
                   go_wp2_with (first | ((with_reducible refine gate_dst (N := 123) rfl ?_); refine Kd.R_lit Kd.string _ 9 ?hg (N := 123) ?hd (xs := ([(⟨#[108, 97, 121, 32]⟩ : ByteArray), (⟨#[117, 110, 108, 97, 121, 32]⟩ : ByteArray), (⟨#[99, 108, 111, 99, 107, 32]⟩ : ByteArray)] : List ByteArray)) (inner := [.string (⟨#[108, 97, 121, 32]⟩ : ByteArray), .string (⟨#[117, 110, 108, 97, 121, 32]⟩ : ByteArray), .string (⟨#[99, 108, 111, 99, 107, 32]⟩ : ByteArray)]) (ok := fun _ => True) (okp := fun _ => True) ?hr ?hp (fun _ hk => hk) trivial (Below.refl _ _) (Nat.le_refl _) (by simp) ?_; (case hd => rfl); (case hg => rfl); (case hr => exact Qj0_); (case hp => exact (Reps.one (show Kd.M Kd.string _ _ _ (⟨#[108, 97, 121, 32]⟩ : ByteArray) [.string (⟨#[108, 97, 121, 32]⟩ : ByteArray)] from rfl) (Reps.one (show Kd.M Kd.string _ _ _ (⟨#[117, 110, 108, 97, 121, 32]⟩ : ByteArray) [.string (⟨#[117, 110, 108, 97, 121, 32]⟩ : ByteArray)] from rfl) (Reps.one (show Kd.M Kd.string _ _ _ (⟨#[99, 108, 111, 99, 107, 32]⟩ : ByteArray) [.string (⟨#[99, 108, 111, 99, 107, 32]⟩ : ByteArray)] from rfl) (Reps.none _ _))))); intro v232 w131 ho132 hb hg_ hnew_; clear hg_ hnew_; (first | rw [← Ny231.out] at ho132 | (simp only [Int.reduceToNat] at ho132; rw [← Ny231.out] at ho132)); have n0_ := Aside0.mk (Kd.R_elder' (Qr_ HO179.out) (Kd.R_base ho132) hb); have n1_ := Aside0.mk (Kd.R_lower (Kd.R_new' ho132 (Kd.R_lt (Qr_ HO179.out))) (keep_size (w := w) (g := g) (row := none) Qe0_)); have n2_ := Aside0.mk (IsS53.below Qc0_ hb); have n3_ := Aside0.mk (KeepBut.trans Qe0_ (KeepBut.of_below hb g none) (.inl rfl)); have n4_ := Aside0.mk (below_step Qd0_ hb); clear HO179; clear HI0; clear HK; clear HB; have HO179 := n0_; have HO233 := n1_; have HI0 := n2_; have HK := n3_; have HB := n4_; clear n0_ n1_ n2_ n3_ n4_; clear hb ho132; obtain ⟨Ao133, co133, eo133⟩ := Kd.R_slice HO233.out; subst eo133) | ((with_reducible refine gate_callee (f := 21) rfl ?_); refine goesL_ (some 124) rfl rfl Tryz.func21 Ql0_ rfl #[.pointer (some ⟨g, 0, none⟩), .slice Ao133 y231.length co133] rfl Qb0_ ?_; (with_reducible refine (spec_l00Src_text.calls g s0_0 t184 t185 _ _ y231 t234 t235 t236 w0 _ ?side1 ?side2 ?side3 ?side4 ?side5 A114.out).mono ?_); (case side1 => exact Qi0_); (case side2 => exact Qd0_); (case side3 => exact Qc_ (Kd.R_reads' HO233.out).2.2); (case side4 => exact (Kd.R_reads' HO233.out).2.1); (case side5 => exact far_slice (IsS53.own_ne HI0.out HO233.out (by decide))); rintro e w134 ⟨rfl, hi, hb, hk⟩; refine ⟨_, rfl, ?_⟩; have n0_ := Aside0.mk (Kd.R_mono (Kd.R_keep (IsS53.apart (show IsS53 w0 _ g s0_0 t184 t185 from Qc0_) (Qr_ HO179.out) (by decide)) hk (fun _ h => h.2)) (fun _ h => h.1)); have n1_ := Aside0.mk (Kd.R_mono (Kd.R_keep (IsS53.apart (show IsS53 w0 _ g s0_0 t184 t185 from Qc0_) (Qr_ HO233.out) (by decide)) hk (fun _ h => h.2)) (fun _ h => h.1)); have n2_ := Aside0.mk (KeepBut.trans Qe0_ hk (.inl rfl)); have n3_ := Aside0.mk (hb); have n4_ := Aside0.mk (hi); clear HO179; clear HO233; clear HK; clear HB; clear HI0; have HO179 := n0_; have HO233 := n1_; have HK := n2_; have HB := n3_; have HI0 := n4_; clear n0_ n1_ n2_ n3_ n4_; (try clear hb); (try clear hb2); (try clear hk); (try clear hi)) | ((with_reducible refine gate_callee (f := 12) rfl ?_); refine goesL_ (some 126) rfl rfl Tryz.func12 Ql0_ rfl #[.pointer (some ⟨g, 0, none⟩), .int .i64 12] rfl Qb0_ ?_; (with_reducible refine (spec_l00Src_pick.calls g s0_0 t235 t236 12 t237 t238 t239 w0 _ ?side1 ?side2 A115.out).mono ?_); (case side1 => exact Qi0_); (case side2 => exact Qd0_); rintro e w135 ⟨rfl, hi, hb, hk⟩; refine ⟨_, rfl, ?_⟩; have n0_ := Aside0.mk (Kd.R_mono (Kd.R_keep (IsS53.apart (show IsS53 w0 _ g s0_0 t235 t236 from Qc0_) (Qr_ HO179.out) (by decide)) hk (fun _ h => h.2)) (fun _ h => h.1)); have n1_ := Aside0.mk (Kd.R_mono (Kd.R_keep (IsS53.apart (show IsS53 w0 _ g s0_0 t235 t236 from Qc0_) (Qr_ HO233.out) (by decide)) hk (fun _ h => h.2)) (fun _ h => h.1)); have n2_ := Aside0.mk (KeepBut.trans Qe0_ hk (.inl rfl)); have n3_ := Aside0.mk (hb); have n4_ := Aside0.mk (hi); clear HO179; clear HO233; clear HK; clear HB; clear HI0; have HO179 := n0_; have HO233 := n1_; have HK := n2_; have HB := n3_; have HI0 := n4_; clear n0_ n1_ n2_ n3_ n4_; (try clear hb); (try clear hb2); (try clear hk); (try clear hi)) | ((with_reducible refine gate_callee (f := 27) rfl ?_); refine goesL_ (some 136) rfl rfl Tryz.func27 Ql0_ rfl #[.int .i64 (wrap64 (1 + t237))] rfl Qb0_ ?_; (with_reducible refine (spec_l01Dec.calls kj11 (wrap64 (1 + t237)) t240 _ A120.out).mono ?_); rintro e w136 ⟨rfl, hb⟩; refine ⟨_, rfl, ?_⟩; have n0_ := Aside0.mk (Kd.R_below (Qr_ HO179.out) hb); have n1_ := Aside0.mk (Kd.R_below (Qr_ HO233.out) hb); have n2_ := Aside0.mk (IsS53.below Qc0_ hb); have n3_ := Aside0.mk (KeepBut.trans Qe0_ (KeepBut.of_below hb g none) (.inl rfl)); have n4_ := Aside0.mk (below_step Qd0_ hb); clear HO179; clear HO233; clear HI0; clear HK; clear HB; have HO179 := n0_; have HO233 := n1_; have HI0 := n2_; have HK := n3_; have HB := n4_; clear n0_ n1_ n2_ n3_ n4_; (try clear hb); (try clear hb2); (try clear hk); (try clear hi)) | ((with_reducible refine gate_callee (f := 12) rfl ?_); refine goesL_ (some 140) rfl rfl Tryz.func12 Ql0_ rfl #[.pointer (some ⟨g, 0, none⟩), .int .i64 12] rfl Qb0_ ?_; (with_reducible refine (spec_l00Src_pick.calls g s0_0 t238 t239 12 t241 t242 t243 w0 _ ?side1 ?side2 A123.out).mono ?_); (case side1 => exact Qi0_); (case side2 => exact Qd0_); rintro e w137 ⟨rfl, hi, hb, hk⟩; refine ⟨_, rfl, ?_⟩; have n0_ := Aside0.mk (Kd.R_mono (Kd.R_keep (IsS53.apart (show IsS53 w0 _ g s0_0 t238 t239 from Qc0_) (Qr_ HO179.out) (by decide)) hk (fun _ h => h.2)) (fun _ h => h.1)); have n1_ := Aside0.mk (Kd.R_mono (Kd.R_keep (IsS53.apart (show IsS53 w0 _ g s0_0 t238 t239 from Qc0_) (Qr_ HO233.out) (by decide)) hk (fun _ h => h.2)) (fun _ h => h.1)); have n2_ := Aside0.mk (KeepBut.trans Qe0_ hk (.inl rfl)); have n3_ := Aside0.mk (hb); have n4_ := Aside0.mk (hi); clear HO179; clear HO233; clear HK; clear HB; clear HI0; have HO179 := n0_; have HO233 := n1_; have HK := n2_; have HB := n3_; have HI0 := n4_; clear n0_ n1_ n2_ n3_ n4_; (try clear hb); (try clear hb2); (try clear hk); (try clear hi)) | ((with_reducible refine gate_callee (f := 27) rfl ?_); refine goesL_ (some 142) rfl rfl Tryz.func27 Ql0_ rfl #[.int .i64 (wrap64 (1 + t241))] rfl Qb0_ ?_; (with_reducible refine (spec_l01Dec.calls kj11 (wrap64 (1 + t241)) t244 _ A124.out).mono ?_); rintro e w138 ⟨rfl, hb⟩; refine ⟨_, rfl, ?_⟩; have n0_ := Aside0.mk (Kd.R_below (Qr_ HO179.out) hb); have n1_ := Aside0.mk (Kd.R_below (Qr_ HO233.out) hb); have n2_ := Aside0.mk (IsS53.below Qc0_ hb); have n3_ := Aside0.mk (KeepBut.trans Qe0_ (KeepBut.of_below hb g none) (.inl rfl)); have n4_ := Aside0.mk (below_step Qd0_ hb); clear HO179; clear HO233; clear HI0; clear HK; clear HB; have HO179 := n0_; have HO233 := n1_; have HI0 := n2_; have HK := n3_; have HB := n4_; clear n0_ n1_ n2_ n3_ n4_; (try clear hb); (try clear hb2); (try clear hk); (try clear hi)))
                   go_ret
                   exact ⟨Qh0_, Qc0_, Qd0_, Qe0_⟩
                  ·rw [if_neg c125] at H
                   exact absurd H (by simp)
                 ·rw [if_neg c122] at H
                  exact absurd H (by simp)
                ·rw [if_neg c121] at H
                 exact absurd H (by simp)
               ·rw [if_neg c119] at H
                exact absurd H (by simp)
              ·rw [if_neg c118] at H
               exact absurd H (by simp)
             ·rw [if_neg c117] at H
              exact absurd H (by simp)
            ·rw [if_neg c116] at H
             exact absurd H (by simp)
           ·rw [if_neg c113] at H
            have c113b0 := beq_eq_false_iff_ne.mpr c113
            have c113b1 := bne_iff_ne.mpr c113
            by_cases c139 : t183 = 7
            ·rw [if_pos c139] at H
             have c139b0 := beq_iff_eq.mpr c139
             have c139b1 := bne_eq_false_iff_eq.mpr c139
             clear c139
             obtain ⟨y245, hy245⟩ : ∃ y_ : List ByteArray, y_ = (([(⟨#[114, 101, 112, 101, 97, 116, 32]⟩ : ByteArray), (⟨#[118, 111, 116, 101, 32]⟩ : ByteArray)] : List ByteArray)) := ⟨_, rfl⟩
             replace H : ((spec_l00Src_text.f s0_0 t184 t185 y245).bind fun bt248 => (if bt248.1.size + t180.size ≤ 9223372036854775807 then (if (bt248.1 ++ t180).size + 1 ≤ 9223372036854775807 then (if ((bt248.1 ++ t180) ++ (⟨#[32]⟩ : ByteArray)).size + x5_11.size ≤ 9223372036854775807 then (if (((bt248.1 ++ t180) ++ (⟨#[32]⟩ : ByteArray)) ++ x5_11).size + 1 ≤ 9223372036854775807 then ((spec_l00Src_pick.f s0_0 bt248.2.1 bt248.2.2 3).bind fun bt251 => ((spec_l01Dec.f kj11 (wrap64 (1 + (wrap64 (2 * bt251.1))))).bind fun t254 => (if ((((bt248.1 ++ t180) ++ (⟨#[32]⟩ : ByteArray)) ++ x5_11) ++ (⟨#[32]⟩ : ByteArray)).size + t254.size ≤ 9223372036854775807 then (some (((((bt248.1 ++ t180) ++ (⟨#[32]⟩ : ByteArray)) ++ x5_11) ++ (⟨#[32]⟩ : ByteArray)) ++ t254, bt251.2.1, bt251.2.2)) else (none)))) else (none)) else (none)) else (none)) else (none))) = some (r1, r2, r3) := by first | (rw [hy245]; with_reducible exact H) | (have H2_ := (Option.bind_some _ _).symm.trans H; rw [hy245]; with_reducible exact H2_) | (have H2_ := (Option.bind_some _ _).symm.trans H; with_reducible exact H2_) | with_reducible exact H | (rw [hy245]; exact H) | exact H
             have Ny245 := Aside0.mk hy245
             clear hy245
             replace H := Option.bind_eq_some_iff.mp H
             obtain ⟨⟨t248, t249, t250⟩, A1400, H⟩ := H
             try dsimp only at H
             have A140 := Aside0.mk A1400
             clear A1400
             by_cases c141 : t248.size + t180.size ≤ 9223372036854775807
             ·rw [if_pos c141] at H
              have c141b0 := eq_true c141
              have c141b1 := decide_eq_true c141
              try have c141b2 := eq_false (Nat.not_lt.2 c141)
              by_cases c142 : (t248 ++ t180).size + 1 ≤ 9223372036854775807
              ·rw [if_pos c142] at H
               have c142b0 := eq_true c142
               have c142b1 := decide_eq_true c142
               try have c142b2 := eq_false (Nat.not_lt.2 c142)
               try have c142b4 : (9223372036854775807 < (t248.size + t180.size) + 1) = False := eq_false (Nat.not_lt.2 (by have q_ := c142; simp only [ByteArray.size_append] at q_; exact q_))
               by_cases c143 : ((t248 ++ t180) ++ (⟨#[32]⟩ : ByteArray)).size + x5_11.size ≤ 9223372036854775807
               ·rw [if_pos c143] at H
                have c143b0 := eq_true c143
                have c143b1 := decide_eq_true c143
                try have c143b2 := eq_false (Nat.not_lt.2 c143)
                try have c143b4 : (9223372036854775807 < ((t248.size + t180.size) + 1) + x5_11.size) = False := eq_false (Nat.not_lt.2 (by have q_ := c143; simp only [ByteArray.size_append] at q_; exact q_))
                by_cases c144 : (((t248 ++ t180) ++ (⟨#[32]⟩ : ByteArray)) ++ x5_11).size + 1 ≤ 9223372036854775807
                ·rw [if_pos c144] at H
                 have c144b0 := eq_true c144
                 have c144b1 := decide_eq_true c144
                 try have c144b2 := eq_false (Nat.not_lt.2 c144)
                 try have c144b4 : (9223372036854775807 < (((t248.size + t180.size) + 1) + x5_11.size) + 1) = False := eq_false (Nat.not_lt.2 (by have q_ := c144; simp only [ByteArray.size_append] at q_; exact q_))
                 replace H := Option.bind_eq_some_iff.mp H
                 obtain ⟨⟨t251, t252, t253⟩, A1450, H⟩ := H
                 try dsimp only at H
                 have A145 := Aside0.mk A1450
                 clear A1450
                 replace H := Option.bind_eq_some_iff.mp H
                 obtain ⟨t254, A1460, H⟩ := H
                 try dsimp only at H
                 have A146 := Aside0.mk A1460
                 clear A1460
                 by_cases c147 : ((((t248 ++ t180) ++ (⟨#[32]⟩ : ByteArray)) ++ x5_11) ++ (⟨#[32]⟩ : ByteArray)).size + t254.size ≤ 9223372036854775807
                 ·rw [if_pos c147] at H
                  have c147b0 := eq_true c147
                  have c147b1 := decide_eq_true c147
                  try have c147b2 := eq_false (Nat.not_lt.2 c147)
                  try have c147b4 : (9223372036854775807 < ((((t248.size + t180.size) + 1) + x5_11.size) + 1) + t254.size) = False := eq_false (Nat.not_lt.2 (by have q_ := c147; simp only [ByteArray.size_append] at q_; exact q_))
                  simp only [Option.some.injEq, Prod.mk.injEq] at H
                  obtain ⟨rfl, rfl, rfl⟩ := H
                  go_wp2_with (first | ((with_reducible refine gate_dst (N := 147) rfl ?_); refine Kd.R_lit Kd.string _ 9 ?hg (N := 147) ?hd (xs := ([(⟨#[114, 101, 112, 101, 97, 116, 32]⟩ : ByteArray), (⟨#[118, 111, 116, 101, 32]⟩ : ByteArray)] : List ByteArray)) (inner := [.string (⟨#[114, 101, 112, 101, 97, 116, 32]⟩ : ByteArray), .string (⟨#[118, 111, 116, 101, 32]⟩ : ByteArray)]) (ok := fun _ => True) (okp := fun _ => True) ?hr ?hp (fun _ hk => hk) trivial (Below.refl _ _) (Nat.le_refl _) (by simp) ?_; (case hd => rfl); (case hg => rfl); (case hr => exact Qj0_); (case hp => exact (Reps.one (show Kd.M Kd.string _ _ _ (⟨#[114, 101, 112, 101, 97, 116, 32]⟩ : ByteArray) [.string (⟨#[114, 101, 112, 101, 97, 116, 32]⟩ : ByteArray)] from rfl) (Reps.one (show Kd.M Kd.string _ _ _ (⟨#[118, 111, 116, 101, 32]⟩ : ByteArray) [.string (⟨#[118, 111, 116, 101, 32]⟩ : ByteArray)] from rfl) (Reps.none _ _)))); intro v246 w153 ho154 hb hg_ hnew_; clear hg_ hnew_; (first | rw [← Ny245.out] at ho154 | (simp only [Int.reduceToNat] at ho154; rw [← Ny245.out] at ho154)); have n0_ := Aside0.mk (Kd.R_elder' (Qr_ HO179.out) (Kd.R_base ho154) hb); have n1_ := Aside0.mk (Kd.R_lower (Kd.R_new' ho154 (Kd.R_lt (Qr_ HO179.out))) (keep_size (w := w) (g := g) (row := none) Qe0_)); have n2_ := Aside0.mk (IsS53.below Qc0_ hb); have n3_ := Aside0.mk (KeepBut.trans Qe0_ (KeepBut.of_below hb g none) (.inl rfl)); have n4_ := Aside0.mk (below_step Qd0_ hb); clear HO179; clear HI0; clear HK; clear HB; have HO179 := n0_; have HO247 := n1_; have HI0 := n2_; have HK := n3_; have HB := n4_; clear n0_ n1_ n2_ n3_ n4_; clear hb ho154; obtain ⟨Ao155, co155, eo155⟩ := Kd.R_slice HO247.out; subst eo155) | ((with_reducible refine gate_callee (f := 21) rfl ?_); refine goesL_ (some 148) rfl rfl Tryz.func21 Ql0_ rfl #[.pointer (some ⟨g, 0, none⟩), .slice Ao155 y245.length co155] rfl Qb0_ ?_; (with_reducible refine (spec_l00Src_text.calls g s0_0 t184 t185 _ _ y245 t248 t249 t250 w0 _ ?side1 ?side2 ?side3 ?side4 ?side5 A140.out).mono ?_); (case side1 => exact Qi0_); (case side2 => exact Qd0_); (case side3 => exact Qc_ (Kd.R_reads' HO247.out).2.2); (case side4 => exact (Kd.R_reads' HO247.out).2.1); (case side5 => exact far_slice (IsS53.own_ne HI0.out HO247.out (by decide))); rintro e w156 ⟨rfl, hi, hb, hk⟩; refine ⟨_, rfl, ?_⟩; have n0_ := Aside0.mk (Kd.R_mono (Kd.R_keep (IsS53.apart (show IsS53 w0 _ g s0_0 t184 t185 from Qc0_) (Qr_ HO179.out) (by decide)) hk (fun _ h => h.2)) (fun _ h => h.1)); have n1_ := Aside0.mk (Kd.R_mono (Kd.R_keep (IsS53.apart (show IsS53 w0 _ g s0_0 t184 t185 from Qc0_) (Qr_ HO247.out) (by decide)) hk (fun _ h => h.2)) (fun _ h => h.1)); have n2_ := Aside0.mk (KeepBut.trans Qe0_ hk (.inl rfl)); have n3_ := Aside0.mk (hb); have n4_ := Aside0.mk (hi); clear HO179; clear HO247; clear HK; clear HB; clear HI0; have HO179 := n0_; have HO247 := n1_; have HK := n2_; have HB := n3_; have HI0 := n4_; clear n0_ n1_ n2_ n3_ n4_; (try clear hb); (try clear hb2); (try clear hk); (try clear hi)) | ((with_reducible refine gate_callee (f := 12) rfl ?_); refine goesL_ (some 157) rfl rfl Tryz.func12 Ql0_ rfl #[.pointer (some ⟨g, 0, none⟩), .int .i64 3] rfl Qb0_ ?_; (with_reducible refine (spec_l00Src_pick.calls g s0_0 t249 t250 3 t251 t252 t253 w0 _ ?side1 ?side2 A145.out).mono ?_); (case side1 => exact Qi0_); (case side2 => exact Qd0_); rintro e w157 ⟨rfl, hi, hb, hk⟩; refine ⟨_, rfl, ?_⟩; have n0_ := Aside0.mk (Kd.R_mono (Kd.R_keep (IsS53.apart (show IsS53 w0 _ g s0_0 t249 t250 from Qc0_) (Qr_ HO179.out) (by decide)) hk (fun _ h => h.2)) (fun _ h => h.1)); have n1_ := Aside0.mk (Kd.R_mono (Kd.R_keep (IsS53.apart (show IsS53 w0 _ g s0_0 t249 t250 from Qc0_) (Qr_ HO247.out) (by decide)) hk (fun _ h => h.2)) (fun _ h => h.1)); have n2_ := Aside0.mk (KeepBut.trans Qe0_ hk (.inl rfl)); have n3_ := Aside0.mk (hb); have n4_ := Aside0.mk (hi); clear HO179; clear HO247; clear HK; clear HB; clear HI0; have HO179 := n0_; have HO247 := n1_; have HK := n2_; have HB := n3_; have HI0 := n4_; clear n0_ n1_ n2_ n3_ n4_; (try clear hb); (try clear hb2); (try clear hk); (try clear hi)) | ((with_reducible refine gate_callee (f := 27) rfl ?_); refine goesL_ (some 160) rfl rfl Tryz.func27 Ql0_ rfl #[.int .i64 (wrap64 (1 + (wrap64 (2 * t251))))] rfl Qb0_ ?_; (with_reducible refine (spec_l01Dec.calls kj11 (wrap64 (1 + (wrap64 (2 * t251)))) t254 _ A146.out).mono ?_); rintro e w158 ⟨rfl, hb⟩; refine ⟨_, rfl, ?_⟩; have n0_ := Aside0.mk (Kd.R_below (Qr_ HO179.out) hb); have n1_ := Aside0.mk (Kd.R_below (Qr_ HO247.out) hb); have n2_ := Aside0.mk (IsS53.below Qc0_ hb); have n3_ := Aside0.mk (KeepBut.trans Qe0_ (KeepBut.of_below hb g none) (.inl rfl)); have n4_ := Aside0.mk (below_step Qd0_ hb); clear HO179; clear HO247; clear HI0; clear HK; clear HB; have HO179 := n0_; have HO247 := n1_; have HI0 := n2_; have HK := n3_; have HB := n4_; clear n0_ n1_ n2_ n3_ n4_; (try clear hb); (try clear hb2); (try clear hk); (try clear hi)))
                  go_ret
                  exact ⟨Qh0_, Qc0_, Qd0_, Qe0_⟩
                 ·rw [if_neg c147] at H
                  exact absurd H (by simp)
                ·rw [if_neg c144] at H
                 exact absurd H (by simp)
               ·rw [if_neg c143] at H
                exact absurd H (by simp)
              ·rw [if_neg c142] at H
               exact absurd H (by simp)
             ·rw [if_neg c141] at H
              exact absurd H (by simp)
            ·rw [if_neg c139] at H
             have c139b0 := beq_eq_false_iff_ne.mpr c139
             have c139b1 := bne_iff_ne.mpr c139
             obtain ⟨y255, hy255⟩ : ∃ y_ : List Int, y_ = (([11, 13, 19, 7, 2, 1] : List Int)) := ⟨_, rfl⟩
             replace H : ((spec_l00Src_among.f s0_0 t184 t185 y255).bind fun bt258 => ((spec_l00Src_one.f s0_0 bt258.2.1 bt258.2.2 2).bind fun bt261 => (if bt261.1 = true then (if 7 + x5_11.size ≤ 9223372036854775807 then (if ((⟨#[118, 101, 114, 105, 102, 121, 32]⟩ : ByteArray) ++ x5_11).size + 1 ≤ 9223372036854775807 then ((spec_l01Dec.f kj11 bt258.1).bind fun t264 => (if (((⟨#[118, 101, 114, 105, 102, 121, 32]⟩ : ByteArray) ++ x5_11) ++ (⟨#[32]⟩ : ByteArray)).size + t264.size ≤ 9223372036854775807 then (some ((((⟨#[118, 101, 114, 105, 102, 121, 32]⟩ : ByteArray) ++ x5_11) ++ (⟨#[32]⟩ : ByteArray)) ++ t264, bt261.2.1, bt261.2.2)) else (none))) else (none)) else (none)) else (if 6 + t180.size ≤ 9223372036854775807 then (if ((⟨#[99, 104, 101, 99, 107, 32]⟩ : ByteArray) ++ t180).size + 1 ≤ 9223372036854775807 then (if (((⟨#[99, 104, 101, 99, 107, 32]⟩ : ByteArray) ++ t180) ++ (⟨#[32]⟩ : ByteArray)).size + x5_11.size ≤ 9223372036854775807 then (if ((((⟨#[99, 104, 101, 99, 107, 32]⟩ : ByteArray) ++ t180) ++ (⟨#[32]⟩ : ByteArray)) ++ x5_11).size + 1 ≤ 9223372036854775807 then ((spec_l01Dec.f kj11 bt258.1).bind fun t265 => (if (((((⟨#[99, 104, 101, 99, 107, 32]⟩ : ByteArray) ++ t180) ++ (⟨#[32]⟩ : ByteArray)) ++ x5_11) ++ (⟨#[32]⟩ : ByteArray)).size + t265.size ≤ 9223372036854775807 then (some ((((((⟨#[99, 104, 101, 99, 107, 32]⟩ : ByteArray) ++ t180) ++ (⟨#[32]⟩ : ByteArray)) ++ x5_11) ++ (⟨#[32]⟩ : ByteArray)) ++ t265, bt261.2.1, bt261.2.2)) else (none))) else (none)) else (none)) else (none)) else (none))))) = some (r1, r2, r3) := by first | (rw [hy255]; with_reducible exact H) | (have H2_ := (Option.bind_some _ _).symm.trans H; rw [hy255]; with_reducible exact H2_) | (have H2_ := (Option.bind_some _ _).symm.trans H; with_reducible exact H2_) | with_reducible exact H | (rw [hy255]; exact H) | exact H
             have Ny255 := Aside0.mk hy255
             clear hy255
             replace H := Option.bind_eq_some_iff.mp H
             obtain ⟨⟨t258, t259, t260⟩, A1590, H⟩ := H
             try dsimp only at H
             have A159 := Aside0.mk A1590
             clear A1590
             replace H := Option.bind_eq_some_iff.mp H
             obtain ⟨⟨t261, t262, t263⟩, A1600, H⟩ := H
             try dsimp only at H
             have A160 := Aside0.mk A1600
             clear A1600
             by_cases c161 : t261 = true
             ·subst c161
              rw [if_pos rfl] at H
              have H1 := H
              clear H
              have H := H1
              clear H1
              by_cases c162 : 7 + x5_11.size ≤ 9223372036854775807
              ·rw [if_pos c162] at H
               have c162b0 := eq_true c162
               have c162b1 := decide_eq_true c162
               try have c162b2 := eq_false (Nat.not_lt.2 c162)
               by_cases c163 : ((⟨#[118, 101, 114, 105, 102, 121, 32]⟩ : ByteArray) ++ x5_11).size + 1 ≤ 9223372036854775807
               ·rw [if_pos c163] at H
                have c163b0 := eq_true c163
                have c163b1 := decide_eq_true c163
                try have c163b2 := eq_false (Nat.not_lt.2 c163)
                try have c163b4 : (9223372036854775807 < (7 + x5_11.size) + 1) = False := eq_false (Nat.not_lt.2 (by have q_ := c163; simp only [ByteArray.size_append] at q_; exact q_))
                replace H := Option.bind_eq_some_iff.mp H
                obtain ⟨t264, A1640, H⟩ := H
                try dsimp only at H
                have A164 := Aside0.mk A1640
                clear A1640
                by_cases c165 : (((⟨#[118, 101, 114, 105, 102, 121, 32]⟩ : ByteArray) ++ x5_11) ++ (⟨#[32]⟩ : ByteArray)).size + t264.size ≤ 9223372036854775807
                ·rw [if_pos c165] at H
                 have c165b0 := eq_true c165
                 have c165b1 := decide_eq_true c165
                 try have c165b2 := eq_false (Nat.not_lt.2 c165)
                 try have c165b4 : (9223372036854775807 < ((7 + x5_11.size) + 1) + t264.size) = False := eq_false (Nat.not_lt.2 (by have q_ := c165; simp only [ByteArray.size_append] at q_; exact q_))
                 simp only [Option.some.injEq, Prod.mk.injEq] at H
                 obtain ⟨rfl, rfl, rfl⟩ := H
                 go_wp2_with (first | ((with_reducible refine gate_dst (N := 163) rfl ?_); refine Kd.R_lit (Kd.int .i64) _ 2 ?hg (N := 163) ?hd (xs := ([11, 13, 19, 7, 2, 1] : List Int)) (inner := [.int .i64 11, .int .i64 13, .int .i64 19, .int .i64 7, .int .i64 2, .int .i64 1]) (ok := fun _ => True) (okp := fun _ => True) ?hr ?hp (fun _ hk => hk) trivial (Below.refl _ _) (Nat.le_refl _) (by simp) ?_; (case hd => rfl); (case hg => rfl); (case hr => exact Qj0_); (case hp => exact (Reps.one (show Kd.M (Kd.int .i64) _ _ _ 11 [.int .i64 11] from rfl) (Reps.one (show Kd.M (Kd.int .i64) _ _ _ 13 [.int .i64 13] from rfl) (Reps.one (show Kd.M (Kd.int .i64) _ _ _ 19 [.int .i64 19] from rfl) (Reps.one (show Kd.M (Kd.int .i64) _ _ _ 7 [.int .i64 7] from rfl) (Reps.one (show Kd.M (Kd.int .i64) _ _ _ 2 [.int .i64 2] from rfl) (Reps.one (show Kd.M (Kd.int .i64) _ _ _ 1 [.int .i64 1] from rfl) (Reps.none _ _)))))))); intro v256 w171 ho172 hb hg_ hnew_; clear hg_ hnew_; (first | rw [← Ny255.out] at ho172 | (simp only [Int.reduceToNat] at ho172; rw [← Ny255.out] at ho172)); have n0_ := Aside0.mk (Kd.R_below (Qr_ HO179.out) hb); have n1_ := Aside0.mk (Kd.R_lower ho172 (keep_size (w := w) (g := g) (row := none) Qe0_)); have n2_ := Aside0.mk (IsS53.below Qc0_ hb); have n3_ := Aside0.mk (KeepBut.trans Qe0_ (KeepBut.of_below hb g none) (.inl rfl)); have n4_ := Aside0.mk (below_step Qd0_ hb); clear HO179; clear HI0; clear HK; clear HB; have HO179 := n0_; have HO257 := n1_; have HI0 := n2_; have HK := n3_; have HB := n4_; clear n0_ n1_ n2_ n3_ n4_; clear hb ho172; obtain ⟨Ao173, co173, eo173⟩ := Kd.R_slice HO257.out; subst eo173) | ((with_reducible refine gate_callee (f := 29) rfl ?_); refine goesL_ (some 164) rfl rfl Tryz.func29 Ql0_ rfl #[.pointer (some ⟨g, 0, none⟩), .slice Ao173 y255.length co173] rfl Qb0_ ?_; (with_reducible refine (spec_l00Src_among.calls g s0_0 t184 t185 _ _ y255 t258 t259 t260 w0 _ ?side1 ?side2 ?side3 ?side4 ?side5 A159.out).mono ?_); (case side1 => exact Qi0_); (case side2 => exact Qd0_); (case side3 => exact Qc_ (Kd.R_reads' HO257.out).2.2); (case side4 => exact (Kd.R_reads' HO257.out).2.1); (case side5 => exact far_slice (IsS53.own_ne HI0.out HO257.out (by decide))); rintro e w174 ⟨rfl, hi, hb, hk⟩; refine ⟨_, rfl, ?_⟩; have n0_ := Aside0.mk (Kd.R_mono (Kd.R_keep (IsS53.apart (show IsS53 w0 _ g s0_0 t184 t185 from Qc0_) (Qr_ HO179.out) (by decide)) hk (fun _ h => h.2)) (fun _ h => h.1)); have n1_ := Aside0.mk (Kd.R_mono (Kd.R_keep (IsS53.apart (show IsS53 w0 _ g s0_0 t184 t185 from Qc0_) (Qr_ HO257.out) (by decide)) hk (fun _ h => h.2)) (fun _ h => h.1)); have n2_ := Aside0.mk (KeepBut.trans Qe0_ hk (.inl rfl)); have n3_ := Aside0.mk (hb); have n4_ := Aside0.mk (hi); clear HO179; clear HO257; clear HK; clear HB; clear HI0; have HO179 := n0_; have HO257 := n1_; have HK := n2_; have HB := n3_; have HI0 := n4_; clear n0_ n1_ n2_ n3_ n4_; (try clear hb); (try clear hb2); (try clear hk); (try clear hi)) | ((with_reducible refine gate_callee (f := 25) rfl ?_); refine goesL_ (some 166) rfl rfl Tryz.func25 Ql0_ rfl #[.pointer (some ⟨g, 0, none⟩), .int .i64 2] rfl Qb0_ ?_; (with_reducible refine (spec_l00Src_one.calls g s0_0 t259 t260 2 true t262 t263 w0 _ ?side1 ?side2 A160.out).mono ?_); (case side1 => exact Qi0_); (case side2 => exact Qd0_); rintro e w175 ⟨rfl, hi, hb, hk⟩; refine ⟨_, rfl, ?_⟩; have n0_ := Aside0.mk (Kd.R_mono (Kd.R_keep (IsS53.apart (show IsS53 w0 _ g s0_0 t259 t260 from Qc0_) (Qr_ HO179.out) (by decide)) hk (fun _ h => h.2)) (fun _ h => h.1)); have n1_ := Aside0.mk (Kd.R_mono (Kd.R_keep (IsS53.apart (show IsS53 w0 _ g s0_0 t259 t260 from Qc0_) (Qr_ HO257.out) (by decide)) hk (fun _ h => h.2)) (fun _ h => h.1)); have n2_ := Aside0.mk (KeepBut.trans Qe0_ hk (.inl rfl)); have n3_ := Aside0.mk (hb); have n4_ := Aside0.mk (hi); clear HO179; clear HO257; clear HK; clear HB; clear HI0; have HO179 := n0_; have HO257 := n1_; have HK := n2_; have HB := n3_; have HI0 := n4_; clear n0_ n1_ n2_ n3_ n4_; (try clear hb); (try clear hb2); (try clear hk); (try clear hi)) | ((with_reducible refine gate_callee (f := 27) rfl ?_); refine goesL_ (some 171) rfl rfl Tryz.func27 Ql0_ rfl #[.int .i64 t258] rfl Qb0_ ?_; (with_reducible refine (spec_l01Dec.calls kj11 t258 t264 _ A164.out).mono ?_); rintro e w176 ⟨rfl, hb⟩; refine ⟨_, rfl, ?_⟩; have n0_ := Aside0.mk (Kd.R_below (Qr_ HO179.out) hb); have n1_ := Aside0.mk (Kd.R_below (Qr_ HO257.out) hb); have n2_ := Aside0.mk (IsS53.below Qc0_ hb); have n3_ := Aside0.mk (KeepBut.trans Qe0_ (KeepBut.of_below hb g none) (.inl rfl)); have n4_ := Aside0.mk (below_step Qd0_ hb); clear HO179; clear HO257; clear HI0; clear HK; clear HB; have HO179 := n0_; have HO257 := n1_; have HI0 := n2_; have HK := n3_; have HB := n4_; clear n0_ n1_ n2_ n3_ n4_; (try clear hb); (try clear hb2); (try clear hk); (try clear hi)))
                 go_ret
                 exact ⟨Qh0_, Qc0_, Qd0_, Qe0_⟩
                ·rw [if_neg c165] at H
                 exact absurd H (by simp)
               ·rw [if_neg c163] at H
                exact absurd H (by simp)
              ·rw [if_neg c162] at H
               exact absurd H (by simp)
             ·replace c161 := Bool.eq_false_iff.mpr c161
              subst c161
              rw [if_neg (show ¬ (false = true) by decide)] at H
              have H1 := H
              clear H
              have H := H1
              clear H1
              by_cases c177 : 6 + t180.size ≤ 9223372036854775807
              ·rw [if_pos c177] at H
               have c177b0 := eq_true c177
               have c177b1 := decide_eq_true c177
               try have c177b2 := eq_false (Nat.not_lt.2 c177)
               by_cases c178 : ((⟨#[99, 104, 101, 99, 107, 32]⟩ : ByteArray) ++ t180).size + 1 ≤ 9223372036854775807
               ·rw [if_pos c178] at H
                have c178b0 := eq_true c178
                have c178b1 := decide_eq_true c178
                try have c178b2 := eq_false (Nat.not_lt.2 c178)
                try have c178b4 : (9223372036854775807 < (6 + t180.size) + 1) = False := eq_false (Nat.not_lt.2 (by have q_ := c178; simp only [ByteArray.size_append] at q_; exact q_))
                by_cases c179 : (((⟨#[99, 104, 101, 99, 107, 32]⟩ : ByteArray) ++ t180) ++ (⟨#[32]⟩ : ByteArray)).size + x5_11.size ≤ 9223372036854775807
                ·rw [if_pos c179] at H
                 have c179b0 := eq_true c179
                 have c179b1 := decide_eq_true c179
                 try have c179b2 := eq_false (Nat.not_lt.2 c179)
                 try have c179b4 : (9223372036854775807 < ((6 + t180.size) + 1) + x5_11.size) = False := eq_false (Nat.not_lt.2 (by have q_ := c179; simp only [ByteArray.size_append] at q_; exact q_))
                 by_cases c180 : ((((⟨#[99, 104, 101, 99, 107, 32]⟩ : ByteArray) ++ t180) ++ (⟨#[32]⟩ : ByteArray)) ++ x5_11).size + 1 ≤ 9223372036854775807
                 ·rw [if_pos c180] at H
                  have c180b0 := eq_true c180
                  have c180b1 := decide_eq_true c180
                  try have c180b2 := eq_false (Nat.not_lt.2 c180)
                  try have c180b4 : (9223372036854775807 < (((6 + t180.size) + 1) + x5_11.size) + 1) = False := eq_false (Nat.not_lt.2 (by have q_ := c180; simp only [ByteArray.size_append] at q_; exact q_))
                  replace H := Option.bind_eq_some_iff.mp H
                  obtain ⟨t265, A1810, H⟩ := H
                  try dsimp only at H
                  have A181 := Aside0.mk A1810
                  clear A1810
                  by_cases c182 : (((((⟨#[99, 104, 101, 99, 107, 32]⟩ : ByteArray) ++ t180) ++ (⟨#[32]⟩ : ByteArray)) ++ x5_11) ++ (⟨#[32]⟩ : ByteArray)).size + t265.size ≤ 9223372036854775807
                  ·rw [if_pos c182] at H
                   have c182b0 := eq_true c182
                   have c182b1 := decide_eq_true c182
                   try have c182b2 := eq_false (Nat.not_lt.2 c182)
                   try have c182b4 : (9223372036854775807 < ((((6 + t180.size) + 1) + x5_11.size) + 1) + t265.size) = False := eq_false (Nat.not_lt.2 (by have q_ := c182; simp only [ByteArray.size_append] at q_; exact q_))
                   simp only [Option.some.injEq, Prod.mk.injEq] at H
                   obtain ⟨rfl, rfl, rfl⟩ := H
                   go_wp2_with (first | ((with_reducible refine gate_dst (N := 163) rfl ?_); refine Kd.R_lit (Kd.int .i64) _ 2 ?hg (N := 163) ?hd (xs := ([11, 13, 19, 7, 2, 1] : List Int)) (inner := [.int .i64 11, .int .i64 13, .int .i64 19, .int .i64 7, .int .i64 2, .int .i64 1]) (ok := fun _ => True) (okp := fun _ => True) ?hr ?hp (fun _ hk => hk) trivial (Below.refl _ _) (Nat.le_refl _) (by simp) ?_; (case hd => rfl); (case hg => rfl); (case hr => exact Qj0_); (case hp => exact (Reps.one (show Kd.M (Kd.int .i64) _ _ _ 11 [.int .i64 11] from rfl) (Reps.one (show Kd.M (Kd.int .i64) _ _ _ 13 [.int .i64 13] from rfl) (Reps.one (show Kd.M (Kd.int .i64) _ _ _ 19 [.int .i64 19] from rfl) (Reps.one (show Kd.M (Kd.int .i64) _ _ _ 7 [.int .i64 7] from rfl) (Reps.one (show Kd.M (Kd.int .i64) _ _ _ 2 [.int .i64 2] from rfl) (Reps.one (show Kd.M (Kd.int .i64) _ _ _ 1 [.int .i64 1] from rfl) (Reps.none _ _)))))))); intro v256 w188 ho189 hb hg_ hnew_; clear hg_ hnew_; (first | rw [← Ny255.out] at ho189 | (simp only [Int.reduceToNat] at ho189; rw [← Ny255.out] at ho189)); have n0_ := Aside0.mk (Kd.R_below (Qr_ HO179.out) hb); have n1_ := Aside0.mk (Kd.R_lower ho189 (keep_size (w := w) (g := g) (row := none) Qe0_)); have n2_ := Aside0.mk (IsS53.below Qc0_ hb); have n3_ := Aside0.mk (KeepBut.trans Qe0_ (KeepBut.of_below hb g none) (.inl rfl)); have n4_ := Aside0.mk (below_step Qd0_ hb); clear HO179; clear HI0; clear HK; clear HB; have HO179 := n0_; have HO257 := n1_; have HI0 := n2_; have HK := n3_; have HB := n4_; clear n0_ n1_ n2_ n3_ n4_; clear hb ho189; obtain ⟨Ao190, co190, eo190⟩ := Kd.R_slice HO257.out; subst eo190) | ((with_reducible refine gate_callee (f := 29) rfl ?_); refine goesL_ (some 164) rfl rfl Tryz.func29 Ql0_ rfl #[.pointer (some ⟨g, 0, none⟩), .slice Ao190 y255.length co190] rfl Qb0_ ?_; (with_reducible refine (spec_l00Src_among.calls g s0_0 t184 t185 _ _ y255 t258 t259 t260 w0 _ ?side1 ?side2 ?side3 ?side4 ?side5 A159.out).mono ?_); (case side1 => exact Qi0_); (case side2 => exact Qd0_); (case side3 => exact Qc_ (Kd.R_reads' HO257.out).2.2); (case side4 => exact (Kd.R_reads' HO257.out).2.1); (case side5 => exact far_slice (IsS53.own_ne HI0.out HO257.out (by decide))); rintro e w191 ⟨rfl, hi, hb, hk⟩; refine ⟨_, rfl, ?_⟩; have n0_ := Aside0.mk (Kd.R_mono (Kd.R_keep (IsS53.apart (show IsS53 w0 _ g s0_0 t184 t185 from Qc0_) (Qr_ HO179.out) (by decide)) hk (fun _ h => h.2)) (fun _ h => h.1)); have n1_ := Aside0.mk (Kd.R_mono (Kd.R_keep (IsS53.apart (show IsS53 w0 _ g s0_0 t184 t185 from Qc0_) (Qr_ HO257.out) (by decide)) hk (fun _ h => h.2)) (fun _ h => h.1)); have n2_ := Aside0.mk (KeepBut.trans Qe0_ hk (.inl rfl)); have n3_ := Aside0.mk (hb); have n4_ := Aside0.mk (hi); clear HO179; clear HO257; clear HK; clear HB; clear HI0; have HO179 := n0_; have HO257 := n1_; have HK := n2_; have HB := n3_; have HI0 := n4_; clear n0_ n1_ n2_ n3_ n4_; (try clear hb); (try clear hb2); (try clear hk); (try clear hi)) | ((with_reducible refine gate_callee (f := 25) rfl ?_); refine goesL_ (some 166) rfl rfl Tryz.func25 Ql0_ rfl #[.pointer (some ⟨g, 0, none⟩), .int .i64 2] rfl Qb0_ ?_; (with_reducible refine (spec_l00Src_one.calls g s0_0 t259 t260 2 false t262 t263 w0 _ ?side1 ?side2 A160.out).mono ?_); (case side1 => exact Qi0_); (case side2 => exact Qd0_); rintro e w192 ⟨rfl, hi, hb, hk⟩; refine ⟨_, rfl, ?_⟩; have n0_ := Aside0.mk (Kd.R_mono (Kd.R_keep (IsS53.apart (show IsS53 w0 _ g s0_0 t259 t260 from Qc0_) (Qr_ HO179.out) (by decide)) hk (fun _ h => h.2)) (fun _ h => h.1)); have n1_ := Aside0.mk (Kd.R_mono (Kd.R_keep (IsS53.apart (show IsS53 w0 _ g s0_0 t259 t260 from Qc0_) (Qr_ HO257.out) (by decide)) hk (fun _ h => h.2)) (fun _ h => h.1)); have n2_ := Aside0.mk (KeepBut.trans Qe0_ hk (.inl rfl)); have n3_ := Aside0.mk (hb); have n4_ := Aside0.mk (hi); clear HO179; clear HO257; clear HK; clear HB; clear HI0; have HO179 := n0_; have HO257 := n1_; have HK := n2_; have HB := n3_; have HI0 := n4_; clear n0_ n1_ n2_ n3_ n4_; (try clear hb); (try clear hb2); (try clear hk); (try clear hi)) | ((with_reducible refine gate_callee (f := 27) rfl ?_); refine goesL_ (some 180) rfl rfl Tryz.func27 Ql0_ rfl #[.int .i64 t258] rfl Qb0_ ?_; (with_reducible refine (spec_l01Dec.calls kj11 t258 t265 _ A181.out).mono ?_); rintro e w193 ⟨rfl, hb⟩; refine ⟨_, rfl, ?_⟩; have n0_ := Aside0.mk (Kd.R_below (Qr_ HO179.out) hb); have n1_ := Aside0.mk (Kd.R_below (Qr_ HO257.out) hb); have n2_ := Aside0.mk (IsS53.below Qc0_ hb); have n3_ := Aside0.mk (KeepBut.trans Qe0_ (KeepBut.of_below hb g none) (.inl rfl)); have n4_ := Aside0.mk (below_step Qd0_ hb); clear HO179; clear HO257; clear HI0; clear HK; clear HB; have HO179 := n0_; have HO257 := n1_; have HI0 := n2_; have HK := n3_; have HB := n4_; clear n0_ n1_ n2_ n3_ n4_; (try clear hb); (try clear hb2); (try clear hk); (try clear hi)))
                   go_ret
                   exact ⟨Qh0_, Qc0_, Qd0_, Qe0_⟩
                  ·rw [if_neg c182] at H
                   exact absurd H (by simp)
                 ·rw [if_neg c180] at H
                  exact absurd H (by simp)
                ·rw [if_neg c179] at H
                 exact absurd H (by simp)
               ·rw [if_neg c178] at H
                exact absurd H (by simp)
              ·rw [if_neg c177] at H
               exact absurd H (by simp)
end Go.Proofs.YtdaeioklcilipaaGreatDoor.QFnConsole
