/- FnExactFlipLoss: the law's row, over the proof of its pure statement; written by a program of this session (wip/lawrow.py). -/
import Derived.LaidMore
import Derived.Lay
import Derived.SevenTiedAt
import Derived.Stop.Joined
import Derived.Test.YtohdepanfnaddaaDoorTie
import Derived.Test.YtohdepanfnaddaaDoorCards
import Derived.Test.YtohdepanfnaddaaDoorRows
import Derived.Test.YtohdepanfnaddaaDoorQFnExactFlipLossx9
import Derived.Test.YtohdepanfnaddaaDoorPureFnExactFlipLoss
import Derived.WalkKit
import Derived.ProofKit
import Derived.OpenShut
import Derived.ShutString
import Derived.ChangeOld
import Derived.Below
import Derived.SizedLaws
import Derived.SliceStrings
import Derived.ChangeSame
import Derived.Test.YtohdepanfnaddaaDoorWSized
namespace Go.Proofs.YtohdepanfnaddaaDoor.fnExactFlipLoss
open Go.ChangeShapes Go.WideShapes Go.ChangeAt Go.RowKit Go.Proofs.YtohdepanfnaddaaDoorW.PrintWords
open Go.ChangeMaps (open_string shut_string)
set_option linter.unusedVariables false
theorem own : ownKnob Tryd.prog.godebug = none := by kernel_rfl
theorem laidOut : laidOutB Tryd.prog = true := by kernel_rfl
/-- An argument that is strings, as the row's condition tells it, in the walk's words. -/
theorem openedStrs {H : Type} {enc : TypeId × Value → H} {W : World} {fuel : Nat} {cs : List Value} {x : DataW H × List MemPlace} (h : DataW.trod enc Tryd.prog W 0 (fun _ => true) true fuel 22 cs = some x) :
    ∃ (a : Option Addr) (xs : List ByteArray) (cap : Nat), cs = [.slice a xs.length cap] ∧ xs.length ≤ maxLen ∧ (∀ s ∈ xs, s.size ≤ maxLen) ∧ Kd.C Kd.string W a xs.length xs ∧ xs.length ≤ cap := by
  rcases open_strings Tryd.underlying22 Tryd.underlying9 (by kernel_rfl) h with ⟨rfl, _⟩ | ⟨a, l, c, zs, rfl, _, hl, hm, hz, _, hcell, hwz⟩
  · exact ⟨none, [], 0, rfl, Nat.zero_le _, fun n hn => absurd hn (by simp), Kd.C_nil _ _, Nat.le_refl _⟩
  · have hz : zs.length = c := by simpa using hz
    have hel : (zs.take l).length = l := by rw [List.length_take]; omega
    have hmx : maxLen ≤ 9223372036854775807 := by decide
    refine ⟨some a, zs.take l, c, by rw [hel], by rw [hel]; omega, fun n hn => hwz n (List.mem_of_mem_take hn), ?_, by rw [hel]; exact hl⟩
    refine ⟨rfl, by rw [hel]; omega, fun _ => ⟨a, rfl, fun j p hj => ?_⟩⟩
    obtain ⟨hjl, hjr⟩ := List.getElem?_eq_some_iff.1 hj
    rw [List.length_take] at hjl
    rw [List.getElem_take] at hjr
    refine ⟨[.string p], rfl, rfl, fun q u hq => ?_⟩
    cases q with
    | zero =>
      obtain rfl : Value.string p = u := by simpa using hq
      have h7 := hcell j (by omega)
      rw [List.getD_eq_getElem?_getD, List.getElem?_eq_getElem (by omega), Option.getD_some, hjr] at h7
      rw [show j * Kd.string.sz + 0 = j from Nat.mul_one j]
      exact h7
    | succ q => simp at hq
/-- An argument that is numbers, as the row's condition tells it, in the walk's words. -/
theorem openedInts {H : Type} {enc : TypeId × Value → H} {W : World} {fuel : Nat} {cs : List Value} {x : DataW H × List MemPlace} (h : DataW.trod enc Tryd.prog W 0 (fun _ => true) true fuel 32 cs = some x) :
    ∃ (a : Option Addr) (xs : List Int) (cap : Nat), cs = [.slice a xs.length cap] ∧ xs.length ≤ maxLen ∧ (∀ n ∈ xs, -9223372036854775808 ≤ n ∧ n ≤ 9223372036854775807) ∧ Kd.C (Kd.int .i64) W a xs.length xs ∧ xs.length ≤ cap := by
  rcases open_ints Tryd.underlying32 Tryd.underlying2 (by kernel_rfl) h with ⟨rfl, _⟩ | ⟨a, l, c, zs, rfl, _, hl, hm, hz, _, hcell, hwz⟩
  · exact ⟨none, [], 0, rfl, Nat.zero_le _, fun n hn => absurd hn (by simp), Kd.C_nil _ _, Nat.le_refl _⟩
  · have hz : zs.length = c := by simpa using hz
    have hel : (zs.take l).length = l := by rw [List.length_take]; omega
    have hmx : maxLen ≤ 9223372036854775807 := by decide
    refine ⟨some a, zs.take l, c, by rw [hel], by rw [hel]; omega, fun n hn => bounds_i64 (hwz n (List.mem_of_mem_take hn)), ?_, by rw [hel]; exact hl⟩
    refine ⟨rfl, by rw [hel]; omega, fun _ => ⟨a, rfl, fun j p hj => ?_⟩⟩
    obtain ⟨hjl, hjr⟩ := List.getElem?_eq_some_iff.1 hj
    rw [List.length_take] at hjl
    rw [List.getElem_take] at hjr
    refine ⟨[.int .i64 p], rfl, rfl, fun q u hq => ?_⟩
    cases q with
    | zero =>
      obtain rfl : Value.int .i64 p = u := by simpa using hq
      have h7 := hcell j (by omega)
      rw [List.getD_eq_getElem?_getD, List.getElem?_eq_getElem (by omega), Option.getD_some, hjr] at h7
      rw [show j * (Kd.int IntKind.i64).sz + 0 = j from Nat.mul_one j]
      exact h7
    | succ q => simp at hq
set_option maxRecDepth 100000 in
theorem lifted (os : Os) (started : os.Started) (H : Type) (enc : TypeId × Value → H) :
    ReturnsInHanded {} Tryd.checked os 8 .any (fun w args => (Rows.fnExactFlipLossSpec.pre enc Tryd.prog Tryd.f8 Rows.fnExactFlipLossRow.domain false w args ∧ laidMetH Tryd.prog Rows.fnExactFlipLossRow.laid w) ∧ sizedMet enc Tryd.prog Tryd.f8 (OpenSpec.ofChange Rows.fnExactFlipLossSpec) false w args) (Rows.fnExactFlipLossSpec.post enc Tryd.prog Tryd.f8 false true false false) := by
  refine returnsInHanded_of_change_and (C := Tryd.checked) (X := fun w _ => laidMetH Tryd.prog Rows.fnExactFlipLossRow.laid w) (fun _ _ _ hh h => h.of_heap hh) own started (by kernel_rfl) Tryd.func8
    (ChangeSpec.witness_shaped (enc := enc) (C := Tryd.checked) (os := os) (X := fun w _ => laidMetH Tryd.prog Rows.fnExactFlipLossRow.laid w) false (World.laidAll Tryd.prog os Rows.fnExactFlipLossRow.laid) #[.slice none 0 0, .slice none 0 0, .int .i64 0] 8 (World.laidAll_os _ _ _)
      (World.shaped_of_ZipB (by kernel_rfl) (by kernel_rfl)) (by kernel_rfl) (by kernel_rfl) (by kernel_rfl)
      (by rw [MakeChecks.laidMetH_plain _ _ _ (by kernel_rfl)]; exact laidMet_laidAll _ (by kernel_rfl) (by kernel_rfl))) ?_
  intro W base args ds gs before hval0 hW hcnd hsz0 hL _
  have hsz : (DataW.weightsEach Tryd.prog (Tryd.f8.params.toList ++ Rows.fnExactFlipLossSpec.plain.varTypes Tryd.prog) (ds ++ gs)).all (· ≤ reachBytes) = true := hsz0
  have hval : ∀ (j : Nat) t v, Tryd.f8.params[j]? = some t → args[j]? = some v → Value.okWide Tryd.prog W .any base t v := hval0
  have hW' := hW
  obtain ⟨p, q, hA0, hV, rfl, hfz, hnd⟩ := hW
  have hA : DataW.TrodAll enc Tryd.prog W 0 (fun _ => true) true Tryd.f8.params.toList args.toList ds p := hA0
  rw [Tryd.params8] at hA hval hsz
  obtain ⟨v0, vs0, d0, ds0, p0, q0, hargs, rfl, rfl, h0, r0⟩ := trodAll_cons hA
  obtain ⟨v1, vs1, d1, ds1, p1, q1, rfl, rfl, rfl, h1, r1⟩ := trodAll_cons r0
  obtain ⟨v2, vs2, d2, ds2, p2, q2, rfl, rfl, rfl, h2, r2⟩ := trodAll_cons r1
  obtain ⟨rfl, rfl, rfl⟩ := trodAll_nil r2
  obtain rfl : args = #[v0, v1, v2] := by cases args; simp_all
  obtain ⟨rfl, rfl⟩ := trodVars_none hV
  have k0 := h0
  have lt0 : ∀ x ∈ p0, x.block < W.heap.size := by obtain ⟨m, hm⟩ := k0; exact DataW.trod_lt m _ _ _ hm
  obtain ⟨b0, len0, cap0, rfl⟩ := okWide_slice Tryd.underlying22 (hval 0 22 v0 rfl rfl)
  obtain ⟨fu0, hf0⟩ := h0
  obtain ⟨A0, l0, c0, hq0, hm0, hx0, hr0, hc0⟩ := openedStrs hf0
  simp [Value.cells] at hq0
  obtain ⟨rfl, rfl, rfl⟩ := hq0
  have k1 := h1
  have lt1 : ∀ x ∈ p1, x.block < W.heap.size := by obtain ⟨m, hm⟩ := k1; exact DataW.trod_lt m _ _ _ hm
  obtain ⟨b1, len1, cap1, rfl⟩ := okWide_slice Tryd.underlying32 (hval 1 32 v1 rfl rfl)
  obtain ⟨fu1, hf1⟩ := h1
  obtain ⟨A1, l1, c1, hq1, hm1, hx1, hr1, hc1⟩ := openedInts hf1
  simp [Value.cells] at hq1
  obtain ⟨rfl, rfl, rfl⟩ := hq1
  obtain ⟨a2, rfl, rfl, rfl, w2⟩ := open_int Tryd.underlying2 (hval 2 2 v2 rfl rfl) h2
  clear hA0 hval0 hsz0 hsz
  refine (QFnExactFlipLoss.laws_FnExactFlipLoss.walk Pure.FnExactFlipLoss W b0 cap0 l0 hm0 hx0 hr0 hc0 b1 cap1 l1 hm1 hx1 hr1 hc1 a2 (bounds_i64 w2)).mono fun e W' ⟨he, bel⟩ => ?_
  subst he
  exact ⟨_, rfl, _, _, _, [], _, [], hW', trodAll_mk1 (shut_bool Tryd.underlying4 _), (trodAll_cons_mk (Below.trod laidOut (by kernel_rfl) (of_decide_eq_true (by kernel_rfl)) k0 bel lt0) (trodAll_cons_mk (Below.trod laidOut (by kernel_rfl) (of_decide_eq_true (by kernel_rfl)) k1 bel lt1) (trodAll_cons_mk (shut_int Tryd.underlying2 w2) trodAll_mk0))), rfl, bel.frame _, fun h => by cases h⟩
theorem over : Rows.fnExactFlipLossRow.holds Tryd.pinned (OpenSpec.ofChange Rows.fnExactFlipLossSpec) :=
  OpenClaim.holds_of_wide 8 Tryd.f8 rfl rfl rfl rfl rfl rfl rfl ⟨rfl, rfl, rfl, rfl, rfl⟩ rfl rfl rfl rfl rfl (by kernel_rfl) Tryd.func8 (by kernel_rfl)
    (of_decide_eq_true (by kernel_rfl)) (by unfold Func.isWrapper; first | (rw [if_pos (by decide +kernel)]; kernel_rfl) | (rw [if_neg (by decide +kernel)]; exact ⟨rfl, rfl⟩))
    (fun os started H enc _ => lifted os started H enc)
theorem proved : Rows.FnExactFlipLossSaid := over
theorem card : Rows.FnExactFlipLossCardSaid :=
  Claim7.holds_tied_plain_at .later [] [.data, .pinned] true (true, "4bc9df11bc9a37b49a791c32ff869addbed0aaa2a99babe607bb7b8800dce465") false over (fun _ h => by cases h) (by kernel_rfl) (fun _ h => by cases h) fnExactFlipLoss_row_tie rfl ⟨rfl, rfl⟩ (by kernel_rfl) rfl
    (fun f fn hf hfn => by
      obtain rfl : f = 8 := Option.some.inj ((show Tryd.prog.funcNamed "loop.example/g01142/laws.FnExactFlipLoss" = some 8 by kernel_rfl).symm.trans hf) |>.symm
      obtain rfl : fn = Tryd.f8 := (Option.some.inj (Tryd.func8.symm.trans hfn)).symm
      exact ⟨by kernel_rfl, fun j t ht => by
        rw [Tryd.params8] at ht
        have hm : t ∈ [2, 22, 32] := by
          have h := Array.mem_of_getElem? ht
          first | (simpa using h; done) | (simp at h ⊢; rcases h with h | h <;> simp [h]; done) | (simp at h ⊢; rcases h with h | h | h <;> simp [h]; done) | (simp at h ⊢; rcases h with h | h | h | h <;> simp [h]; done)
        have hall : ([2, 22, 32].all fun u => !Tryd.prog.wantsStandIn u) = true := by kernel_rfl
        exact (show Tryd.prog.wantsStandIn t = false by simpa using List.all_eq_true.1 hall t hm)⟩)
    (by kernel_rfl)
#print axioms card
end Go.Proofs.YtohdepanfnaddaaDoor.fnExactFlipLoss
namespace Go.Proofs.YtohdepanfnaddaaDoor
/-- The row, under a short name, for the claim. -/
theorem fnExactFlipLoss_holds : Rows.FnExactFlipLossCardSaid := fnExactFlipLoss.card
end Go.Proofs.YtohdepanfnaddaaDoor
