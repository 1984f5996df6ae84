/- FnExactSyncWord: the law's row, over the proof of its pure statement; written by a program of this session (wip/lawrow.py). -/
import Derived.LaidMore
import Derived.Lay
import Derived.SevenTiedAt
import Derived.Stop.Joined
import Derived.Test.YtohdepanfnaddaaDoorTie
import Derived.Test.YtohdepanfnaddaaDoorCards
import Derived.Test.YtohdepanfnaddaaDoorRows
import Derived.Test.YtohdepanfnaddaaDoorQFnExactSyncWordx7
import Derived.Test.YtohdepanfnaddaaDoorPureFnExactSyncWord
import Derived.WalkKit
import Derived.ProofKit
import Derived.OpenShut
import Derived.ShutString
import Derived.ChangeOld
import Derived.Below
import Derived.SizedLaws
import Derived.SliceStrings
import Derived.ChangeSame
import Derived.Test.YtohdepanfnaddaaDoorWSized
namespace Go.Proofs.YtohdepanfnaddaaDoor.fnExactSyncWord
open Go.ChangeShapes Go.WideShapes Go.ChangeAt Go.RowKit Go.Proofs.YtohdepanfnaddaaDoorW.PrintWords
open Go.ChangeMaps (open_string shut_string)
set_option linter.unusedVariables false
theorem own : ownKnob Tryd.prog.godebug = none := by kernel_rfl
theorem laidOut : laidOutB Tryd.prog = true := by kernel_rfl
/-- An argument that is strings, as the row's condition tells it, in the walk's words. -/
theorem openedStrs {H : Type} {enc : TypeId × Value → H} {W : World} {fuel : Nat} {cs : List Value} {x : DataW H × List MemPlace} (h : DataW.trod enc Tryd.prog W 0 (fun _ => true) true fuel 22 cs = some x) :
    ∃ (a : Option Addr) (xs : List ByteArray) (cap : Nat), cs = [.slice a xs.length cap] ∧ xs.length ≤ maxLen ∧ (∀ s ∈ xs, s.size ≤ maxLen) ∧ Kd.C Kd.string W a xs.length xs ∧ xs.length ≤ cap := by
  rcases open_strings Tryd.underlying22 Tryd.underlying9 (by kernel_rfl) h with ⟨rfl, _⟩ | ⟨a, l, c, zs, rfl, _, hl, hm, hz, _, hcell, hwz⟩
  · exact ⟨none, [], 0, rfl, Nat.zero_le _, fun n hn => absurd hn (by simp), Kd.C_nil _ _, Nat.le_refl _⟩
  · have hz : zs.length = c := by simpa using hz
    have hel : (zs.take l).length = l := by rw [List.length_take]; omega
    have hmx : maxLen ≤ 9223372036854775807 := by decide
    refine ⟨some a, zs.take l, c, by rw [hel], by rw [hel]; omega, fun n hn => hwz n (List.mem_of_mem_take hn), ?_, by rw [hel]; exact hl⟩
    refine ⟨rfl, by rw [hel]; omega, fun _ => ⟨a, rfl, fun j p hj => ?_⟩⟩
    obtain ⟨hjl, hjr⟩ := List.getElem?_eq_some_iff.1 hj
    rw [List.length_take] at hjl
    rw [List.getElem_take] at hjr
    refine ⟨[.string p], rfl, rfl, fun q u hq => ?_⟩
    cases q with
    | zero =>
      obtain rfl : Value.string p = u := by simpa using hq
      have h7 := hcell j (by omega)
      rw [List.getD_eq_getElem?_getD, List.getElem?_eq_getElem (by omega), Option.getD_some, hjr] at h7
      rw [show j * Kd.string.sz + 0 = j from Nat.mul_one j]
      exact h7
    | succ q => simp at hq
set_option maxHeartbeats 8000000 in
set_option maxRecDepth 100000 in
theorem lifted (os : Os) (started : os.Started) (H : Type) (enc : TypeId × Value → H) :
    ReturnsInHanded {} Tryd.checked os 9 .any (fun w args => (Rows.fnExactSyncWordSpec.pre enc Tryd.prog Tryd.f9 Rows.fnExactSyncWordRow.domain false w args ∧ laidMetH Tryd.prog Rows.fnExactSyncWordRow.laid w) ∧ sizedMet enc Tryd.prog Tryd.f9 (OpenSpec.ofChange Rows.fnExactSyncWordSpec) false w args) (Rows.fnExactSyncWordSpec.post enc Tryd.prog Tryd.f9 false true false false) := by
  refine returnsInHanded_of_change_and (C := Tryd.checked) (X := fun w _ => laidMetH Tryd.prog Rows.fnExactSyncWordRow.laid w) (fun _ _ _ hh h => h.of_heap hh) own started (by kernel_rfl) Tryd.func9
    (ChangeSpec.witness_shaped (enc := enc) (C := Tryd.checked) (os := os) (X := fun w _ => laidMetH Tryd.prog Rows.fnExactSyncWordRow.laid w) false (World.laidAll Tryd.prog os Rows.fnExactSyncWordRow.laid) #[.slice none 0 0] 8 (World.laidAll_os _ _ _)
      (World.shaped_of_ZipB (by kernel_rfl) (by kernel_rfl)) (by kernel_rfl) (by kernel_rfl) (by kernel_rfl)
      (by rw [MakeChecks.laidMetH_plain _ _ _ (by kernel_rfl)]; exact laidMet_laidAll _ (by kernel_rfl) (by kernel_rfl))) ?_
  intro W base args ds gs before hval0 hW hcnd hsz0 hL _
  have hsz : (DataW.weightsEach Tryd.prog (Tryd.f9.params.toList ++ Rows.fnExactSyncWordSpec.plain.varTypes Tryd.prog) (ds ++ gs)).all (· ≤ reachBytes) = true := hsz0
  have hval : ∀ (j : Nat) t v, Tryd.f9.params[j]? = some t → args[j]? = some v → Value.okWide Tryd.prog W .any base t v := hval0
  have hW' := hW
  obtain ⟨p, q, hA0, hV, rfl, hfz, hnd⟩ := hW
  have hA : DataW.TrodAll enc Tryd.prog W 0 (fun _ => true) true Tryd.f9.params.toList args.toList ds p := hA0
  rw [Tryd.params9] at hA hval hsz
  obtain ⟨v0, vs0, d0, ds0, p0, q0, hargs, rfl, rfl, h0, r0⟩ := trodAll_cons hA
  obtain ⟨rfl, rfl, rfl⟩ := trodAll_nil r0
  obtain rfl : args = #[v0] := by cases args; simp_all
  obtain ⟨rfl, rfl⟩ := trodVars_none hV
  have k0 := h0
  have lt0 : ∀ x ∈ p0, x.block < W.heap.size := by obtain ⟨m, hm⟩ := k0; exact DataW.trod_lt m _ _ _ hm
  obtain ⟨b0, len0, cap0, rfl⟩ := okWide_slice Tryd.underlying22 (hval 0 22 v0 rfl rfl)
  obtain ⟨fu0, hf0⟩ := h0
  obtain ⟨A0, l0, c0, hq0, hm0, hx0, hr0, hc0⟩ := openedStrs hf0
  simp [Value.cells] at hq0
  obtain ⟨rfl, rfl, rfl⟩ := hq0
  clear hA0 hval0 hsz0 hsz
  refine (QFnExactSyncWord.laws_FnExactSyncWord.walk Pure.FnExactSyncWord W b0 cap0 l0 hm0 hx0 hr0 hc0).mono fun e W' ⟨he, bel⟩ => ?_
  subst he
  exact ⟨_, rfl, _, _, _, [], _, [], hW', trodAll_mk1 (shut_bool Tryd.underlying4 _), (trodAll_cons_mk (Below.trod laidOut (by kernel_rfl) (of_decide_eq_true (by kernel_rfl)) k0 bel lt0) trodAll_mk0), rfl, bel.frame _, fun h => by cases h⟩
theorem over : Rows.fnExactSyncWordRow.holds Tryd.pinned (OpenSpec.ofChange Rows.fnExactSyncWordSpec) :=
  OpenClaim.holds_of_wide 9 Tryd.f9 rfl rfl rfl rfl rfl rfl rfl ⟨rfl, rfl, rfl, rfl, rfl⟩ rfl rfl rfl rfl rfl (by kernel_rfl) Tryd.func9 (by kernel_rfl)
    (of_decide_eq_true (by kernel_rfl)) (by unfold Func.isWrapper; first | (rw [if_pos (by decide +kernel)]; kernel_rfl) | (rw [if_neg (by decide +kernel)]; exact ⟨rfl, rfl⟩))
    (fun os started H enc _ => lifted os started H enc)
theorem proved : Rows.FnExactSyncWordSaid := over
theorem card : Rows.FnExactSyncWordCardSaid :=
  Claim7.holds_tied_plain_at .later [] [.data, .pinned] true (true, "4bc9df11bc9a37b49a791c32ff869addbed0aaa2a99babe607bb7b8800dce465") false over (fun _ h => by cases h) (by kernel_rfl) (fun _ h => by cases h) fnExactSyncWord_row_tie rfl ⟨rfl, rfl⟩ (by kernel_rfl) rfl
    (fun f fn hf hfn => by
      obtain rfl : f = 9 := Option.some.inj ((show Tryd.prog.funcNamed "loop.example/g01142/laws.FnExactSyncWord" = some 9 by kernel_rfl).symm.trans hf) |>.symm
      obtain rfl : fn = Tryd.f9 := (Option.some.inj (Tryd.func9.symm.trans hfn)).symm
      exact ⟨by kernel_rfl, fun j t ht => by
        rw [Tryd.params9] at ht
        have hm : t ∈ [22] := by
          have h := Array.mem_of_getElem? ht
          first | (simpa using h; done) | (simp at h ⊢; rcases h with h | h <;> simp [h]; done) | (simp at h ⊢; rcases h with h | h | h <;> simp [h]; done) | (simp at h ⊢; rcases h with h | h | h | h <;> simp [h]; done)
        have hall : ([22].all fun u => !Tryd.prog.wantsStandIn u) = true := by kernel_rfl
        exact (show Tryd.prog.wantsStandIn t = false by simpa using List.all_eq_true.1 hall t hm)⟩)
    (by kernel_rfl)
#print axioms card
end Go.Proofs.YtohdepanfnaddaaDoor.fnExactSyncWord
namespace Go.Proofs.YtohdepanfnaddaaDoor
/-- The row, under a short name, for the claim. -/
theorem fnExactSyncWord_holds : Rows.FnExactSyncWordCardSaid := fnExactSyncWord.card
end Go.Proofs.YtohdepanfnaddaaDoor
