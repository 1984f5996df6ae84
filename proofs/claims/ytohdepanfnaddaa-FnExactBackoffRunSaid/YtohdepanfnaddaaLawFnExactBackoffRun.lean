/- FnExactBackoffRun: functions that it reaches, with what they compute and the proof that they do; written by a program of this session (wip/myprint.py). -/
import Derived.Test.YtohdepanfnaddaaRows
import Derived.Test.YtohdepanfnaddaaQFnExactBackoffRunx6
import Derived.Deep.Matrix
import Derived.Test.YtohdepanfnaddaaPureFnExactBackoffRun
import Derived.WalkKit
import Derived.ProofKit
import Derived.OpenShut
import Derived.ShutString
import Derived.ChangeOld
import Derived.Below
import Derived.SizedLaws
import Derived.Test.YtohdepanfnaddaaWSized
namespace Go.Proofs.Ytohdepanfnaddaa.fnExactBackoffRun
open Go.ChangeShapes Go.WideShapes Go.ChangeAt Go.RowKit Go.Proofs.YtohdepanfnaddaaW.PrintWords
open Go.ChangeMaps (open_string shut_string)
set_option linter.unusedVariables false
theorem own : ownKnob Try.prog.godebug = none := by kernel_rfl
theorem laidOut : laidOutB Try.prog = true := by kernel_rfl
/-- An argument that is rows of numbers, as the row's condition tells it, in the walk's words. -/
theorem opened {H : Type} {enc : TypeId × Value → H} {W : World} {a : Option Addr} {len cap : Nat} {d : DataW H} {ps : List MemPlace} (h : DataW.Trod enc Try.prog W 0 (fun _ => true) true 22 (.slice a len cap) d ps) :
    ∃ xs : List (List Int), xs.length = len ∧ xs.length ≤ maxLen ∧ (∀ x ∈ xs, x.length ≤ maxLen) ∧ Kd.C (Kd.slice 2 (Kd.int .i64)) W a xs.length xs ∧ xs.length ≤ cap := by
  obtain ⟨fuel, hf⟩ := h
  rcases Deep.open_int_rows Try.underlying22 Try.underlying24 Try.underlying2 (by kernel_rfl) (by kernel_rfl) hf with ⟨hcs, _⟩ | ⟨x, l, c, A, L, C, Z, hcs, _, hl, hm, _, hrow⟩
  · simp [Value.cells] at hcs
    obtain ⟨rfl, rfl, rfl⟩ := hcs
    exact ⟨[], rfl, Nat.zero_le _, fun x hx => absurd hx (by simp), Kd.C_nil _ _, Nat.le_refl _⟩
  · simp [Value.cells] at hcs
    obtain ⟨rfl, rfl, rfl⟩ := hcs
    have hmx : maxLen ≤ 9223372036854775807 := by decide
    have hll : ((List.range len).map fun r => (Z r).take (L r)).length = len := by rw [List.length_map, List.length_range]
    have hel : ∀ r, r < len → ((Z r).take (L r)).length = L r := fun r hr => by
      obtain ⟨_, h1, _, h2, _⟩ := hrow r (by omega)
      rw [List.length_take, h2]; omega
    refine ⟨(List.range len).map fun r => (Z r).take (L r), hll, by rw [hll]; omega, fun y hy => ?_, ?_, by rw [hll]; exact hl⟩
    · obtain ⟨r, hr, rfl⟩ := List.mem_map.1 hy
      have hr2 := List.mem_range.1 hr
      obtain ⟨_, h1, h2, _⟩ := hrow r (by omega)
      rw [hel r hr2]; omega
    · refine ⟨rfl, by rw [hll]; omega, fun _ => ⟨x, rfl, fun j p hj => ?_⟩⟩
      rw [List.getElem?_map] at hj
      obtain ⟨r, hr, rfl⟩ := Option.map_eq_some_iff.1 hj
      obtain ⟨hjl, hjr⟩ := List.getElem?_eq_some_iff.1 hr
      rw [List.getElem_range] at hjr
      subst hjr
      rw [List.length_range] at hjl
      obtain ⟨h0, h1, h2, h3, h4, h5, h6⟩ := hrow j (by omega)
      refine ⟨[.slice (A j) (L j) (C j)], rfl, ⟨A j, C j, by rw [hel j hjl], by rw [hel j hjl]; exact h1, rfl, by rw [hel j hjl]; omega, fun hp => ?_⟩, fun i u hi => ?_⟩
      · cases hA : A j with
        | none => rw [hel j hjl] at hp; have := h5 hA; omega
        | some b =>
          refine ⟨b, rfl, fun i z hi => ⟨[.int .i64 z], rfl, rfl, fun q u hq => ?_⟩⟩
          obtain ⟨hil, hie⟩ := List.getElem?_eq_some_iff.1 hi
          rw [hel j hjl] at hil
          cases q with
          | zero =>
            obtain rfl : Value.int .i64 z = u := by simpa using hq
            have h7 := (h6 b hA).2 i (by omega)
            rw [show i * (Kd.int IntKind.i64).sz + 0 = i from Nat.mul_one i, h7]
            rw [List.getElem_take] at hie
            rw [List.getD_eq_getElem?_getD, List.getElem?_eq_getElem (by omega), Option.getD_some, hie]
          | succ q => simp at hq
      · cases i with
        | zero =>
          obtain rfl : Value.slice (A j) (L j) (C j) = u := by simpa using hi
          rw [show j * (Kd.slice 2 (Kd.int IntKind.i64)).sz + 0 = j from Nat.mul_one j]
          exact h0
        | succ i => simp at hi
set_option maxRecDepth 100000 in
theorem lifted (os : Os) (started : os.Started) (H : Type) (enc : TypeId × Value → H) :
    ReturnsInHanded {} Try.checked os 3 .any (Rows.fnExactBackoffRunSpec.pre6 enc Try.prog Try.f3 Rows.fnExactBackoffRunRow.domain false) (Rows.fnExactBackoffRunSpec.post enc Try.prog Try.f3 false true false false) := by
  refine returnsInHanded_of_change_sized (C := Try.checked) own started (by kernel_rfl) Try.func3
    (ChangeSpec.witness6 (enc := enc) (C := Try.checked) false ⟨#[], #[.slice none 0 0], []⟩ 8 (by kernel_rfl) (by kernel_rfl) (by kernel_rfl) (by kernel_rfl)) ?_
  intro W base args ds gs before hval0 hW hcnd hsz0 _
  have hsz : (DataW.weightsEach Try.prog (Try.f3.params.toList ++ Rows.fnExactBackoffRunSpec.plain.varTypes Try.prog) (ds ++ gs)).all (· ≤ reachBytes) = true := hsz0
  have hval : ∀ (j : Nat) t v, Try.f3.params[j]? = some t → args[j]? = some v → Value.okWide Try.prog W .any base t v := hval0
  have hW' := hW
  obtain ⟨p, q, hA0, hV, rfl, hfz, hnd⟩ := hW
  have hA : DataW.TrodAll enc Try.prog W 0 (fun _ => true) true Try.f3.params.toList args.toList ds p := hA0
  rw [Try.params3] at hA hval hsz
  obtain ⟨v0, vs0, d0, ds0, p0, q0, hargs, rfl, rfl, h0, r0⟩ := trodAll_cons hA
  obtain ⟨rfl, rfl, rfl⟩ := trodAll_nil r0
  obtain rfl : args = #[v0] := by cases args; simp_all
  obtain ⟨rfl, rfl⟩ := trodVars_none hV
  obtain ⟨a0, len0, cap0, rfl⟩ := okWide_slice Try.underlying22 (hval 0 22 v0 rfl rfl)
  have k0 := h0
  have lt0 : ∀ x ∈ p0, x.block < W.heap.size := by obtain ⟨m, hm⟩ := k0; exact DataW.trod_lt m _ _ _ hm
  obtain ⟨xs, rfl, hm0, hx0, hr0, hc0⟩ := opened h0
  clear hA0 hval0 hsz0 hsz
  refine (QFnExactBackoffRun.laws_FnExactBackoffRun.walk Pure.FnExactBackoffRun a0 cap0 xs W hm0 hx0 hr0 hc0).mono fun e W' ⟨he, bel⟩ => ?_
  subst he
  exact ⟨_, rfl, _, _, _, [], _, [], hW', trodAll_mk1 (shut_bool Try.underlying4 _), (trodAll_cons_mk (Below.trod laidOut (by kernel_rfl) (of_decide_eq_true (by kernel_rfl)) k0 bel lt0) trodAll_mk0), rfl, bel.frame _, fun h => by cases h⟩
theorem over : Rows.fnExactBackoffRunRow.holds Try.pinned (OpenSpec.ofChange Rows.fnExactBackoffRunSpec) :=
  OpenClaim.holds_of_wide 3 Try.f3 rfl rfl rfl rfl rfl rfl rfl ⟨rfl, rfl, rfl, rfl, rfl⟩ rfl rfl rfl rfl rfl (by kernel_rfl) Try.func3 (by kernel_rfl)
    (of_decide_eq_true (by kernel_rfl)) (by unfold Func.isWrapper; first | (rw [if_pos (by decide +kernel)]; kernel_rfl) | (rw [if_neg (by decide +kernel)]; exact ⟨rfl, rfl⟩))
    (fun os started H enc _ => lifted os started H enc)
theorem proved : Rows.FnExactBackoffRunSaid := over
#print axioms proved
end Go.Proofs.Ytohdepanfnaddaa.fnExactBackoffRun
namespace Go.Proofs.Ytohdepanfnaddaa
/-- The row, under a short name, for the claim. -/
theorem fnExactBackoffRun_holds : Rows.FnExactBackoffRunSaid := fnExactBackoffRun.proved
end Go.Proofs.Ytohdepanfnaddaa
