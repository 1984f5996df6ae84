/- All data, with every check and any one error at every place, come back; what a console outputs of it is what the functions of the package tell, one after another. -/
import Derived.LaidMore
import Derived.LaidLaws
import Derived.FnData
import Derived.Lay
import Derived.SevenTiedAt
import Derived.Stop.Joined
import Derived.Test.YtbjmbfjbjkhhdaaGreatDoorTie
import Derived.Test.YtbjmbfjbjkhhdaaGreatDoorCards
import Derived.Test.YtbjmbfjbjkhhdaaGreatDoorRows
import Derived.Test.YtbjmbfjbjkhhdaaGreatDoorZFnTopOfAll42
import Derived.Test.YtbjmbfjbjkhhdaaGreatDoorZFnTopOfAll47
import Derived.WalkKit
import Derived.ProofKit
import Derived.OpenShut
import Derived.ShutString
import Derived.ChangeOld
import Derived.Below
import Derived.SizedLaws
import Derived.Test.YtbjmbfjbjkhhdaaGreatDoorZFnTopOfAll43
namespace Go.Proofs.YtbjmbfjbjkhhdaaGreatDoor.fnTopOfAll
open Go.ChangeShapes Go.WideShapes Go.ChangeAt Go.RowKit
open Go.ChangeMaps (open_string shut_string)
set_option linter.unusedVariables false
theorem own : ownKnob Tryz.prog.godebug = none := by kernel_rfl
theorem laidOut : laidOutB Tryz.prog = true := by kernel_rfl
def IsRow (k : IntKind) (w : World) (a : Option Addr) (len cap : Nat) (zs : List Int) : Prop :=
 (a = none ∧ len = 0 ∧ cap = 0 ∧ zs = []) ∨
 ∃ x, a = some x ∧ len ≤ cap ∧ cap ≤ maxLen ∧ zs.length = cap ∧ (∀ i, i < zs.length → w.cell? (x.add i) = some (.int k (zs.getD i 0))) ∧ ∀ n ∈ zs, (Lit.int k n).wf = true
theorem laidMet_tail {P : Program} {n : String} {d : DataW Unit} {rest : List (String × DataW Unit)} {w : World} (h : laidMet P ((n, d) :: rest) w) : laidMet P rest w := by
 obtain ⟨ps, ⟨g, t, cs, fuel, p, q, _, _, _, _, hq, rfl⟩, hn, hm⟩ := h
 exact ⟨q, hq, (List.nodup_append.1 hn).2.1, fun b off hb => hm b off (List.mem_append_right _ hb)⟩
theorem errAt {P : Program} {W : World} {name nm : String} {d : DataW Unit} {rest : List (String × DataW Unit)} {g : Nat} {t : TypeId} {ms : Array (String × TypeId)} (hg : P.globalNamed name = some g) (hty : (P.globals[g]?).map (·.type) = some t) (ht : P.underlying t = some (.interface ms)) (h : laidMet P ((name, .iface nm d) :: rest) W) :
 ∃ ev, W.cell? ⟨g, 0, none⟩ = some ev ∧ (ev = .nilIface ∨ ∃ te pe, ev = .iface te pe) := by
 obtain ⟨ps, ⟨g', t', cs, fuel, p, q, hg', ht', hvar, hd, _, _⟩, _⟩ := h
 obtain rfl := Option.some.inj (hg.symm.trans hg')
 obtain rfl := Option.some.inj (hty.symm.trans ht')
 obtain ⟨f', u, v, hl, _, _⟩ := iface_of_trod ht hd
 refine ⟨.iface u v, (World.var?_cell hg hvar 0).trans ?_, .inr ⟨u, v, rfl⟩⟩
 rw [← Array.getElem?_toList, hl]
 rfl
set_option maxRecDepth 100000 in
theorem lifted (os : Os) (started : os.Started) (H : Type) (enc : TypeId × Value → H) :
 ReturnsInHanded {} Tryz.checked os 3 .any (fun w args => (Rows.fnTopOfAllSpec.pre enc Tryz.prog Tryz.f3 Rows.fnTopOfAllRow.domain false w args ∧ laidMetH Tryz.prog Rows.fnTopOfAllRow.laid w) ∧ sizedMet enc Tryz.prog Tryz.f3 (OpenSpec.ofChange Rows.fnTopOfAllSpec) false w args) (Rows.fnTopOfAllSpec.post enc Tryz.prog Tryz.f3 false true false false) := by
 refine returnsInHanded_of_change_and (C := Tryz.checked) (X := fun w _ => laidMetH Tryz.prog Rows.fnTopOfAllRow.laid w) (fun _ _ _ hh h => h.of_heap hh) own started Qi0_ Tryz.func3
  (ChangeSpec.witness_shaped (enc := enc) (C := Tryz.checked) (os := os) (X := fun w _ => laidMetH Tryz.prog Rows.fnTopOfAllRow.laid w) false (World.laidAll Tryz.prog os Rows.fnTopOfAllRow.laid) #[.slice none 0 0, .int .i64 0, .int .i64 0] 8 (World.laidAll_os _ _ _)
   (World.shaped_of_ZipB Qi0_ Qi0_) Qi0_ Qi0_ Qi0_
   (by rw [MakeChecks.laidMetH_plain _ _ _ Qi0_]; exact laidMet_laidAll _ Qi0_ Qi0_)) ?_
 intro W base args ds gs before hval0 hW hcnd hsz0 hL _
 have hsz : (DataW.weightsEach Tryz.prog (Tryz.f3.params.toList ++ Rows.fnTopOfAllSpec.plain.varTypes Tryz.prog) (ds ++ gs)).all (· ≤ reachBytes) = true := hsz0
 have hval : ∀ (j : Nat) t v, Tryz.f3.params[j]? = some t → args[j]? = some v → Value.okWide Tryz.prog W .any base t v := hval0
 have hW' := hW
 obtain ⟨p, q, hA0, hV, rfl, hfz, hnd⟩ := hW
 have hA : DataW.TrodAll enc Tryz.prog W 0 (fun _ => true) true Tryz.f3.params.toList args.toList ds p := hA0
 rw [Tryz.params3] at hA hval hsz
 obtain ⟨v0, vs0, d0, ds0, p0, q0, hargs, rfl, rfl, h0, r0⟩ := trodAll_cons hA
 obtain ⟨v1, vs1, d1, ds1, p1, q1, rfl, rfl, rfl, h1, r1⟩ := trodAll_cons r0
 obtain ⟨v2, vs2, d2, ds2, p2, q2, rfl, rfl, rfl, h2, r2⟩ := trodAll_cons r1
 obtain ⟨rfl, rfl, rfl⟩ := trodAll_nil r2
 obtain rfl : args = #[v0, v1, v2] := by cases args; simp_all
 obtain ⟨rfl, rfl⟩ := trodVars_none hV
 obtain ⟨a0, len0, cap0, rfl⟩ := okWide_slice Tryz.underlying22 (hval 0 22 v0 rfl rfl)
 have k0 := h0
 have lt0 : ∀ x ∈ p0, x.block < W.heap.size := by obtain ⟨m, hm⟩ := k0; exact DataW.trod_lt m _ _ _ hm
 obtain ⟨z0, w0⟩ : ∃ zs, IsRow .i64 W a0 len0 cap0 zs := by
  obtain ⟨fuel, hf⟩ := h0
  rcases open_ints Tryz.underlying22 Tryz.underlying2 Qi0_ hf with ⟨hcs, _⟩ | ⟨x, l, c, zs, hcs, _, hl, hm, hz, _, hcell, hwz⟩
  ·simp [Value.cells] at hcs
   obtain ⟨rfl, rfl, rfl⟩ := hcs
   exact ⟨[], .inl ⟨rfl, rfl, rfl, rfl⟩⟩
  ·simp [Value.cells] at hcs
   obtain ⟨rfl, rfl, rfl⟩ := hcs
   exact ⟨zs, .inr ⟨_, rfl, hl, hm, by simpa using hz, hcell, hwz⟩⟩
 have y0 : len0 * 8 ≤ 140737488351232 := PrintWords.sized_ints hsz (j := 0) (t := 22) rfl rfl Tryz.underlying22 Tryz.underlying2 Qi0_ Qi0_ h0
 obtain ⟨a1, rfl, rfl, rfl, w1⟩ := open_int Tryz.underlying2 (hval 1 2 v1 rfl rfl) h1
 obtain ⟨a2, rfl, rfl, rfl, w2⟩ := open_int Tryz.underlying2 (hval 2 2 v2 rfl rfl) h2
 clear hA0 hval0 hsz0 hsz
 have hT_ : QFnTopOfAll.LibW W := by
  have h := hL
  rw [MakeChecks.laidMetH_plain _ _ _ Qi0_] at h
  exact ⟨Lib.tabIs_of_head (g := 0) (t := 151) (e := 37) (n := 20) Qi0_ Qi0_ Qi0_ Qi0_ Qi0_ Qi0_ (laidMet_tail (laidMet_tail h)), errAt (g := 6) (t := 72) Qi0_ Qi0_ Tryz.underlying72 (laidMet_tail (laidMet_tail (laidMet_tail (laidMet_tail (laidMet_tail h))))), errAt (g := 7) (t := 72) Qi0_ Qi0_ Tryz.underlying72 (laidMet_tail (laidMet_tail (laidMet_tail (laidMet_tail h))))⟩
 refine (QFnTopOfAll.laws_FnTopOfAll.walk Pure.FnTopOfAll a0 len0 cap0 z0 a1 a2 W hT_ w0 y0 w1 w2).mono fun e W' ⟨he, bel⟩ => ?_
 subst he
 exact ⟨_, rfl, _, _, _, [], _, [], hW', trodAll_mk1 (shut_bool Tryz.underlying4 _), (trodAll_cons_mk (Below.trod laidOut Qi0_ (of_decide_eq_true Qi0_) k0 bel lt0) (trodAll_cons_mk (shut_int Tryz.underlying2 w1) (trodAll_cons_mk (shut_int Tryz.underlying2 w2) trodAll_mk0))), rfl, bel.frame _, fun h => by cases h⟩
theorem over : Rows.fnTopOfAllRow.holds Tryz.pinned (OpenSpec.ofChange Rows.fnTopOfAllSpec) :=
 OpenClaim.holds_of_wide 3 Tryz.f3 rfl rfl rfl rfl rfl rfl rfl ⟨rfl, rfl, rfl, rfl, rfl⟩ rfl rfl rfl rfl rfl Qi0_ Tryz.func3 Qi0_
  (of_decide_eq_true Qi0_) (by unfold Func.isWrapper; first | (rw [if_pos Qr0_]; kernel_rfl) | (rw [if_neg Qr0_]; exact ⟨rfl, rfl⟩))
  (fun os started H enc _ => lifted os started H enc)
theorem proved : Rows.FnTopOfAllSaid := over
theorem card : Rows.FnTopOfAllCardSaid :=
 Claim7.holds_tied_plain_at .later [] [.data, .data, .data, .data, .sentinel, .sentinel, .pinned] true (true, "c183132fb46adec92e845325a56fc0c64408af8f65bd202fde4754b6996cc099") true over (fun _ h => by cases h) Qi0_ (fun _ h => by cases h) fnTopOfAll_row_tie rfl ⟨rfl, rfl⟩ Qi0_ rfl
  (fun f fn hf hfn => by
   obtain rfl : f = 3 := Option.some.inj ((show Tryz.prog.funcNamed "loop.example/g01142/laws.FnTopOfAll" = some 3 from Qi0_).symm.trans hf) |>.symm
   obtain rfl : fn = Tryz.f3 := (Option.some.inj (Tryz.func3.symm.trans hfn)).symm
   exact ⟨Qi0_, fun j t ht => by
    rw [Tryz.params3] at ht
    have hm : t ∈ [2, 22] := by
     have h := Array.mem_of_getElem? ht
     first | (simpa using h; done) | (simp at h ⊢; rcases h with h | h <;> simp [h]; done) | (simp at h ⊢; rcases h with h | h | h <;> simp [h]; done) | (simp at h ⊢; rcases h with h | h | h | h <;> simp [h]; done)
    have hall : ([2, 22].all fun u => !Tryz.prog.wantsStandIn u) = true := by kernel_rfl
    exact (show Tryz.prog.wantsStandIn t = false by simpa using List.all_eq_true.1 hall t hm)⟩)
  Qi0_
#print axioms card
end Go.Proofs.YtbjmbfjbjkhhdaaGreatDoor.fnTopOfAll
namespace Go.Proofs.YtbjmbfjbjkhhdaaGreatDoor
theorem fnTopOfAll_holds : Rows.FnTopOfAllCardSaid := fnTopOfAll.card
end Go.Proofs.YtbjmbfjbjkhhdaaGreatDoor
