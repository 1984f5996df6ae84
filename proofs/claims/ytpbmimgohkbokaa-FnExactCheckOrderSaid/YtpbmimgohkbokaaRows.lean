/-
  No cell of these rows narrows 'for every input' (looked for: loops, veiled, ifaces, maps, wideKeys, modest, calm, conditions, laid).
  DERIVED. THE GIVEN ROWS OF THIS SEAT. 11 by the template 'for every input the law returns true; each argument reads behind the call as it read before'; 0 by the template 'total and deterministic' (their statements: YtpbmimgohkbokaaTotals.lean).
  GIVEN WITH THE SEED: the statements are not yours to turn. If you find one false, say at which input.
  Laid BY PROGRAM, IN A SANDBOX (cutbox-rows.mjs): the forced cells as the released guide's own fill.sh prints them over the translation 970287c8ac623a4c… (all of the seat's roots in one cut). By AI agents, Wed Nov 11 2026. No macro, syntax, notation, axiom, sorry.
-/
import Derived.Test.YtpbmimgohkbokaaChecked
import GoSem.Claim
import GoSem.ClaimJoined
import GoSem.ClaimMapViews
import Derived.JoinedTies
import Derived.KernelRfl
namespace Go.Proofs.Ytpbmimgohkbokaa
/- THE CELL 'sum', in the pinned program and in every row, IS THE sha256 OF THE DUMP (.gsa) THAT YtpbmimgohkbokaaProg.lean LOADS. Nothing in Lean hashes anything: it is a label: what it is worth is what the hold of that sum in a sandbox is worth. -/
noncomputable def Try.pinned : Pinned := { name := "ytpbmimgohkbokaa", sum := "970287c8ac623a4c7f91790df213332ba14dbe30de6fd5420707cba07960f0cc", checked := Try.checked }
namespace Rows
def none {H : Type} : Left H := { results := [], args := [] }

/-- 'laws.FnExactPlaceBehind': WHATEVER THE INPUT: true; the input reads as it did. -/
def fnExactPlaceBehindSpec : ChangeSpec := { name := "fnExactPlaceBehind", fn := fun _ => fun
  | [d1, d2, d3] => { results := [.lit (.bool true)], args := [d1, d2, d3] }
  | _ => none }
def fnExactPlaceBehindRow : OpenClaim := { program := "ytpbmimgohkbokaa", sum := "970287c8ac623a4c7f91790df213332ba14dbe30de6fd5420707cba07960f0cc", func := "loop.example/g01142/laws.FnExactPlaceBehind", spec := "fnExactPlaceBehind", apart := false }
def FnExactPlaceBehindSaid : Prop := fnExactPlaceBehindRow.holds Try.pinned (OpenSpec.ofChange fnExactPlaceBehindSpec)

/-- ITS FALSE NEIGHBOUR: 'it returns false'. Refute it at one input. -/
def fnExactPlaceBehindWrong : ChangeSpec := { name := "fnExactPlaceBehind", fn := fun _ => fun
  | [d1, d2, d3] => { results := [.lit (.bool false)], args := [d1, d2, d3] }
  | _ => none }
def FnExactPlaceBehindWrongFalsely : Prop := fnExactPlaceBehindRow.holds Try.pinned (OpenSpec.ofChange fnExactPlaceBehindWrong)

/-- 'laws.FnExactMostInRow': WHATEVER THE INPUT: true; the input reads as it did. -/
def fnExactMostInRowSpec : ChangeSpec := { name := "fnExactMostInRow", fn := fun _ => fun
  | [d1, d2, d3] => { results := [.lit (.bool true)], args := [d1, d2, d3] }
  | _ => none }
def fnExactMostInRowRow : OpenClaim := { program := "ytpbmimgohkbokaa", sum := "970287c8ac623a4c7f91790df213332ba14dbe30de6fd5420707cba07960f0cc", func := "loop.example/g01142/laws.FnExactMostInRow", spec := "fnExactMostInRow", apart := false }
def FnExactMostInRowSaid : Prop := fnExactMostInRowRow.holds Try.pinned (OpenSpec.ofChange fnExactMostInRowSpec)

/-- ITS FALSE NEIGHBOUR: 'it returns false'. Refute it at one input. -/
def fnExactMostInRowWrong : ChangeSpec := { name := "fnExactMostInRow", fn := fun _ => fun
  | [d1, d2, d3] => { results := [.lit (.bool false)], args := [d1, d2, d3] }
  | _ => none }
def FnExactMostInRowWrongFalsely : Prop := fnExactMostInRowRow.holds Try.pinned (OpenSpec.ofChange fnExactMostInRowWrong)

/-- 'laws.FnExactLeastApart': WHATEVER THE INPUT: true; the input reads as it did. -/
def fnExactLeastApartSpec : ChangeSpec := { name := "fnExactLeastApart", fn := fun _ => fun
  | [d1, d2, d3] => { results := [.lit (.bool true)], args := [d1, d2, d3] }
  | _ => none }
def fnExactLeastApartRow : OpenClaim := { program := "ytpbmimgohkbokaa", sum := "970287c8ac623a4c7f91790df213332ba14dbe30de6fd5420707cba07960f0cc", func := "loop.example/g01142/laws.FnExactLeastApart", spec := "fnExactLeastApart", apart := false }
def FnExactLeastApartSaid : Prop := fnExactLeastApartRow.holds Try.pinned (OpenSpec.ofChange fnExactLeastApartSpec)

/-- ITS FALSE NEIGHBOUR: 'it returns false'. Refute it at one input. -/
def fnExactLeastApartWrong : ChangeSpec := { name := "fnExactLeastApart", fn := fun _ => fun
  | [d1, d2, d3] => { results := [.lit (.bool false)], args := [d1, d2, d3] }
  | _ => none }
def FnExactLeastApartWrongFalsely : Prop := fnExactLeastApartRow.holds Try.pinned (OpenSpec.ofChange fnExactLeastApartWrong)

/-- 'laws.FnExactLevelsText': WHATEVER THE INPUT: true; the input reads as it did. -/
def fnExactLevelsTextSpec : ChangeSpec := { name := "fnExactLevelsText", fn := fun _ => fun
  | [d] => { results := [.lit (.bool true)], args := [d] }
  | _ => none }
def fnExactLevelsTextRow : OpenClaim := { program := "ytpbmimgohkbokaa", sum := "970287c8ac623a4c7f91790df213332ba14dbe30de6fd5420707cba07960f0cc", func := "loop.example/g01142/laws.FnExactLevelsText", spec := "fnExactLevelsText", apart := false }
def FnExactLevelsTextSaid : Prop := fnExactLevelsTextRow.holds Try.pinned (OpenSpec.ofChange fnExactLevelsTextSpec)

/-- ITS FALSE NEIGHBOUR: 'it returns false'. Refute it at one input. -/
def fnExactLevelsTextWrong : ChangeSpec := { name := "fnExactLevelsText", fn := fun _ => fun
  | [d] => { results := [.lit (.bool false)], args := [d] }
  | _ => none }
def FnExactLevelsTextWrongFalsely : Prop := fnExactLevelsTextRow.holds Try.pinned (OpenSpec.ofChange fnExactLevelsTextWrong)

/-- 'laws.FnExactChangesOf': WHATEVER THE INPUT: true; the input reads as it did. -/
def fnExactChangesOfSpec : ChangeSpec := { name := "fnExactChangesOf", fn := fun _ => fun
  | [d] => { results := [.lit (.bool true)], args := [d] }
  | _ => none }
def fnExactChangesOfRow : OpenClaim := { program := "ytpbmimgohkbokaa", sum := "970287c8ac623a4c7f91790df213332ba14dbe30de6fd5420707cba07960f0cc", func := "loop.example/g01142/laws.FnExactChangesOf", spec := "fnExactChangesOf", apart := false }
def FnExactChangesOfSaid : Prop := fnExactChangesOfRow.holds Try.pinned (OpenSpec.ofChange fnExactChangesOfSpec)

/-- ITS FALSE NEIGHBOUR: 'it returns false'. Refute it at one input. -/
def fnExactChangesOfWrong : ChangeSpec := { name := "fnExactChangesOf", fn := fun _ => fun
  | [d] => { results := [.lit (.bool false)], args := [d] }
  | _ => none }
def FnExactChangesOfWrongFalsely : Prop := fnExactChangesOfRow.holds Try.pinned (OpenSpec.ofChange fnExactChangesOfWrong)

/-- 'laws.FnExactCheckOrder': WHATEVER THE INPUT: true; the input reads as it did. -/
def fnExactCheckOrderSpec : ChangeSpec := { name := "fnExactCheckOrder", fn := fun _ => fun
  | [d] => { results := [.lit (.bool true)], args := [d] }
  | _ => none }
def fnExactCheckOrderRow : OpenClaim := { program := "ytpbmimgohkbokaa", sum := "970287c8ac623a4c7f91790df213332ba14dbe30de6fd5420707cba07960f0cc", func := "loop.example/g01142/laws.FnExactCheckOrder", spec := "fnExactCheckOrder", apart := false }
def FnExactCheckOrderSaid : Prop := fnExactCheckOrderRow.holds Try.pinned (OpenSpec.ofChange fnExactCheckOrderSpec)

/-- ITS FALSE NEIGHBOUR: 'it returns false'. Refute it at one input. -/
def fnExactCheckOrderWrong : ChangeSpec := { name := "fnExactCheckOrder", fn := fun _ => fun
  | [d] => { results := [.lit (.bool false)], args := [d] }
  | _ => none }
def FnExactCheckOrderWrongFalsely : Prop := fnExactCheckOrderRow.holds Try.pinned (OpenSpec.ofChange fnExactCheckOrderWrong)

/-- 'laws.FnExactTurnLevels': WHATEVER THE INPUT: true; the input reads as it did. -/
def fnExactTurnLevelsSpec : ChangeSpec := { name := "fnExactTurnLevels", fn := fun _ => fun
  | [d] => { results := [.lit (.bool true)], args := [d] }
  | _ => none }
def fnExactTurnLevelsRow : OpenClaim := { program := "ytpbmimgohkbokaa", sum := "970287c8ac623a4c7f91790df213332ba14dbe30de6fd5420707cba07960f0cc", func := "loop.example/g01142/laws.FnExactTurnLevels", spec := "fnExactTurnLevels", apart := false }
def FnExactTurnLevelsSaid : Prop := fnExactTurnLevelsRow.holds Try.pinned (OpenSpec.ofChange fnExactTurnLevelsSpec)

/-- ITS FALSE NEIGHBOUR: 'it returns false'. Refute it at one input. -/
def fnExactTurnLevelsWrong : ChangeSpec := { name := "fnExactTurnLevels", fn := fun _ => fun
  | [d] => { results := [.lit (.bool false)], args := [d] }
  | _ => none }
def FnExactTurnLevelsWrongFalsely : Prop := fnExactTurnLevelsRow.holds Try.pinned (OpenSpec.ofChange fnExactTurnLevelsWrong)

/-- 'laws.FnExactReadLevelsText': WHATEVER THE INPUT: true; the input reads as it did. -/
def fnExactReadLevelsTextSpec : ChangeSpec := { name := "fnExactReadLevelsText", fn := fun _ => fun
  | [d] => { results := [.lit (.bool true)], args := [d] }
  | _ => none }
def fnExactReadLevelsTextRow : OpenClaim := { program := "ytpbmimgohkbokaa", sum := "970287c8ac623a4c7f91790df213332ba14dbe30de6fd5420707cba07960f0cc", func := "loop.example/g01142/laws.FnExactReadLevelsText", spec := "fnExactReadLevelsText", apart := false }
def FnExactReadLevelsTextSaid : Prop := fnExactReadLevelsTextRow.holds Try.pinned (OpenSpec.ofChange fnExactReadLevelsTextSpec)

/-- ITS FALSE NEIGHBOUR: 'it returns false'. Refute it at one input. -/
def fnExactReadLevelsTextWrong : ChangeSpec := { name := "fnExactReadLevelsText", fn := fun _ => fun
  | [d] => { results := [.lit (.bool false)], args := [d] }
  | _ => none }
def FnExactReadLevelsTextWrongFalsely : Prop := fnExactReadLevelsTextRow.holds Try.pinned (OpenSpec.ofChange fnExactReadLevelsTextWrong)

/-- 'laws.FnExactLongestFlat': WHATEVER THE INPUT: true; the input reads as it did. -/
def fnExactLongestFlatSpec : ChangeSpec := { name := "fnExactLongestFlat", fn := fun _ => fun
  | [d] => { results := [.lit (.bool true)], args := [d] }
  | _ => none }
def fnExactLongestFlatRow : OpenClaim := { program := "ytpbmimgohkbokaa", sum := "970287c8ac623a4c7f91790df213332ba14dbe30de6fd5420707cba07960f0cc", func := "loop.example/g01142/laws.FnExactLongestFlat", spec := "fnExactLongestFlat", apart := false }
def FnExactLongestFlatSaid : Prop := fnExactLongestFlatRow.holds Try.pinned (OpenSpec.ofChange fnExactLongestFlatSpec)

/-- ITS FALSE NEIGHBOUR: 'it returns false'. Refute it at one input. -/
def fnExactLongestFlatWrong : ChangeSpec := { name := "fnExactLongestFlat", fn := fun _ => fun
  | [d] => { results := [.lit (.bool false)], args := [d] }
  | _ => none }
def FnExactLongestFlatWrongFalsely : Prop := fnExactLongestFlatRow.holds Try.pinned (OpenSpec.ofChange fnExactLongestFlatWrong)

/-- 'laws.FnExactSumsOf': WHATEVER THE INPUT: true; the input reads as it did. -/
def fnExactSumsOfSpec : ChangeSpec := { name := "fnExactSumsOf", fn := fun _ => fun
  | [d] => { results := [.lit (.bool true)], args := [d] }
  | _ => none }
def fnExactSumsOfRow : OpenClaim := { program := "ytpbmimgohkbokaa", sum := "970287c8ac623a4c7f91790df213332ba14dbe30de6fd5420707cba07960f0cc", func := "loop.example/g01142/laws.FnExactSumsOf", spec := "fnExactSumsOf", apart := false }
def FnExactSumsOfSaid : Prop := fnExactSumsOfRow.holds Try.pinned (OpenSpec.ofChange fnExactSumsOfSpec)

/-- ITS FALSE NEIGHBOUR: 'it returns false'. Refute it at one input. -/
def fnExactSumsOfWrong : ChangeSpec := { name := "fnExactSumsOf", fn := fun _ => fun
  | [d] => { results := [.lit (.bool false)], args := [d] }
  | _ => none }
def FnExactSumsOfWrongFalsely : Prop := fnExactSumsOfRow.holds Try.pinned (OpenSpec.ofChange fnExactSumsOfWrong)

/-- 'laws.FnExactPollCycle': WHATEVER THE INPUT: true; the input reads as it did. -/
def fnExactPollCycleSpec : ChangeSpec := { name := "fnExactPollCycle", fn := fun _ => fun
  | [d1, d2] => { results := [.lit (.bool true)], args := [d1, d2] }
  | _ => none }
def fnExactPollCycleRow : OpenClaim := { program := "ytpbmimgohkbokaa", sum := "970287c8ac623a4c7f91790df213332ba14dbe30de6fd5420707cba07960f0cc", func := "loop.example/g01142/laws.FnExactPollCycle", spec := "fnExactPollCycle", apart := false }
def FnExactPollCycleSaid : Prop := fnExactPollCycleRow.holds Try.pinned (OpenSpec.ofChange fnExactPollCycleSpec)

/-- ITS FALSE NEIGHBOUR: 'it returns false'. Refute it at one input. -/
def fnExactPollCycleWrong : ChangeSpec := { name := "fnExactPollCycle", fn := fun _ => fun
  | [d1, d2] => { results := [.lit (.bool false)], args := [d1, d2] }
  | _ => none }
def FnExactPollCycleWrongFalsely : Prop := fnExactPollCycleRow.holds Try.pinned (OpenSpec.ofChange fnExactPollCycleWrong)

/- THE SECOND FORM. 'bulk': how many values and letters a reading holds, each counted each time it is reached (what is shared counts as often as it is met; a slice's spare places count too). A statement '..UptoSaid' is the law's where the arguments, and the package variables that the reading takes, are together of bulk at most 1048576: NARROWER than '..Said'. Prove '..Said' where nothing that the law and all that it calls make is longer than what came in: it says more and counts as full. Else prove '..UptoSaid'. A law counts once. -/
mutual
def uptoBulk {H : Type} : DataW H → Nat
  | .lit (.string bytes) => bytes.length + 1
  | .lit _ => 1
  | .nil => 1
  | .ptr d => uptoBulk d + 1
  | .slice elems spare => uptoBulkAll elems + uptoBulkAll spare + 1
  | .agg parts => uptoBulkAll parts + 1
  | .iface _ d => uptoBulk d + 1
  | .map entries => uptoBulkEntries entries + 1
  | .held _ => 1
def uptoBulkAll {H : Type} : List (DataW H) → Nat
  | [] => 0
  | d :: r => uptoBulk d + uptoBulkAll r
def uptoBulkEntries {H : Type} : List (Lit × DataW H) → Nat
  | [] => 0
  | x :: r => uptoBulkEntry x + uptoBulkEntries r
def uptoBulkEntry {H : Type} : Lit × DataW H → Nat
  | (.string bytes, d) => bytes.length + uptoBulk d + 1
  | (_, d) => uptoBulk d + 1
 end
def uptoSmall : (H : Type) → List (DataW H) → Bool := fun _ ds => decide (uptoBulkAll ds ≤ 1048576)
def OpenSpec.upto (s : _root_.Go.ChangeSpec) : _root_.Go.OpenSpec := { _root_.Go.OpenSpec.ofChange s with cond := some uptoSmall }

/-- 'laws.FnExactPlaceBehind', WHERE WHAT IT READS IS OF BULK AT MOST 1048576: true; the input reads as it did. -/
def fnExactPlaceBehindUptoRow : OpenClaim := { program := "ytpbmimgohkbokaa", sum := "970287c8ac623a4c7f91790df213332ba14dbe30de6fd5420707cba07960f0cc", func := "loop.example/g01142/laws.FnExactPlaceBehind", spec := "fnExactPlaceBehind", apart := false, narrowed := true }
def FnExactPlaceBehindUptoSaid : Prop := fnExactPlaceBehindUptoRow.holds Try.pinned (OpenSpec.upto fnExactPlaceBehindSpec)

/-- 'laws.FnExactMostInRow', WHERE WHAT IT READS IS OF BULK AT MOST 1048576: true; the input reads as it did. -/
def fnExactMostInRowUptoRow : OpenClaim := { program := "ytpbmimgohkbokaa", sum := "970287c8ac623a4c7f91790df213332ba14dbe30de6fd5420707cba07960f0cc", func := "loop.example/g01142/laws.FnExactMostInRow", spec := "fnExactMostInRow", apart := false, narrowed := true }
def FnExactMostInRowUptoSaid : Prop := fnExactMostInRowUptoRow.holds Try.pinned (OpenSpec.upto fnExactMostInRowSpec)

/-- 'laws.FnExactLeastApart', WHERE WHAT IT READS IS OF BULK AT MOST 1048576: true; the input reads as it did. -/
def fnExactLeastApartUptoRow : OpenClaim := { program := "ytpbmimgohkbokaa", sum := "970287c8ac623a4c7f91790df213332ba14dbe30de6fd5420707cba07960f0cc", func := "loop.example/g01142/laws.FnExactLeastApart", spec := "fnExactLeastApart", apart := false, narrowed := true }
def FnExactLeastApartUptoSaid : Prop := fnExactLeastApartUptoRow.holds Try.pinned (OpenSpec.upto fnExactLeastApartSpec)

/-- 'laws.FnExactLevelsText', WHERE WHAT IT READS IS OF BULK AT MOST 1048576: true; the input reads as it did. -/
def fnExactLevelsTextUptoRow : OpenClaim := { program := "ytpbmimgohkbokaa", sum := "970287c8ac623a4c7f91790df213332ba14dbe30de6fd5420707cba07960f0cc", func := "loop.example/g01142/laws.FnExactLevelsText", spec := "fnExactLevelsText", apart := false, narrowed := true }
def FnExactLevelsTextUptoSaid : Prop := fnExactLevelsTextUptoRow.holds Try.pinned (OpenSpec.upto fnExactLevelsTextSpec)

/-- 'laws.FnExactChangesOf', WHERE WHAT IT READS IS OF BULK AT MOST 1048576: true; the input reads as it did. -/
def fnExactChangesOfUptoRow : OpenClaim := { program := "ytpbmimgohkbokaa", sum := "970287c8ac623a4c7f91790df213332ba14dbe30de6fd5420707cba07960f0cc", func := "loop.example/g01142/laws.FnExactChangesOf", spec := "fnExactChangesOf", apart := false, narrowed := true }
def FnExactChangesOfUptoSaid : Prop := fnExactChangesOfUptoRow.holds Try.pinned (OpenSpec.upto fnExactChangesOfSpec)

/-- 'laws.FnExactCheckOrder', WHERE WHAT IT READS IS OF BULK AT MOST 1048576: true; the input reads as it did. -/
def fnExactCheckOrderUptoRow : OpenClaim := { program := "ytpbmimgohkbokaa", sum := "970287c8ac623a4c7f91790df213332ba14dbe30de6fd5420707cba07960f0cc", func := "loop.example/g01142/laws.FnExactCheckOrder", spec := "fnExactCheckOrder", apart := false, narrowed := true }
def FnExactCheckOrderUptoSaid : Prop := fnExactCheckOrderUptoRow.holds Try.pinned (OpenSpec.upto fnExactCheckOrderSpec)

/-- 'laws.FnExactTurnLevels', WHERE WHAT IT READS IS OF BULK AT MOST 1048576: true; the input reads as it did. -/
def fnExactTurnLevelsUptoRow : OpenClaim := { program := "ytpbmimgohkbokaa", sum := "970287c8ac623a4c7f91790df213332ba14dbe30de6fd5420707cba07960f0cc", func := "loop.example/g01142/laws.FnExactTurnLevels", spec := "fnExactTurnLevels", apart := false, narrowed := true }
def FnExactTurnLevelsUptoSaid : Prop := fnExactTurnLevelsUptoRow.holds Try.pinned (OpenSpec.upto fnExactTurnLevelsSpec)

/-- 'laws.FnExactReadLevelsText', WHERE WHAT IT READS IS OF BULK AT MOST 1048576: true; the input reads as it did. -/
def fnExactReadLevelsTextUptoRow : OpenClaim := { program := "ytpbmimgohkbokaa", sum := "970287c8ac623a4c7f91790df213332ba14dbe30de6fd5420707cba07960f0cc", func := "loop.example/g01142/laws.FnExactReadLevelsText", spec := "fnExactReadLevelsText", apart := false, narrowed := true }
def FnExactReadLevelsTextUptoSaid : Prop := fnExactReadLevelsTextUptoRow.holds Try.pinned (OpenSpec.upto fnExactReadLevelsTextSpec)

/-- 'laws.FnExactLongestFlat', WHERE WHAT IT READS IS OF BULK AT MOST 1048576: true; the input reads as it did. -/
def fnExactLongestFlatUptoRow : OpenClaim := { program := "ytpbmimgohkbokaa", sum := "970287c8ac623a4c7f91790df213332ba14dbe30de6fd5420707cba07960f0cc", func := "loop.example/g01142/laws.FnExactLongestFlat", spec := "fnExactLongestFlat", apart := false, narrowed := true }
def FnExactLongestFlatUptoSaid : Prop := fnExactLongestFlatUptoRow.holds Try.pinned (OpenSpec.upto fnExactLongestFlatSpec)

/-- 'laws.FnExactSumsOf', WHERE WHAT IT READS IS OF BULK AT MOST 1048576: true; the input reads as it did. -/
def fnExactSumsOfUptoRow : OpenClaim := { program := "ytpbmimgohkbokaa", sum := "970287c8ac623a4c7f91790df213332ba14dbe30de6fd5420707cba07960f0cc", func := "loop.example/g01142/laws.FnExactSumsOf", spec := "fnExactSumsOf", apart := false, narrowed := true }
def FnExactSumsOfUptoSaid : Prop := fnExactSumsOfUptoRow.holds Try.pinned (OpenSpec.upto fnExactSumsOfSpec)

/-- 'laws.FnExactPollCycle', WHERE WHAT IT READS IS OF BULK AT MOST 1048576: true; the input reads as it did. -/
def fnExactPollCycleUptoRow : OpenClaim := { program := "ytpbmimgohkbokaa", sum := "970287c8ac623a4c7f91790df213332ba14dbe30de6fd5420707cba07960f0cc", func := "loop.example/g01142/laws.FnExactPollCycle", spec := "fnExactPollCycle", apart := false, narrowed := true }
def FnExactPollCycleUptoSaid : Prop := fnExactPollCycleUptoRow.holds Try.pinned (OpenSpec.upto fnExactPollCycleSpec)

end Rows
end Go.Proofs.Ytpbmimgohkbokaa
