/-
  No cell of these rows narrows 'for every input' (looked for: loops, veiled, ifaces, maps, wideKeys, modest, calm, conditions, laid).
  DERIVED. THE GIVEN ROWS OF THIS SEAT. 11 by the template 'for every input the law returns true; each argument reads behind the call as it read before'; 0 by the template 'total and deterministic' (their statements: YtbgiddnffchnpaaTotals.lean).
  GIVEN WITH THE SEED: the statements are not yours to turn. If you find one false, say at which input.
  Laid BY PROGRAM, IN A SANDBOX (cutbox-rows.mjs): the forced cells as the released guide's own fill.sh prints them over the translation 1155b1b491f5d4cb… (all of the seat's roots in one cut). By AI agents, Wed Nov 11 2026. No macro, syntax, notation, axiom, sorry.
-/
import Derived.Test.YtbgiddnffchnpaaChecked
import GoSem.Claim
import GoSem.ClaimJoined
import GoSem.ClaimMapViews
import Derived.JoinedTies
import Derived.KernelRfl
namespace Go.Proofs.Ytbgiddnffchnpaa
/- THE CELL 'sum', in the pinned program and in every row, IS THE sha256 OF THE DUMP (.gsa) THAT YtbgiddnffchnpaaProg.lean LOADS. Nothing in Lean hashes anything: it is a label: what it is worth is what the hold of that sum in a sandbox is worth. -/
noncomputable def Try.pinned : Pinned := { name := "ytbgiddnffchnpaa", sum := "1155b1b491f5d4cb447828d7b4ee7179e0f46038293132a64ab303b9eebb85c6", checked := Try.checked }
namespace Rows
def none {H : Type} : Left H := { results := [], args := [] }

/-- 'laws.FnExactCountMissed': WHATEVER THE INPUT: true; the input reads as it did. -/
def fnExactCountMissedSpec : ChangeSpec := { name := "fnExactCountMissed", fn := fun _ => fun
  | [d1, d2, d3] => { results := [.lit (.bool true)], args := [d1, d2, d3] }
  | _ => none }
def fnExactCountMissedRow : OpenClaim := { program := "ytbgiddnffchnpaa", sum := "1155b1b491f5d4cb447828d7b4ee7179e0f46038293132a64ab303b9eebb85c6", func := "loop.example/g01142/laws.FnExactCountMissed", spec := "fnExactCountMissed", recurses := true, apart := false }
def FnExactCountMissedSaid : Prop := fnExactCountMissedRow.holds Try.pinned (OpenSpec.ofChange fnExactCountMissedSpec)

/-- ITS FALSE NEIGHBOUR: 'it returns false'. Refute it at one input. -/
def fnExactCountMissedWrong : ChangeSpec := { name := "fnExactCountMissed", fn := fun _ => fun
  | [d1, d2, d3] => { results := [.lit (.bool false)], args := [d1, d2, d3] }
  | _ => none }
def FnExactCountMissedWrongFalsely : Prop := fnExactCountMissedRow.holds Try.pinned (OpenSpec.ofChange fnExactCountMissedWrong)

/-- 'laws.FnExactWorstFlat': WHATEVER THE INPUT: true; the input reads as it did. -/
def fnExactWorstFlatSpec : ChangeSpec := { name := "fnExactWorstFlat", fn := fun _ => fun
  | [d1, d2] => { results := [.lit (.bool true)], args := [d1, d2] }
  | _ => none }
def fnExactWorstFlatRow : OpenClaim := { program := "ytbgiddnffchnpaa", sum := "1155b1b491f5d4cb447828d7b4ee7179e0f46038293132a64ab303b9eebb85c6", func := "loop.example/g01142/laws.FnExactWorstFlat", spec := "fnExactWorstFlat", apart := false }
def FnExactWorstFlatSaid : Prop := fnExactWorstFlatRow.holds Try.pinned (OpenSpec.ofChange fnExactWorstFlatSpec)

/-- ITS FALSE NEIGHBOUR: 'it returns false'. Refute it at one input. -/
def fnExactWorstFlatWrong : ChangeSpec := { name := "fnExactWorstFlat", fn := fun _ => fun
  | [d1, d2] => { results := [.lit (.bool false)], args := [d1, d2] }
  | _ => none }
def FnExactWorstFlatWrongFalsely : Prop := fnExactWorstFlatRow.holds Try.pinned (OpenSpec.ofChange fnExactWorstFlatWrong)

/-- 'laws.FnExactLeastMissed': WHATEVER THE INPUT: true; the input reads as it did. -/
def fnExactLeastMissedSpec : ChangeSpec := { name := "fnExactLeastMissed", fn := fun _ => fun
  | [d1, d2] => { results := [.lit (.bool true)], args := [d1, d2] }
  | _ => none }
def fnExactLeastMissedRow : OpenClaim := { program := "ytbgiddnffchnpaa", sum := "1155b1b491f5d4cb447828d7b4ee7179e0f46038293132a64ab303b9eebb85c6", func := "loop.example/g01142/laws.FnExactLeastMissed", spec := "fnExactLeastMissed", recurses := true, apart := false }
def FnExactLeastMissedSaid : Prop := fnExactLeastMissedRow.holds Try.pinned (OpenSpec.ofChange fnExactLeastMissedSpec)

/-- ITS FALSE NEIGHBOUR: 'it returns false'. Refute it at one input. -/
def fnExactLeastMissedWrong : ChangeSpec := { name := "fnExactLeastMissed", fn := fun _ => fun
  | [d1, d2] => { results := [.lit (.bool false)], args := [d1, d2] }
  | _ => none }
def FnExactLeastMissedWrongFalsely : Prop := fnExactLeastMissedRow.holds Try.pinned (OpenSpec.ofChange fnExactLeastMissedWrong)

/-- 'laws.FnExactTokenRounds': WHATEVER THE INPUT: true; the input reads as it did. -/
def fnExactTokenRoundsSpec : ChangeSpec := { name := "fnExactTokenRounds", fn := fun _ => fun
  | [d1, d2, d3] => { results := [.lit (.bool true)], args := [d1, d2, d3] }
  | _ => none }
def fnExactTokenRoundsRow : OpenClaim := { program := "ytbgiddnffchnpaa", sum := "1155b1b491f5d4cb447828d7b4ee7179e0f46038293132a64ab303b9eebb85c6", func := "loop.example/g01142/laws.FnExactTokenRounds", spec := "fnExactTokenRounds", apart := false }
def FnExactTokenRoundsSaid : Prop := fnExactTokenRoundsRow.holds Try.pinned (OpenSpec.ofChange fnExactTokenRoundsSpec)

/-- ITS FALSE NEIGHBOUR: 'it returns false'. Refute it at one input. -/
def fnExactTokenRoundsWrong : ChangeSpec := { name := "fnExactTokenRounds", fn := fun _ => fun
  | [d1, d2, d3] => { results := [.lit (.bool false)], args := [d1, d2, d3] }
  | _ => none }
def FnExactTokenRoundsWrongFalsely : Prop := fnExactTokenRoundsRow.holds Try.pinned (OpenSpec.ofChange fnExactTokenRoundsWrong)

/-- 'laws.FnExactReadLevels': WHATEVER THE INPUT: true; the input reads as it did. -/
def fnExactReadLevelsSpec : ChangeSpec := { name := "fnExactReadLevels", fn := fun _ => fun
  | [d1, d2] => { results := [.lit (.bool true)], args := [d1, d2] }
  | _ => none }
def fnExactReadLevelsRow : OpenClaim := { program := "ytbgiddnffchnpaa", sum := "1155b1b491f5d4cb447828d7b4ee7179e0f46038293132a64ab303b9eebb85c6", func := "loop.example/g01142/laws.FnExactReadLevels", spec := "fnExactReadLevels", apart := false }
def FnExactReadLevelsSaid : Prop := fnExactReadLevelsRow.holds Try.pinned (OpenSpec.ofChange fnExactReadLevelsSpec)

/-- ITS FALSE NEIGHBOUR: 'it returns false'. Refute it at one input. -/
def fnExactReadLevelsWrong : ChangeSpec := { name := "fnExactReadLevels", fn := fun _ => fun
  | [d1, d2] => { results := [.lit (.bool false)], args := [d1, d2] }
  | _ => none }
def FnExactReadLevelsWrongFalsely : Prop := fnExactReadLevelsRow.holds Try.pinned (OpenSpec.ofChange fnExactReadLevelsWrong)

/-- 'laws.FnBackoff': WHATEVER THE INPUT: true; the input reads as it did. -/
def fnBackoffSpec : ChangeSpec := { name := "fnBackoff", fn := fun _ => fun
  | [d1, d2] => { results := [.lit (.bool true)], args := [d1, d2] }
  | _ => none }
def fnBackoffRow : OpenClaim := { program := "ytbgiddnffchnpaa", sum := "1155b1b491f5d4cb447828d7b4ee7179e0f46038293132a64ab303b9eebb85c6", func := "loop.example/g01142/laws.FnBackoff", spec := "fnBackoff", apart := false }
def FnBackoffSaid : Prop := fnBackoffRow.holds Try.pinned (OpenSpec.ofChange fnBackoffSpec)

/-- ITS FALSE NEIGHBOUR: 'it returns false'. Refute it at one input. -/
def fnBackoffWrong : ChangeSpec := { name := "fnBackoff", fn := fun _ => fun
  | [d1, d2] => { results := [.lit (.bool false)], args := [d1, d2] }
  | _ => none }
def FnBackoffWrongFalsely : Prop := fnBackoffRow.holds Try.pinned (OpenSpec.ofChange fnBackoffWrong)

/-- 'laws.FnTurns': WHATEVER THE INPUT: true; the input reads as it did. -/
def fnTurnsSpec : ChangeSpec := { name := "fnTurns", fn := fun _ => fun
  | [d1, d2] => { results := [.lit (.bool true)], args := [d1, d2] }
  | _ => none }
def fnTurnsRow : OpenClaim := { program := "ytbgiddnffchnpaa", sum := "1155b1b491f5d4cb447828d7b4ee7179e0f46038293132a64ab303b9eebb85c6", func := "loop.example/g01142/laws.FnTurns", spec := "fnTurns", apart := false }
def FnTurnsSaid : Prop := fnTurnsRow.holds Try.pinned (OpenSpec.ofChange fnTurnsSpec)

/-- ITS FALSE NEIGHBOUR: 'it returns false'. Refute it at one input. -/
def fnTurnsWrong : ChangeSpec := { name := "fnTurns", fn := fun _ => fun
  | [d1, d2] => { results := [.lit (.bool false)], args := [d1, d2] }
  | _ => none }
def FnTurnsWrongFalsely : Prop := fnTurnsRow.holds Try.pinned (OpenSpec.ofChange fnTurnsWrong)

/-- 'laws.FnExactReserveSlots': WHATEVER THE INPUT: true; the input reads as it did. -/
def fnExactReserveSlotsSpec : ChangeSpec := { name := "fnExactReserveSlots", fn := fun _ => fun
  | [d1, d2] => { results := [.lit (.bool true)], args := [d1, d2] }
  | _ => none }
def fnExactReserveSlotsRow : OpenClaim := { program := "ytbgiddnffchnpaa", sum := "1155b1b491f5d4cb447828d7b4ee7179e0f46038293132a64ab303b9eebb85c6", func := "loop.example/g01142/laws.FnExactReserveSlots", spec := "fnExactReserveSlots", apart := false }
def FnExactReserveSlotsSaid : Prop := fnExactReserveSlotsRow.holds Try.pinned (OpenSpec.ofChange fnExactReserveSlotsSpec)

/-- ITS FALSE NEIGHBOUR: 'it returns false'. Refute it at one input. -/
def fnExactReserveSlotsWrong : ChangeSpec := { name := "fnExactReserveSlots", fn := fun _ => fun
  | [d1, d2] => { results := [.lit (.bool false)], args := [d1, d2] }
  | _ => none }
def FnExactReserveSlotsWrongFalsely : Prop := fnExactReserveSlotsRow.holds Try.pinned (OpenSpec.ofChange fnExactReserveSlotsWrong)

/-- 'laws.FnExactFirstWrong': WHATEVER THE INPUT: true; the input reads as it did. -/
def fnExactFirstWrongSpec : ChangeSpec := { name := "fnExactFirstWrong", fn := fun _ => fun
  | [d1, d2] => { results := [.lit (.bool true)], args := [d1, d2] }
  | _ => none }
def fnExactFirstWrongRow : OpenClaim := { program := "ytbgiddnffchnpaa", sum := "1155b1b491f5d4cb447828d7b4ee7179e0f46038293132a64ab303b9eebb85c6", func := "loop.example/g01142/laws.FnExactFirstWrong", spec := "fnExactFirstWrong", apart := false }
def FnExactFirstWrongSaid : Prop := fnExactFirstWrongRow.holds Try.pinned (OpenSpec.ofChange fnExactFirstWrongSpec)

/-- ITS FALSE NEIGHBOUR: 'it returns false'. Refute it at one input. -/
def fnExactFirstWrongWrong : ChangeSpec := { name := "fnExactFirstWrong", fn := fun _ => fun
  | [d1, d2] => { results := [.lit (.bool false)], args := [d1, d2] }
  | _ => none }
def FnExactFirstWrongWrongFalsely : Prop := fnExactFirstWrongRow.holds Try.pinned (OpenSpec.ofChange fnExactFirstWrongWrong)

/-- 'laws.FnExactBackoffRun': WHATEVER THE INPUT: true; the input reads as it did. -/
def fnExactBackoffRunSpec : ChangeSpec := { name := "fnExactBackoffRun", fn := fun _ => fun
  | [d] => { results := [.lit (.bool true)], args := [d] }
  | _ => none }
def fnExactBackoffRunRow : OpenClaim := { program := "ytbgiddnffchnpaa", sum := "1155b1b491f5d4cb447828d7b4ee7179e0f46038293132a64ab303b9eebb85c6", func := "loop.example/g01142/laws.FnExactBackoffRun", spec := "fnExactBackoffRun", apart := false }
def FnExactBackoffRunSaid : Prop := fnExactBackoffRunRow.holds Try.pinned (OpenSpec.ofChange fnExactBackoffRunSpec)

/-- ITS FALSE NEIGHBOUR: 'it returns false'. Refute it at one input. -/
def fnExactBackoffRunWrong : ChangeSpec := { name := "fnExactBackoffRun", fn := fun _ => fun
  | [d] => { results := [.lit (.bool false)], args := [d] }
  | _ => none }
def FnExactBackoffRunWrongFalsely : Prop := fnExactBackoffRunRow.holds Try.pinned (OpenSpec.ofChange fnExactBackoffRunWrong)

/-- 'laws.FnExactBitsOfLevels': WHATEVER THE INPUT: true; the input reads as it did. -/
def fnExactBitsOfLevelsSpec : ChangeSpec := { name := "fnExactBitsOfLevels", fn := fun _ => fun
  | [d1, d2] => { results := [.lit (.bool true)], args := [d1, d2] }
  | _ => none }
def fnExactBitsOfLevelsRow : OpenClaim := { program := "ytbgiddnffchnpaa", sum := "1155b1b491f5d4cb447828d7b4ee7179e0f46038293132a64ab303b9eebb85c6", func := "loop.example/g01142/laws.FnExactBitsOfLevels", spec := "fnExactBitsOfLevels", apart := false }
def FnExactBitsOfLevelsSaid : Prop := fnExactBitsOfLevelsRow.holds Try.pinned (OpenSpec.ofChange fnExactBitsOfLevelsSpec)

/-- ITS FALSE NEIGHBOUR: 'it returns false'. Refute it at one input. -/
def fnExactBitsOfLevelsWrong : ChangeSpec := { name := "fnExactBitsOfLevels", fn := fun _ => fun
  | [d1, d2] => { results := [.lit (.bool false)], args := [d1, d2] }
  | _ => none }
def FnExactBitsOfLevelsWrongFalsely : Prop := fnExactBitsOfLevelsRow.holds Try.pinned (OpenSpec.ofChange fnExactBitsOfLevelsWrong)

/- THE SECOND FORM. 'bulk': how many values and letters a reading holds, each counted each time it is reached (what is shared counts as often as it is met; a slice's spare places count too). A statement '..UptoSaid' is the law's where the arguments, and the package variables that the reading takes, are together of bulk at most 1048576: NARROWER than '..Said'. Prove '..Said' where nothing that the law and all that it calls make is longer than what came in: it says more and counts as full. Else prove '..UptoSaid'. A law counts once. -/
mutual
def uptoBulk {H : Type} : DataW H → Nat
  | .lit (.string bytes) => bytes.length + 1
  | .lit _ => 1
  | .nil => 1
  | .ptr d => uptoBulk d + 1
  | .slice elems spare => uptoBulkAll elems + uptoBulkAll spare + 1
  | .agg parts => uptoBulkAll parts + 1
  | .iface _ d => uptoBulk d + 1
  | .map entries => uptoBulkEntries entries + 1
  | .held _ => 1
def uptoBulkAll {H : Type} : List (DataW H) → Nat
  | [] => 0
  | d :: r => uptoBulk d + uptoBulkAll r
def uptoBulkEntries {H : Type} : List (Lit × DataW H) → Nat
  | [] => 0
  | x :: r => uptoBulkEntry x + uptoBulkEntries r
def uptoBulkEntry {H : Type} : Lit × DataW H → Nat
  | (.string bytes, d) => bytes.length + uptoBulk d + 1
  | (_, d) => uptoBulk d + 1
 end
def uptoSmall : (H : Type) → List (DataW H) → Bool := fun _ ds => decide (uptoBulkAll ds ≤ 1048576)
def OpenSpec.upto (s : _root_.Go.ChangeSpec) : _root_.Go.OpenSpec := { _root_.Go.OpenSpec.ofChange s with cond := some uptoSmall }

/-- 'laws.FnExactCountMissed', WHERE WHAT IT READS IS OF BULK AT MOST 1048576: true; the input reads as it did. -/
def fnExactCountMissedUptoRow : OpenClaim := { program := "ytbgiddnffchnpaa", sum := "1155b1b491f5d4cb447828d7b4ee7179e0f46038293132a64ab303b9eebb85c6", func := "loop.example/g01142/laws.FnExactCountMissed", spec := "fnExactCountMissed", recurses := true, apart := false, narrowed := true }
def FnExactCountMissedUptoSaid : Prop := fnExactCountMissedUptoRow.holds Try.pinned (OpenSpec.upto fnExactCountMissedSpec)

/-- 'laws.FnExactWorstFlat', WHERE WHAT IT READS IS OF BULK AT MOST 1048576: true; the input reads as it did. -/
def fnExactWorstFlatUptoRow : OpenClaim := { program := "ytbgiddnffchnpaa", sum := "1155b1b491f5d4cb447828d7b4ee7179e0f46038293132a64ab303b9eebb85c6", func := "loop.example/g01142/laws.FnExactWorstFlat", spec := "fnExactWorstFlat", apart := false, narrowed := true }
def FnExactWorstFlatUptoSaid : Prop := fnExactWorstFlatUptoRow.holds Try.pinned (OpenSpec.upto fnExactWorstFlatSpec)

/-- 'laws.FnExactLeastMissed', WHERE WHAT IT READS IS OF BULK AT MOST 1048576: true; the input reads as it did. -/
def fnExactLeastMissedUptoRow : OpenClaim := { program := "ytbgiddnffchnpaa", sum := "1155b1b491f5d4cb447828d7b4ee7179e0f46038293132a64ab303b9eebb85c6", func := "loop.example/g01142/laws.FnExactLeastMissed", spec := "fnExactLeastMissed", recurses := true, apart := false, narrowed := true }
def FnExactLeastMissedUptoSaid : Prop := fnExactLeastMissedUptoRow.holds Try.pinned (OpenSpec.upto fnExactLeastMissedSpec)

/-- 'laws.FnExactTokenRounds', WHERE WHAT IT READS IS OF BULK AT MOST 1048576: true; the input reads as it did. -/
def fnExactTokenRoundsUptoRow : OpenClaim := { program := "ytbgiddnffchnpaa", sum := "1155b1b491f5d4cb447828d7b4ee7179e0f46038293132a64ab303b9eebb85c6", func := "loop.example/g01142/laws.FnExactTokenRounds", spec := "fnExactTokenRounds", apart := false, narrowed := true }
def FnExactTokenRoundsUptoSaid : Prop := fnExactTokenRoundsUptoRow.holds Try.pinned (OpenSpec.upto fnExactTokenRoundsSpec)

/-- 'laws.FnExactReadLevels', WHERE WHAT IT READS IS OF BULK AT MOST 1048576: true; the input reads as it did. -/
def fnExactReadLevelsUptoRow : OpenClaim := { program := "ytbgiddnffchnpaa", sum := "1155b1b491f5d4cb447828d7b4ee7179e0f46038293132a64ab303b9eebb85c6", func := "loop.example/g01142/laws.FnExactReadLevels", spec := "fnExactReadLevels", apart := false, narrowed := true }
def FnExactReadLevelsUptoSaid : Prop := fnExactReadLevelsUptoRow.holds Try.pinned (OpenSpec.upto fnExactReadLevelsSpec)

/-- 'laws.FnBackoff', WHERE WHAT IT READS IS OF BULK AT MOST 1048576: true; the input reads as it did. -/
def fnBackoffUptoRow : OpenClaim := { program := "ytbgiddnffchnpaa", sum := "1155b1b491f5d4cb447828d7b4ee7179e0f46038293132a64ab303b9eebb85c6", func := "loop.example/g01142/laws.FnBackoff", spec := "fnBackoff", apart := false, narrowed := true }
def FnBackoffUptoSaid : Prop := fnBackoffUptoRow.holds Try.pinned (OpenSpec.upto fnBackoffSpec)

/-- 'laws.FnTurns', WHERE WHAT IT READS IS OF BULK AT MOST 1048576: true; the input reads as it did. -/
def fnTurnsUptoRow : OpenClaim := { program := "ytbgiddnffchnpaa", sum := "1155b1b491f5d4cb447828d7b4ee7179e0f46038293132a64ab303b9eebb85c6", func := "loop.example/g01142/laws.FnTurns", spec := "fnTurns", apart := false, narrowed := true }
def FnTurnsUptoSaid : Prop := fnTurnsUptoRow.holds Try.pinned (OpenSpec.upto fnTurnsSpec)

/-- 'laws.FnExactReserveSlots', WHERE WHAT IT READS IS OF BULK AT MOST 1048576: true; the input reads as it did. -/
def fnExactReserveSlotsUptoRow : OpenClaim := { program := "ytbgiddnffchnpaa", sum := "1155b1b491f5d4cb447828d7b4ee7179e0f46038293132a64ab303b9eebb85c6", func := "loop.example/g01142/laws.FnExactReserveSlots", spec := "fnExactReserveSlots", apart := false, narrowed := true }
def FnExactReserveSlotsUptoSaid : Prop := fnExactReserveSlotsUptoRow.holds Try.pinned (OpenSpec.upto fnExactReserveSlotsSpec)

/-- 'laws.FnExactFirstWrong', WHERE WHAT IT READS IS OF BULK AT MOST 1048576: true; the input reads as it did. -/
def fnExactFirstWrongUptoRow : OpenClaim := { program := "ytbgiddnffchnpaa", sum := "1155b1b491f5d4cb447828d7b4ee7179e0f46038293132a64ab303b9eebb85c6", func := "loop.example/g01142/laws.FnExactFirstWrong", spec := "fnExactFirstWrong", apart := false, narrowed := true }
def FnExactFirstWrongUptoSaid : Prop := fnExactFirstWrongUptoRow.holds Try.pinned (OpenSpec.upto fnExactFirstWrongSpec)

/-- 'laws.FnExactBackoffRun', WHERE WHAT IT READS IS OF BULK AT MOST 1048576: true; the input reads as it did. -/
def fnExactBackoffRunUptoRow : OpenClaim := { program := "ytbgiddnffchnpaa", sum := "1155b1b491f5d4cb447828d7b4ee7179e0f46038293132a64ab303b9eebb85c6", func := "loop.example/g01142/laws.FnExactBackoffRun", spec := "fnExactBackoffRun", apart := false, narrowed := true }
def FnExactBackoffRunUptoSaid : Prop := fnExactBackoffRunUptoRow.holds Try.pinned (OpenSpec.upto fnExactBackoffRunSpec)

/-- 'laws.FnExactBitsOfLevels', WHERE WHAT IT READS IS OF BULK AT MOST 1048576: true; the input reads as it did. -/
def fnExactBitsOfLevelsUptoRow : OpenClaim := { program := "ytbgiddnffchnpaa", sum := "1155b1b491f5d4cb447828d7b4ee7179e0f46038293132a64ab303b9eebb85c6", func := "loop.example/g01142/laws.FnExactBitsOfLevels", spec := "fnExactBitsOfLevels", apart := false, narrowed := true }
def FnExactBitsOfLevelsUptoSaid : Prop := fnExactBitsOfLevelsUptoRow.holds Try.pinned (OpenSpec.upto fnExactBitsOfLevelsSpec)

end Rows
end Go.Proofs.Ytbgiddnffchnpaa
