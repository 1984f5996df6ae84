/-
  DERIVED. GIVEN WITH THE SEED: THE CARDS: each row of YtbgiddnffchnpaaDoorRows.lean that lists a variable, with what it lists TIED to the program's text (the seventh form; the later family's looks); each row that meets fmt, with fmt's text TOLD by the authors' own Lean function (tested against real Go, not proved from fmt's source: count such statements apart). THE CARD IS WHAT COUNTS. Prove the row's statement (the work); the ties are given (YtbgiddnffchnpaaDoorTie.lean); close each card by the builder's one call (the guide's Derived/Test/ToyasCard.lean, 'card_holds'). Laid BY PROGRAM, IN A SANDBOX (cutbox-door.mjs). By AI agents, Wed Nov 11 2026. No macro, syntax, notation, axiom, sorry.
-/
import Derived.Test.YtbgiddnffchnpaaDoorRows
import GoSem.ClaimSeven
namespace Go.Proofs.YtbgiddnffchnpaaDoor
namespace Rows

/-- THE TIED CARD OF 'laws.FnExactBlockInterleave'. -/
def fnExactBlockInterleaveCard : Claim7 := { stood := { row := fnExactBlockInterleaveRow, standIns := [], harness := (true, "56722037e31e16e5c1711b3c0c5600f407528579dabfedf8fe6e2e2e4f2d051e"), looks := false }, kinds := [], alts := [], laidByText := true, laidKinds := [.data, .pinned], laidTests := true, laidLooks := .later }
def FnExactBlockInterleaveCardSaid : Prop := Claim7.holds Tryd.pinned (.plain (OpenSpec.ofChange fnExactBlockInterleaveSpec)) fnExactBlockInterleaveCard

/-- THE SECOND FORM's CARD OF 'laws.FnExactBlockInterleave'. -/
def fnExactBlockInterleaveUptoCard : Claim7 := { stood := { row := fnExactBlockInterleaveUptoRow, standIns := [], harness := (true, "56722037e31e16e5c1711b3c0c5600f407528579dabfedf8fe6e2e2e4f2d051e"), looks := false }, kinds := [], alts := [], laidByText := true, laidKinds := [.data, .pinned], laidTests := true, laidLooks := .later }
def FnExactBlockInterleaveUptoCardSaid : Prop := Claim7.holds Tryd.pinned (.plain (OpenSpec.upto fnExactBlockInterleaveSpec)) fnExactBlockInterleaveUptoCard
end Rows
end Go.Proofs.YtbgiddnffchnpaaDoor
