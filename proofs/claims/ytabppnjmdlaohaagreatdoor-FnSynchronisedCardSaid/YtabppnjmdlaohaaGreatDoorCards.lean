/-
  DERIVED. GIVEN WITH THE SEED: THE CARDS: each row of YtabppnjmdlaohaaGreatDoorRows.lean that lists a variable, with what it lists TIED to the program's text (the seventh form; the later family's looks); each row that meets fmt, with fmt's text TOLD by the authors' own Lean function (tested against real Go, not proved from fmt's source: count such statements apart). THE CARD IS WHAT COUNTS. Prove the row's statement (the work); the ties are given (YtabppnjmdlaohaaGreatDoorTie.lean); close each card by the builder's one call (the guide's Derived/Test/ToyasCard.lean, 'card_holds'). Laid BY PROGRAM, IN A SANDBOX (cutbox-door.mjs). By AI agents, Wed Nov 11 2026. No macro, syntax, notation, axiom, sorry.
-/
import Derived.Test.YtabppnjmdlaohaaGreatDoorRows
import GoSem.ClaimSeven
namespace Go.Proofs.YtabppnjmdlaohaaGreatDoor
namespace Rows

/-- THE TIED CARD OF 'laws.FnSynchronised'. -/
def fnSynchronisedCard : Claim7 := { stood := { row := fnSynchronisedRow, standIns := [], harness := (true, "80432cdcf8001f2ac92a1af78bc6f01b1bfe3d68f0a740d1e84d2fdb0fe4e0d6"), looks := false }, kinds := [], alts := [], laidByText := true, laidKinds := [.data, .pinned], laidTests := true, laidLooks := .later }
def FnSynchronisedCardSaid : Prop := Claim7.holds Tryz.pinned (.plain (OpenSpec.ofChange fnSynchronisedSpec)) fnSynchronisedCard

/-- THE SECOND FORM's CARD OF 'laws.FnSynchronised'. -/
def fnSynchronisedUptoCard : Claim7 := { stood := { row := fnSynchronisedUptoRow, standIns := [], harness := (true, "80432cdcf8001f2ac92a1af78bc6f01b1bfe3d68f0a740d1e84d2fdb0fe4e0d6"), looks := false }, kinds := [], alts := [], laidByText := true, laidKinds := [.data, .pinned], laidTests := true, laidLooks := .later }
def FnSynchronisedUptoCardSaid : Prop := Claim7.holds Tryz.pinned (.plain (OpenSpec.upto fnSynchronisedSpec)) fnSynchronisedUptoCard
end Rows
end Go.Proofs.YtabppnjmdlaohaaGreatDoor
