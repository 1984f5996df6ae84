/-
  DERIVED. GIVEN WITH THE SEED: THE CARDS: each row of YthaafdeicgbajaaDoorRows.lean that lists a variable, with what it lists TIED to the program's text (the seventh form; the later family's looks); each row that meets fmt, with fmt's text TOLD by the authors' own Lean function (tested against real Go, not proved from fmt's source: count such statements apart). THE CARD IS WHAT COUNTS. Prove the row's statement (the work); the ties are given (YthaafdeicgbajaaDoorTie.lean); close each card by the builder's one call (the guide's Derived/Test/ToyasCard.lean, 'card_holds'). Laid BY PROGRAM, IN A SANDBOX (cutbox-door.mjs). By AI agents, Wed Nov 11 2026. No macro, syntax, notation, axiom, sorry.
-/
import Derived.Test.YthaafdeicgbajaaDoorRows
import GoSem.ClaimSeven
namespace Go.Proofs.YthaafdeicgbajaaDoor
namespace Rows

/-- THE TIED CARD OF 'laws.FnExactShortestMissed'. -/
def fnExactShortestMissedCard : Claim7 := { stood := { row := fnExactShortestMissedRow, standIns := [], harness := (true, "d262caa44614733746940927f1479701efa43bd666b4a5a3990590a6c187f172"), looks := false }, kinds := [], alts := [], laidByText := true, laidKinds := [.data], laidTests := true, laidLooks := .later }
def FnExactShortestMissedCardSaid : Prop := Claim7.holds Tryd.pinned (.plain (OpenSpec.ofChange fnExactShortestMissedSpec)) fnExactShortestMissedCard

/-- THE TIED CARD OF 'laws.FnWrongLevels'. -/
def fnWrongLevelsCard : Claim7 := { stood := { row := fnWrongLevelsRow, standIns := [], harness := (true, "d262caa44614733746940927f1479701efa43bd666b4a5a3990590a6c187f172"), looks := false }, kinds := [], alts := [], laidByText := true, laidKinds := [.data, .pinned], laidTests := true, laidLooks := .later }
def FnWrongLevelsCardSaid : Prop := Claim7.holds Tryd.pinned (.plain (OpenSpec.ofChange fnWrongLevelsSpec)) fnWrongLevelsCard

/-- THE TIED CARD OF 'laws.FnChecks'. -/
def fnChecksCard : Claim7 := { stood := { row := fnChecksRow, standIns := [], harness := (true, "d262caa44614733746940927f1479701efa43bd666b4a5a3990590a6c187f172"), looks := false }, kinds := [], alts := [], laidByText := true, laidKinds := [.data, .pinned], laidTests := true, laidLooks := .later }
def FnChecksCardSaid : Prop := Claim7.holds Tryd.pinned (.plain (OpenSpec.ofChange fnChecksSpec)) fnChecksCard

/-- THE TIED CARD OF 'laws.FnExactSplitRun'. -/
def fnExactSplitRunCard : Claim7 := { stood := { row := fnExactSplitRunRow, standIns := [], harness := (true, "d262caa44614733746940927f1479701efa43bd666b4a5a3990590a6c187f172"), looks := false }, kinds := [], alts := [], laidByText := true, laidKinds := [.data, .pinned], laidTests := true, laidLooks := .later }
def FnExactSplitRunCardSaid : Prop := Claim7.holds Tryd.pinned (.plain (OpenSpec.ofChange fnExactSplitRunSpec)) fnExactSplitRunCard

/-- THE TIED CARD OF 'laws.FnExactRecoverJournal'. -/
def fnExactRecoverJournalCard : Claim7 := { stood := { row := fnExactRecoverJournalRow, standIns := [], harness := (true, "d262caa44614733746940927f1479701efa43bd666b4a5a3990590a6c187f172"), looks := false }, kinds := [], alts := [], laidByText := true, laidKinds := [.data, .data, .data], laidTests := true, laidLooks := .later }
def FnExactRecoverJournalCardSaid : Prop := Claim7.holds Tryd.pinned (.plain (OpenSpec.ofChange fnExactRecoverJournalSpec)) fnExactRecoverJournalCard

/-- THE TIED CARD OF 'laws.FnExactJournalOf'. -/
def fnExactJournalOfCard : Claim7 := { stood := { row := fnExactJournalOfRow, standIns := [], harness := (true, "d262caa44614733746940927f1479701efa43bd666b4a5a3990590a6c187f172"), looks := false }, kinds := [], alts := [], laidByText := true, laidKinds := [.data, .data, .data], laidTests := true, laidLooks := .later }
def FnExactJournalOfCardSaid : Prop := Claim7.holds Tryd.pinned (.plain (OpenSpec.ofChange fnExactJournalOfSpec)) fnExactJournalOfCard

/-- THE SECOND FORM's CARD OF 'laws.FnExactShortestMissed'. -/
def fnExactShortestMissedUptoCard : Claim7 := { stood := { row := fnExactShortestMissedUptoRow, standIns := [], harness := (true, "d262caa44614733746940927f1479701efa43bd666b4a5a3990590a6c187f172"), looks := false }, kinds := [], alts := [], laidByText := true, laidKinds := [.data], laidTests := true, laidLooks := .later }
def FnExactShortestMissedUptoCardSaid : Prop := Claim7.holds Tryd.pinned (.plain (OpenSpec.upto fnExactShortestMissedSpec)) fnExactShortestMissedUptoCard

/-- THE SECOND FORM's CARD OF 'laws.FnWrongLevels'. -/
def fnWrongLevelsUptoCard : Claim7 := { stood := { row := fnWrongLevelsUptoRow, standIns := [], harness := (true, "d262caa44614733746940927f1479701efa43bd666b4a5a3990590a6c187f172"), looks := false }, kinds := [], alts := [], laidByText := true, laidKinds := [.data, .pinned], laidTests := true, laidLooks := .later }
def FnWrongLevelsUptoCardSaid : Prop := Claim7.holds Tryd.pinned (.plain (OpenSpec.upto fnWrongLevelsSpec)) fnWrongLevelsUptoCard

/-- THE SECOND FORM's CARD OF 'laws.FnChecks'. -/
def fnChecksUptoCard : Claim7 := { stood := { row := fnChecksUptoRow, standIns := [], harness := (true, "d262caa44614733746940927f1479701efa43bd666b4a5a3990590a6c187f172"), looks := false }, kinds := [], alts := [], laidByText := true, laidKinds := [.data, .pinned], laidTests := true, laidLooks := .later }
def FnChecksUptoCardSaid : Prop := Claim7.holds Tryd.pinned (.plain (OpenSpec.upto fnChecksSpec)) fnChecksUptoCard

/-- THE SECOND FORM's CARD OF 'laws.FnExactSplitRun'. -/
def fnExactSplitRunUptoCard : Claim7 := { stood := { row := fnExactSplitRunUptoRow, standIns := [], harness := (true, "d262caa44614733746940927f1479701efa43bd666b4a5a3990590a6c187f172"), looks := false }, kinds := [], alts := [], laidByText := true, laidKinds := [.data, .pinned], laidTests := true, laidLooks := .later }
def FnExactSplitRunUptoCardSaid : Prop := Claim7.holds Tryd.pinned (.plain (OpenSpec.upto fnExactSplitRunSpec)) fnExactSplitRunUptoCard

/-- THE SECOND FORM's CARD OF 'laws.FnExactRecoverJournal'. -/
def fnExactRecoverJournalUptoCard : Claim7 := { stood := { row := fnExactRecoverJournalUptoRow, standIns := [], harness := (true, "d262caa44614733746940927f1479701efa43bd666b4a5a3990590a6c187f172"), looks := false }, kinds := [], alts := [], laidByText := true, laidKinds := [.data, .data, .data], laidTests := true, laidLooks := .later }
def FnExactRecoverJournalUptoCardSaid : Prop := Claim7.holds Tryd.pinned (.plain (OpenSpec.upto fnExactRecoverJournalSpec)) fnExactRecoverJournalUptoCard

/-- THE SECOND FORM's CARD OF 'laws.FnExactJournalOf'. -/
def fnExactJournalOfUptoCard : Claim7 := { stood := { row := fnExactJournalOfUptoRow, standIns := [], harness := (true, "d262caa44614733746940927f1479701efa43bd666b4a5a3990590a6c187f172"), looks := false }, kinds := [], alts := [], laidByText := true, laidKinds := [.data, .data, .data], laidTests := true, laidLooks := .later }
def FnExactJournalOfUptoCardSaid : Prop := Claim7.holds Tryd.pinned (.plain (OpenSpec.upto fnExactJournalOfSpec)) fnExactJournalOfUptoCard
end Rows
end Go.Proofs.YthaafdeicgbajaaDoor
