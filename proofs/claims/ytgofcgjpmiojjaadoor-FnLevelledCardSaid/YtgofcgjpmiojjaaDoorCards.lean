/-
  DERIVED. GIVEN WITH THE SEED: THE CARDS: each row of YtgofcgjpmiojjaaDoorRows.lean that lists a variable, with what it lists TIED to the program's text (the seventh form; the later family's looks); each row that meets fmt, with fmt's text TOLD by the authors' own Lean function (tested against real Go, not proved from fmt's source: count such statements apart). THE CARD IS WHAT COUNTS. Prove the row's statement (the work); the ties are given (YtgofcgjpmiojjaaDoorTie.lean); close each card by the builder's one call (the guide's Derived/Test/ToyasCard.lean, 'card_holds'). Laid BY PROGRAM, IN A SANDBOX (cutbox-door.mjs). By AI agents, Wed Nov 11 2026. No macro, syntax, notation, axiom, sorry.
-/
import Derived.Test.YtgofcgjpmiojjaaDoorRows
import GoSem.ClaimSeven
namespace Go.Proofs.YtgofcgjpmiojjaaDoor
namespace Rows

/-- THE TIED CARD OF 'laws.FnExactLevelsOf'. -/
def fnExactLevelsOfCard : Claim7 := { stood := { row := fnExactLevelsOfRow, standIns := [], harness := (true, "1e76a767e4bd80cb09209ab015977b70905e625c927a104faa9172d1e70de173"), looks := false }, kinds := [], alts := [], laidByText := true, laidKinds := [.data, .pinned], laidTests := true, laidLooks := .later }
def FnExactLevelsOfCardSaid : Prop := Claim7.holds Tryd.pinned (.plain (OpenSpec.ofChange fnExactLevelsOfSpec)) fnExactLevelsOfCard

/-- THE TIED CARD OF 'laws.FnExactJournalOf'. -/
def fnExactJournalOfCard : Claim7 := { stood := { row := fnExactJournalOfRow, standIns := [], harness := (true, "1e76a767e4bd80cb09209ab015977b70905e625c927a104faa9172d1e70de173"), looks := false }, kinds := [], alts := [], laidByText := true, laidKinds := [.data, .data, .data], laidTests := true, laidLooks := .later }
def FnExactJournalOfCardSaid : Prop := Claim7.holds Tryd.pinned (.plain (OpenSpec.ofChange fnExactJournalOfSpec)) fnExactJournalOfCard

/-- THE TIED CARD OF 'laws.FnChecks'. -/
def fnChecksCard : Claim7 := { stood := { row := fnChecksRow, standIns := [], harness := (true, "1e76a767e4bd80cb09209ab015977b70905e625c927a104faa9172d1e70de173"), looks := false }, kinds := [], alts := [], laidByText := true, laidKinds := [.data, .pinned], laidTests := true, laidLooks := .later }
def FnChecksCardSaid : Prop := Claim7.holds Tryd.pinned (.plain (OpenSpec.ofChange fnChecksSpec)) fnChecksCard

/-- THE TIED CARD OF 'laws.FnExactSplitRun'. -/
def fnExactSplitRunCard : Claim7 := { stood := { row := fnExactSplitRunRow, standIns := [], harness := (true, "1e76a767e4bd80cb09209ab015977b70905e625c927a104faa9172d1e70de173"), looks := false }, kinds := [], alts := [], laidByText := true, laidKinds := [.data, .pinned], laidTests := true, laidLooks := .later }
def FnExactSplitRunCardSaid : Prop := Claim7.holds Tryd.pinned (.plain (OpenSpec.ofChange fnExactSplitRunSpec)) fnExactSplitRunCard

/-- THE TIED CARD OF 'laws.FnExactRecoverJournal'. -/
def fnExactRecoverJournalCard : Claim7 := { stood := { row := fnExactRecoverJournalRow, standIns := [], harness := (true, "1e76a767e4bd80cb09209ab015977b70905e625c927a104faa9172d1e70de173"), looks := false }, kinds := [], alts := [], laidByText := true, laidKinds := [.data, .data, .data], laidTests := true, laidLooks := .later }
def FnExactRecoverJournalCardSaid : Prop := Claim7.holds Tryd.pinned (.plain (OpenSpec.ofChange fnExactRecoverJournalSpec)) fnExactRecoverJournalCard

/-- THE TIED CARD OF 'laws.FnTurnedLevels'. -/
def fnTurnedLevelsCard : Claim7 := { stood := { row := fnTurnedLevelsRow, standIns := [], harness := (true, "1e76a767e4bd80cb09209ab015977b70905e625c927a104faa9172d1e70de173"), looks := false }, kinds := [], alts := [], laidByText := true, laidKinds := [.data, .pinned], laidTests := true, laidLooks := .later }
def FnTurnedLevelsCardSaid : Prop := Claim7.holds Tryd.pinned (.plain (OpenSpec.ofChange fnTurnedLevelsSpec)) fnTurnedLevelsCard

/-- THE TIED CARD OF 'laws.FnWrongLevels'. -/
def fnWrongLevelsCard : Claim7 := { stood := { row := fnWrongLevelsRow, standIns := [], harness := (true, "1e76a767e4bd80cb09209ab015977b70905e625c927a104faa9172d1e70de173"), looks := false }, kinds := [], alts := [], laidByText := true, laidKinds := [.data, .pinned], laidTests := true, laidLooks := .later }
def FnWrongLevelsCardSaid : Prop := Claim7.holds Tryd.pinned (.plain (OpenSpec.ofChange fnWrongLevelsSpec)) fnWrongLevelsCard

/-- THE TIED CARD OF 'laws.FnExactWrongBehind'. -/
def fnExactWrongBehindCard : Claim7 := { stood := { row := fnExactWrongBehindRow, standIns := [], harness := (true, "1e76a767e4bd80cb09209ab015977b70905e625c927a104faa9172d1e70de173"), looks := false }, kinds := [], alts := [], laidByText := true, laidKinds := [.data, .pinned], laidTests := true, laidLooks := .later }
def FnExactWrongBehindCardSaid : Prop := Claim7.holds Tryd.pinned (.plain (OpenSpec.ofChange fnExactWrongBehindSpec)) fnExactWrongBehindCard

/-- THE TIED CARD OF 'laws.FnLevelled'. -/
def fnLevelledCard : Claim7 := { stood := { row := fnLevelledRow, standIns := [], harness := (true, "1e76a767e4bd80cb09209ab015977b70905e625c927a104faa9172d1e70de173"), looks := false }, kinds := [], alts := [], laidByText := true, laidKinds := [.data, .pinned], laidTests := true, laidLooks := .later }
def FnLevelledCardSaid : Prop := Claim7.holds Tryd.pinned (.plain (OpenSpec.ofChange fnLevelledSpec)) fnLevelledCard

/-- THE TIED CARD OF 'laws.FnJournal'. -/
def fnJournalCard : Claim7 := { stood := { row := fnJournalRow, standIns := [], harness := (true, "1e76a767e4bd80cb09209ab015977b70905e625c927a104faa9172d1e70de173"), looks := false }, kinds := [], alts := [], laidByText := true, laidKinds := [.data, .data, .data], laidTests := true, laidLooks := .later }
def FnJournalCardSaid : Prop := Claim7.holds Tryd.pinned (.plain (OpenSpec.ofChange fnJournalSpec)) fnJournalCard

/-- THE TIED CARD OF 'laws.FnExactFlipLoss'. -/
def fnExactFlipLossCard : Claim7 := { stood := { row := fnExactFlipLossRow, standIns := [], harness := (true, "1e76a767e4bd80cb09209ab015977b70905e625c927a104faa9172d1e70de173"), looks := false }, kinds := [], alts := [], laidByText := true, laidKinds := [.data, .pinned], laidTests := true, laidLooks := .later }
def FnExactFlipLossCardSaid : Prop := Claim7.holds Tryd.pinned (.plain (OpenSpec.ofChange fnExactFlipLossSpec)) fnExactFlipLossCard

/-- THE TIED CARD OF 'laws.FnExactSyncWord'. -/
def fnExactSyncWordCard : Claim7 := { stood := { row := fnExactSyncWordRow, standIns := [], harness := (true, "1e76a767e4bd80cb09209ab015977b70905e625c927a104faa9172d1e70de173"), looks := false }, kinds := [], alts := [], laidByText := true, laidKinds := [.data, .pinned], laidTests := true, laidLooks := .later }
def FnExactSyncWordCardSaid : Prop := Claim7.holds Tryd.pinned (.plain (OpenSpec.ofChange fnExactSyncWordSpec)) fnExactSyncWordCard

/-- THE SECOND FORM's CARD OF 'laws.FnExactLevelsOf'. -/
def fnExactLevelsOfUptoCard : Claim7 := { stood := { row := fnExactLevelsOfUptoRow, standIns := [], harness := (true, "1e76a767e4bd80cb09209ab015977b70905e625c927a104faa9172d1e70de173"), looks := false }, kinds := [], alts := [], laidByText := true, laidKinds := [.data, .pinned], laidTests := true, laidLooks := .later }
def FnExactLevelsOfUptoCardSaid : Prop := Claim7.holds Tryd.pinned (.plain (OpenSpec.upto fnExactLevelsOfSpec)) fnExactLevelsOfUptoCard

/-- THE SECOND FORM's CARD OF 'laws.FnExactJournalOf'. -/
def fnExactJournalOfUptoCard : Claim7 := { stood := { row := fnExactJournalOfUptoRow, standIns := [], harness := (true, "1e76a767e4bd80cb09209ab015977b70905e625c927a104faa9172d1e70de173"), looks := false }, kinds := [], alts := [], laidByText := true, laidKinds := [.data, .data, .data], laidTests := true, laidLooks := .later }
def FnExactJournalOfUptoCardSaid : Prop := Claim7.holds Tryd.pinned (.plain (OpenSpec.upto fnExactJournalOfSpec)) fnExactJournalOfUptoCard

/-- THE SECOND FORM's CARD OF 'laws.FnChecks'. -/
def fnChecksUptoCard : Claim7 := { stood := { row := fnChecksUptoRow, standIns := [], harness := (true, "1e76a767e4bd80cb09209ab015977b70905e625c927a104faa9172d1e70de173"), looks := false }, kinds := [], alts := [], laidByText := true, laidKinds := [.data, .pinned], laidTests := true, laidLooks := .later }
def FnChecksUptoCardSaid : Prop := Claim7.holds Tryd.pinned (.plain (OpenSpec.upto fnChecksSpec)) fnChecksUptoCard

/-- THE SECOND FORM's CARD OF 'laws.FnExactSplitRun'. -/
def fnExactSplitRunUptoCard : Claim7 := { stood := { row := fnExactSplitRunUptoRow, standIns := [], harness := (true, "1e76a767e4bd80cb09209ab015977b70905e625c927a104faa9172d1e70de173"), looks := false }, kinds := [], alts := [], laidByText := true, laidKinds := [.data, .pinned], laidTests := true, laidLooks := .later }
def FnExactSplitRunUptoCardSaid : Prop := Claim7.holds Tryd.pinned (.plain (OpenSpec.upto fnExactSplitRunSpec)) fnExactSplitRunUptoCard

/-- THE SECOND FORM's CARD OF 'laws.FnExactRecoverJournal'. -/
def fnExactRecoverJournalUptoCard : Claim7 := { stood := { row := fnExactRecoverJournalUptoRow, standIns := [], harness := (true, "1e76a767e4bd80cb09209ab015977b70905e625c927a104faa9172d1e70de173"), looks := false }, kinds := [], alts := [], laidByText := true, laidKinds := [.data, .data, .data], laidTests := true, laidLooks := .later }
def FnExactRecoverJournalUptoCardSaid : Prop := Claim7.holds Tryd.pinned (.plain (OpenSpec.upto fnExactRecoverJournalSpec)) fnExactRecoverJournalUptoCard

/-- THE SECOND FORM's CARD OF 'laws.FnTurnedLevels'. -/
def fnTurnedLevelsUptoCard : Claim7 := { stood := { row := fnTurnedLevelsUptoRow, standIns := [], harness := (true, "1e76a767e4bd80cb09209ab015977b70905e625c927a104faa9172d1e70de173"), looks := false }, kinds := [], alts := [], laidByText := true, laidKinds := [.data, .pinned], laidTests := true, laidLooks := .later }
def FnTurnedLevelsUptoCardSaid : Prop := Claim7.holds Tryd.pinned (.plain (OpenSpec.upto fnTurnedLevelsSpec)) fnTurnedLevelsUptoCard

/-- THE SECOND FORM's CARD OF 'laws.FnWrongLevels'. -/
def fnWrongLevelsUptoCard : Claim7 := { stood := { row := fnWrongLevelsUptoRow, standIns := [], harness := (true, "1e76a767e4bd80cb09209ab015977b70905e625c927a104faa9172d1e70de173"), looks := false }, kinds := [], alts := [], laidByText := true, laidKinds := [.data, .pinned], laidTests := true, laidLooks := .later }
def FnWrongLevelsUptoCardSaid : Prop := Claim7.holds Tryd.pinned (.plain (OpenSpec.upto fnWrongLevelsSpec)) fnWrongLevelsUptoCard

/-- THE SECOND FORM's CARD OF 'laws.FnExactWrongBehind'. -/
def fnExactWrongBehindUptoCard : Claim7 := { stood := { row := fnExactWrongBehindUptoRow, standIns := [], harness := (true, "1e76a767e4bd80cb09209ab015977b70905e625c927a104faa9172d1e70de173"), looks := false }, kinds := [], alts := [], laidByText := true, laidKinds := [.data, .pinned], laidTests := true, laidLooks := .later }
def FnExactWrongBehindUptoCardSaid : Prop := Claim7.holds Tryd.pinned (.plain (OpenSpec.upto fnExactWrongBehindSpec)) fnExactWrongBehindUptoCard

/-- THE SECOND FORM's CARD OF 'laws.FnLevelled'. -/
def fnLevelledUptoCard : Claim7 := { stood := { row := fnLevelledUptoRow, standIns := [], harness := (true, "1e76a767e4bd80cb09209ab015977b70905e625c927a104faa9172d1e70de173"), looks := false }, kinds := [], alts := [], laidByText := true, laidKinds := [.data, .pinned], laidTests := true, laidLooks := .later }
def FnLevelledUptoCardSaid : Prop := Claim7.holds Tryd.pinned (.plain (OpenSpec.upto fnLevelledSpec)) fnLevelledUptoCard

/-- THE SECOND FORM's CARD OF 'laws.FnJournal'. -/
def fnJournalUptoCard : Claim7 := { stood := { row := fnJournalUptoRow, standIns := [], harness := (true, "1e76a767e4bd80cb09209ab015977b70905e625c927a104faa9172d1e70de173"), looks := false }, kinds := [], alts := [], laidByText := true, laidKinds := [.data, .data, .data], laidTests := true, laidLooks := .later }
def FnJournalUptoCardSaid : Prop := Claim7.holds Tryd.pinned (.plain (OpenSpec.upto fnJournalSpec)) fnJournalUptoCard

/-- THE SECOND FORM's CARD OF 'laws.FnExactFlipLoss'. -/
def fnExactFlipLossUptoCard : Claim7 := { stood := { row := fnExactFlipLossUptoRow, standIns := [], harness := (true, "1e76a767e4bd80cb09209ab015977b70905e625c927a104faa9172d1e70de173"), looks := false }, kinds := [], alts := [], laidByText := true, laidKinds := [.data, .pinned], laidTests := true, laidLooks := .later }
def FnExactFlipLossUptoCardSaid : Prop := Claim7.holds Tryd.pinned (.plain (OpenSpec.upto fnExactFlipLossSpec)) fnExactFlipLossUptoCard

/-- THE SECOND FORM's CARD OF 'laws.FnExactSyncWord'. -/
def fnExactSyncWordUptoCard : Claim7 := { stood := { row := fnExactSyncWordUptoRow, standIns := [], harness := (true, "1e76a767e4bd80cb09209ab015977b70905e625c927a104faa9172d1e70de173"), looks := false }, kinds := [], alts := [], laidByText := true, laidKinds := [.data, .pinned], laidTests := true, laidLooks := .later }
def FnExactSyncWordUptoCardSaid : Prop := Claim7.holds Tryd.pinned (.plain (OpenSpec.upto fnExactSyncWordSpec)) fnExactSyncWordUptoCard
end Rows
end Go.Proofs.YtgofcgjpmiojjaaDoor
