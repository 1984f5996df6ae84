/-
  DERIVED. GIVEN WITH THE SEED: THE CARDS: each row of YtohdepanfnaddaaDoorRows.lean that lists a variable, with what it lists TIED to the program's text (the seventh form; the later family's looks); each row that meets fmt, with fmt's text TOLD by the authors' own Lean function (tested against real Go, not proved from fmt's source: count such statements apart). THE CARD IS WHAT COUNTS. Prove the row's statement (the work); the ties are given (YtohdepanfnaddaaDoorTie.lean); close each card by the builder's one call (the guide's Derived/Test/ToyasCard.lean, 'card_holds'). Laid BY PROGRAM, IN A SANDBOX (cutbox-door.mjs). By AI agents, Wed Nov 11 2026. No macro, syntax, notation, axiom, sorry.
-/
import Derived.Test.YtohdepanfnaddaaDoorRows
import GoSem.ClaimSeven
namespace Go.Proofs.YtohdepanfnaddaaDoor
namespace Rows

/-- THE TIED CARD OF 'laws.FnExactValidConsole'. -/
def fnExactValidConsoleCard : Claim7 := { stood := { row := fnExactValidConsoleRow, standIns := [], harness := (true, "4bc9df11bc9a37b49a791c32ff869addbed0aaa2a99babe607bb7b8800dce465"), looks := false }, kinds := [], alts := [], laidByText := true, laidKinds := [.data, .pinned], laidTests := true, laidLooks := .later }
def FnExactValidConsoleCardSaid : Prop := Claim7.holds Tryd.pinned (.plain (OpenSpec.ofChange fnExactValidConsoleSpec)) fnExactValidConsoleCard

/-- THE TIED CARD OF 'laws.FnExactSplitRun'. -/
def fnExactSplitRunCard : Claim7 := { stood := { row := fnExactSplitRunRow, standIns := [], harness := (true, "4bc9df11bc9a37b49a791c32ff869addbed0aaa2a99babe607bb7b8800dce465"), looks := false }, kinds := [], alts := [], laidByText := true, laidKinds := [.data, .pinned], laidTests := true, laidLooks := .later }
def FnExactSplitRunCardSaid : Prop := Claim7.holds Tryd.pinned (.plain (OpenSpec.ofChange fnExactSplitRunSpec)) fnExactSplitRunCard

/-- THE TIED CARD OF 'laws.FnExactRecoverJournal'. -/
def fnExactRecoverJournalCard : Claim7 := { stood := { row := fnExactRecoverJournalRow, standIns := [], harness := (true, "4bc9df11bc9a37b49a791c32ff869addbed0aaa2a99babe607bb7b8800dce465"), looks := false }, kinds := [], alts := [], laidByText := true, laidKinds := [.data, .data, .data], laidTests := true, laidLooks := .later }
def FnExactRecoverJournalCardSaid : Prop := Claim7.holds Tryd.pinned (.plain (OpenSpec.ofChange fnExactRecoverJournalSpec)) fnExactRecoverJournalCard

/-- THE TIED CARD OF 'laws.FnExactJournalOf'. -/
def fnExactJournalOfCard : Claim7 := { stood := { row := fnExactJournalOfRow, standIns := [], harness := (true, "4bc9df11bc9a37b49a791c32ff869addbed0aaa2a99babe607bb7b8800dce465"), looks := false }, kinds := [], alts := [], laidByText := true, laidKinds := [.data, .data, .data], laidTests := true, laidLooks := .later }
def FnExactJournalOfCardSaid : Prop := Claim7.holds Tryd.pinned (.plain (OpenSpec.ofChange fnExactJournalOfSpec)) fnExactJournalOfCard

/-- THE TIED CARD OF 'laws.FnJournal'. -/
def fnJournalCard : Claim7 := { stood := { row := fnJournalRow, standIns := [], harness := (true, "4bc9df11bc9a37b49a791c32ff869addbed0aaa2a99babe607bb7b8800dce465"), looks := false }, kinds := [], alts := [], laidByText := true, laidKinds := [.data, .data, .data], laidTests := true, laidLooks := .later }
def FnJournalCardSaid : Prop := Claim7.holds Tryd.pinned (.plain (OpenSpec.ofChange fnJournalSpec)) fnJournalCard

/-- THE TIED CARD OF 'laws.FnExactFlipLoss'. -/
def fnExactFlipLossCard : Claim7 := { stood := { row := fnExactFlipLossRow, standIns := [], harness := (true, "4bc9df11bc9a37b49a791c32ff869addbed0aaa2a99babe607bb7b8800dce465"), looks := false }, kinds := [], alts := [], laidByText := true, laidKinds := [.data, .pinned], laidTests := true, laidLooks := .later }
def FnExactFlipLossCardSaid : Prop := Claim7.holds Tryd.pinned (.plain (OpenSpec.ofChange fnExactFlipLossSpec)) fnExactFlipLossCard

/-- THE TIED CARD OF 'laws.FnExactSyncWord'. -/
def fnExactSyncWordCard : Claim7 := { stood := { row := fnExactSyncWordRow, standIns := [], harness := (true, "4bc9df11bc9a37b49a791c32ff869addbed0aaa2a99babe607bb7b8800dce465"), looks := false }, kinds := [], alts := [], laidByText := true, laidKinds := [.data, .pinned], laidTests := true, laidLooks := .later }
def FnExactSyncWordCardSaid : Prop := Claim7.holds Tryd.pinned (.plain (OpenSpec.ofChange fnExactSyncWordSpec)) fnExactSyncWordCard

/-- THE SECOND FORM's CARD OF 'laws.FnExactValidConsole'. -/
def fnExactValidConsoleUptoCard : Claim7 := { stood := { row := fnExactValidConsoleUptoRow, standIns := [], harness := (true, "4bc9df11bc9a37b49a791c32ff869addbed0aaa2a99babe607bb7b8800dce465"), looks := false }, kinds := [], alts := [], laidByText := true, laidKinds := [.data, .pinned], laidTests := true, laidLooks := .later }
def FnExactValidConsoleUptoCardSaid : Prop := Claim7.holds Tryd.pinned (.plain (OpenSpec.upto fnExactValidConsoleSpec)) fnExactValidConsoleUptoCard

/-- THE SECOND FORM's CARD OF 'laws.FnExactSplitRun'. -/
def fnExactSplitRunUptoCard : Claim7 := { stood := { row := fnExactSplitRunUptoRow, standIns := [], harness := (true, "4bc9df11bc9a37b49a791c32ff869addbed0aaa2a99babe607bb7b8800dce465"), looks := false }, kinds := [], alts := [], laidByText := true, laidKinds := [.data, .pinned], laidTests := true, laidLooks := .later }
def FnExactSplitRunUptoCardSaid : Prop := Claim7.holds Tryd.pinned (.plain (OpenSpec.upto fnExactSplitRunSpec)) fnExactSplitRunUptoCard

/-- THE SECOND FORM's CARD OF 'laws.FnExactRecoverJournal'. -/
def fnExactRecoverJournalUptoCard : Claim7 := { stood := { row := fnExactRecoverJournalUptoRow, standIns := [], harness := (true, "4bc9df11bc9a37b49a791c32ff869addbed0aaa2a99babe607bb7b8800dce465"), looks := false }, kinds := [], alts := [], laidByText := true, laidKinds := [.data, .data, .data], laidTests := true, laidLooks := .later }
def FnExactRecoverJournalUptoCardSaid : Prop := Claim7.holds Tryd.pinned (.plain (OpenSpec.upto fnExactRecoverJournalSpec)) fnExactRecoverJournalUptoCard

/-- THE SECOND FORM's CARD OF 'laws.FnExactJournalOf'. -/
def fnExactJournalOfUptoCard : Claim7 := { stood := { row := fnExactJournalOfUptoRow, standIns := [], harness := (true, "4bc9df11bc9a37b49a791c32ff869addbed0aaa2a99babe607bb7b8800dce465"), looks := false }, kinds := [], alts := [], laidByText := true, laidKinds := [.data, .data, .data], laidTests := true, laidLooks := .later }
def FnExactJournalOfUptoCardSaid : Prop := Claim7.holds Tryd.pinned (.plain (OpenSpec.upto fnExactJournalOfSpec)) fnExactJournalOfUptoCard

/-- THE SECOND FORM's CARD OF 'laws.FnJournal'. -/
def fnJournalUptoCard : Claim7 := { stood := { row := fnJournalUptoRow, standIns := [], harness := (true, "4bc9df11bc9a37b49a791c32ff869addbed0aaa2a99babe607bb7b8800dce465"), looks := false }, kinds := [], alts := [], laidByText := true, laidKinds := [.data, .data, .data], laidTests := true, laidLooks := .later }
def FnJournalUptoCardSaid : Prop := Claim7.holds Tryd.pinned (.plain (OpenSpec.upto fnJournalSpec)) fnJournalUptoCard

/-- THE SECOND FORM's CARD OF 'laws.FnExactFlipLoss'. -/
def fnExactFlipLossUptoCard : Claim7 := { stood := { row := fnExactFlipLossUptoRow, standIns := [], harness := (true, "4bc9df11bc9a37b49a791c32ff869addbed0aaa2a99babe607bb7b8800dce465"), looks := false }, kinds := [], alts := [], laidByText := true, laidKinds := [.data, .pinned], laidTests := true, laidLooks := .later }
def FnExactFlipLossUptoCardSaid : Prop := Claim7.holds Tryd.pinned (.plain (OpenSpec.upto fnExactFlipLossSpec)) fnExactFlipLossUptoCard

/-- THE SECOND FORM's CARD OF 'laws.FnExactSyncWord'. -/
def fnExactSyncWordUptoCard : Claim7 := { stood := { row := fnExactSyncWordUptoRow, standIns := [], harness := (true, "4bc9df11bc9a37b49a791c32ff869addbed0aaa2a99babe607bb7b8800dce465"), looks := false }, kinds := [], alts := [], laidByText := true, laidKinds := [.data, .pinned], laidTests := true, laidLooks := .later }
def FnExactSyncWordUptoCardSaid : Prop := Claim7.holds Tryd.pinned (.plain (OpenSpec.upto fnExactSyncWordSpec)) fnExactSyncWordUptoCard
end Rows
end Go.Proofs.YtohdepanfnaddaaDoor
