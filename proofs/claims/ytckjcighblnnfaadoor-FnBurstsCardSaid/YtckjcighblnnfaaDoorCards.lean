/-
  DERIVED. GIVEN WITH THE SEED: THE CARDS: each row of YtckjcighblnnfaaDoorRows.lean that lists a variable, with what it lists TIED to the program's text (the seventh form; the later family's looks); each row that meets fmt, with fmt's text TOLD by the authors' own Lean function (tested against real Go, not proved from fmt's source: count such statements apart). THE CARD IS WHAT COUNTS. Prove the row's statement (the work); the ties are given (YtckjcighblnnfaaDoorTie.lean); close each card by the builder's one call (the guide's Derived/Test/ToyasCard.lean, 'card_holds'). Laid BY PROGRAM, IN A SANDBOX (cutbox-door.mjs). By AI agents, Wed Nov 11 2026. No macro, syntax, notation, axiom, sorry.
-/
import Derived.Test.YtckjcighblnnfaaDoorRows
import GoSem.ClaimSeven
namespace Go.Proofs.YtckjcighblnnfaaDoor
namespace Rows

/-- THE TIED CARD OF 'laws.FnExactBlockDeinterleave'. -/
def fnExactBlockDeinterleaveCard : Claim7 := { stood := { row := fnExactBlockDeinterleaveRow, standIns := [], harness := (true, "252df187a85a3abaf1b9101cc8ae2f26df8e3363025b8718258b455c9871aaae"), looks := false }, kinds := [], alts := [], laidByText := true, laidKinds := [.data, .pinned], laidTests := true, laidLooks := .later }
def FnExactBlockDeinterleaveCardSaid : Prop := Claim7.holds Tryd.pinned (.plain (OpenSpec.ofChange fnExactBlockDeinterleaveSpec)) fnExactBlockDeinterleaveCard

/-- THE TIED CARD OF 'laws.FnInterleaved'. -/
def fnInterleavedCard : Claim7 := { stood := { row := fnInterleavedRow, standIns := [], harness := (true, "252df187a85a3abaf1b9101cc8ae2f26df8e3363025b8718258b455c9871aaae"), looks := false }, kinds := [], alts := [], laidByText := true, laidKinds := [.data, .pinned], laidTests := true, laidLooks := .later }
def FnInterleavedCardSaid : Prop := Claim7.holds Tryd.pinned (.plain (OpenSpec.ofChange fnInterleavedSpec)) fnInterleavedCard

/-- THE TIED CARD OF 'laws.FnExactSlideDeinterleave'. -/
def fnExactSlideDeinterleaveCard : Claim7 := { stood := { row := fnExactSlideDeinterleaveRow, standIns := [], harness := (true, "252df187a85a3abaf1b9101cc8ae2f26df8e3363025b8718258b455c9871aaae"), looks := false }, kinds := [], alts := [], laidByText := true, laidKinds := [.data, .pinned], laidTests := true, laidLooks := .later }
def FnExactSlideDeinterleaveCardSaid : Prop := Claim7.holds Tryd.pinned (.plain (OpenSpec.ofChange fnExactSlideDeinterleaveSpec)) fnExactSlideDeinterleaveCard

/-- THE TIED CARD OF 'laws.FnExactSlideInterleave'. -/
def fnExactSlideInterleaveCard : Claim7 := { stood := { row := fnExactSlideInterleaveRow, standIns := [], harness := (true, "252df187a85a3abaf1b9101cc8ae2f26df8e3363025b8718258b455c9871aaae"), looks := false }, kinds := [], alts := [], laidByText := true, laidKinds := [.data, .pinned], laidTests := true, laidLooks := .later }
def FnExactSlideInterleaveCardSaid : Prop := Claim7.holds Tryd.pinned (.plain (OpenSpec.ofChange fnExactSlideInterleaveSpec)) fnExactSlideInterleaveCard

/-- THE TIED CARD OF 'laws.FnExactHasCheck'. -/
def fnExactHasCheckCard : Claim7 := { stood := { row := fnExactHasCheckRow, standIns := [], harness := (true, "252df187a85a3abaf1b9101cc8ae2f26df8e3363025b8718258b455c9871aaae"), looks := false }, kinds := [], alts := [], laidByText := true, laidKinds := [.data, .pinned], laidTests := true, laidLooks := .later }
def FnExactHasCheckCardSaid : Prop := Claim7.holds Tryd.pinned (.plain (OpenSpec.ofChange fnExactHasCheckSpec)) fnExactHasCheckCard

/-- THE TIED CARD OF 'laws.FnSlid'. -/
def fnSlidCard : Claim7 := { stood := { row := fnSlidRow, standIns := [], harness := (true, "252df187a85a3abaf1b9101cc8ae2f26df8e3363025b8718258b455c9871aaae"), looks := false }, kinds := [], alts := [], laidByText := true, laidKinds := [.data, .pinned], laidTests := true, laidLooks := .later }
def FnSlidCardSaid : Prop := Claim7.holds Tryd.pinned (.plain (OpenSpec.ofChange fnSlidSpec)) fnSlidCard

/-- THE TIED CARD OF 'laws.FnMissed'. -/
def fnMissedCard : Claim7 := { stood := { row := fnMissedRow, standIns := [], harness := (true, "252df187a85a3abaf1b9101cc8ae2f26df8e3363025b8718258b455c9871aaae"), looks := false }, kinds := [], alts := [], laidByText := true, laidKinds := [.data, .pinned], laidTests := true, laidLooks := .later }
def FnMissedCardSaid : Prop := Claim7.holds Tryd.pinned (.plain (OpenSpec.ofChange fnMissedSpec)) fnMissedCard

/-- THE TIED CARD OF 'laws.FnExactValidConsole'. -/
def fnExactValidConsoleCard : Claim7 := { stood := { row := fnExactValidConsoleRow, standIns := [], harness := (true, "252df187a85a3abaf1b9101cc8ae2f26df8e3363025b8718258b455c9871aaae"), looks := false }, kinds := [], alts := [], laidByText := true, laidKinds := [.data, .pinned], laidTests := true, laidLooks := .later }
def FnExactValidConsoleCardSaid : Prop := Claim7.holds Tryd.pinned (.plain (OpenSpec.ofChange fnExactValidConsoleSpec)) fnExactValidConsoleCard

/-- THE TIED CARD OF 'laws.FnBursts'. -/
def fnBurstsCard : Claim7 := { stood := { row := fnBurstsRow, standIns := [], harness := (true, "252df187a85a3abaf1b9101cc8ae2f26df8e3363025b8718258b455c9871aaae"), looks := false }, kinds := [], alts := [], laidByText := true, laidKinds := [.data, .data, .pinned], laidTests := true, laidLooks := .later }
def FnBurstsCardSaid : Prop := Claim7.holds Tryd.pinned (.plain (OpenSpec.ofChange fnBurstsSpec)) fnBurstsCard

/-- THE TIED CARD OF 'laws.FnExactAddCheck'. -/
def fnExactAddCheckCard : Claim7 := { stood := { row := fnExactAddCheckRow, standIns := [], harness := (true, "252df187a85a3abaf1b9101cc8ae2f26df8e3363025b8718258b455c9871aaae"), looks := false }, kinds := [], alts := [], laidByText := true, laidKinds := [.data, .pinned], laidTests := true, laidLooks := .later }
def FnExactAddCheckCardSaid : Prop := Claim7.holds Tryd.pinned (.plain (OpenSpec.ofChange fnExactAddCheckSpec)) fnExactAddCheckCard

/-- THE TIED CARD OF 'laws.FnExactCheckBits'. -/
def fnExactCheckBitsCard : Claim7 := { stood := { row := fnExactCheckBitsRow, standIns := [], harness := (true, "252df187a85a3abaf1b9101cc8ae2f26df8e3363025b8718258b455c9871aaae"), looks := false }, kinds := [], alts := [], laidByText := true, laidKinds := [.data, .pinned], laidTests := true, laidLooks := .later }
def FnExactCheckBitsCardSaid : Prop := Claim7.holds Tryd.pinned (.plain (OpenSpec.ofChange fnExactCheckBitsSpec)) fnExactCheckBitsCard

/-- THE TIED CARD OF 'laws.FnFlats'. -/
def fnFlatsCard : Claim7 := { stood := { row := fnFlatsRow, standIns := [], harness := (true, "252df187a85a3abaf1b9101cc8ae2f26df8e3363025b8718258b455c9871aaae"), looks := false }, kinds := [], alts := [], laidByText := true, laidKinds := [.data, .pinned], laidTests := true, laidLooks := .later }
def FnFlatsCardSaid : Prop := Claim7.holds Tryd.pinned (.plain (OpenSpec.ofChange fnFlatsSpec)) fnFlatsCard

/-- THE SECOND FORM's CARD OF 'laws.FnExactBlockDeinterleave'. -/
def fnExactBlockDeinterleaveUptoCard : Claim7 := { stood := { row := fnExactBlockDeinterleaveUptoRow, standIns := [], harness := (true, "252df187a85a3abaf1b9101cc8ae2f26df8e3363025b8718258b455c9871aaae"), looks := false }, kinds := [], alts := [], laidByText := true, laidKinds := [.data, .pinned], laidTests := true, laidLooks := .later }
def FnExactBlockDeinterleaveUptoCardSaid : Prop := Claim7.holds Tryd.pinned (.plain (OpenSpec.upto fnExactBlockDeinterleaveSpec)) fnExactBlockDeinterleaveUptoCard

/-- THE SECOND FORM's CARD OF 'laws.FnInterleaved'. -/
def fnInterleavedUptoCard : Claim7 := { stood := { row := fnInterleavedUptoRow, standIns := [], harness := (true, "252df187a85a3abaf1b9101cc8ae2f26df8e3363025b8718258b455c9871aaae"), looks := false }, kinds := [], alts := [], laidByText := true, laidKinds := [.data, .pinned], laidTests := true, laidLooks := .later }
def FnInterleavedUptoCardSaid : Prop := Claim7.holds Tryd.pinned (.plain (OpenSpec.upto fnInterleavedSpec)) fnInterleavedUptoCard

/-- THE SECOND FORM's CARD OF 'laws.FnExactSlideDeinterleave'. -/
def fnExactSlideDeinterleaveUptoCard : Claim7 := { stood := { row := fnExactSlideDeinterleaveUptoRow, standIns := [], harness := (true, "252df187a85a3abaf1b9101cc8ae2f26df8e3363025b8718258b455c9871aaae"), looks := false }, kinds := [], alts := [], laidByText := true, laidKinds := [.data, .pinned], laidTests := true, laidLooks := .later }
def FnExactSlideDeinterleaveUptoCardSaid : Prop := Claim7.holds Tryd.pinned (.plain (OpenSpec.upto fnExactSlideDeinterleaveSpec)) fnExactSlideDeinterleaveUptoCard

/-- THE SECOND FORM's CARD OF 'laws.FnExactSlideInterleave'. -/
def fnExactSlideInterleaveUptoCard : Claim7 := { stood := { row := fnExactSlideInterleaveUptoRow, standIns := [], harness := (true, "252df187a85a3abaf1b9101cc8ae2f26df8e3363025b8718258b455c9871aaae"), looks := false }, kinds := [], alts := [], laidByText := true, laidKinds := [.data, .pinned], laidTests := true, laidLooks := .later }
def FnExactSlideInterleaveUptoCardSaid : Prop := Claim7.holds Tryd.pinned (.plain (OpenSpec.upto fnExactSlideInterleaveSpec)) fnExactSlideInterleaveUptoCard

/-- THE SECOND FORM's CARD OF 'laws.FnExactHasCheck'. -/
def fnExactHasCheckUptoCard : Claim7 := { stood := { row := fnExactHasCheckUptoRow, standIns := [], harness := (true, "252df187a85a3abaf1b9101cc8ae2f26df8e3363025b8718258b455c9871aaae"), looks := false }, kinds := [], alts := [], laidByText := true, laidKinds := [.data, .pinned], laidTests := true, laidLooks := .later }
def FnExactHasCheckUptoCardSaid : Prop := Claim7.holds Tryd.pinned (.plain (OpenSpec.upto fnExactHasCheckSpec)) fnExactHasCheckUptoCard

/-- THE SECOND FORM's CARD OF 'laws.FnSlid'. -/
def fnSlidUptoCard : Claim7 := { stood := { row := fnSlidUptoRow, standIns := [], harness := (true, "252df187a85a3abaf1b9101cc8ae2f26df8e3363025b8718258b455c9871aaae"), looks := false }, kinds := [], alts := [], laidByText := true, laidKinds := [.data, .pinned], laidTests := true, laidLooks := .later }
def FnSlidUptoCardSaid : Prop := Claim7.holds Tryd.pinned (.plain (OpenSpec.upto fnSlidSpec)) fnSlidUptoCard

/-- THE SECOND FORM's CARD OF 'laws.FnMissed'. -/
def fnMissedUptoCard : Claim7 := { stood := { row := fnMissedUptoRow, standIns := [], harness := (true, "252df187a85a3abaf1b9101cc8ae2f26df8e3363025b8718258b455c9871aaae"), looks := false }, kinds := [], alts := [], laidByText := true, laidKinds := [.data, .pinned], laidTests := true, laidLooks := .later }
def FnMissedUptoCardSaid : Prop := Claim7.holds Tryd.pinned (.plain (OpenSpec.upto fnMissedSpec)) fnMissedUptoCard

/-- THE SECOND FORM's CARD OF 'laws.FnExactValidConsole'. -/
def fnExactValidConsoleUptoCard : Claim7 := { stood := { row := fnExactValidConsoleUptoRow, standIns := [], harness := (true, "252df187a85a3abaf1b9101cc8ae2f26df8e3363025b8718258b455c9871aaae"), looks := false }, kinds := [], alts := [], laidByText := true, laidKinds := [.data, .pinned], laidTests := true, laidLooks := .later }
def FnExactValidConsoleUptoCardSaid : Prop := Claim7.holds Tryd.pinned (.plain (OpenSpec.upto fnExactValidConsoleSpec)) fnExactValidConsoleUptoCard

/-- THE SECOND FORM's CARD OF 'laws.FnBursts'. -/
def fnBurstsUptoCard : Claim7 := { stood := { row := fnBurstsUptoRow, standIns := [], harness := (true, "252df187a85a3abaf1b9101cc8ae2f26df8e3363025b8718258b455c9871aaae"), looks := false }, kinds := [], alts := [], laidByText := true, laidKinds := [.data, .data, .pinned], laidTests := true, laidLooks := .later }
def FnBurstsUptoCardSaid : Prop := Claim7.holds Tryd.pinned (.plain (OpenSpec.upto fnBurstsSpec)) fnBurstsUptoCard

/-- THE SECOND FORM's CARD OF 'laws.FnExactAddCheck'. -/
def fnExactAddCheckUptoCard : Claim7 := { stood := { row := fnExactAddCheckUptoRow, standIns := [], harness := (true, "252df187a85a3abaf1b9101cc8ae2f26df8e3363025b8718258b455c9871aaae"), looks := false }, kinds := [], alts := [], laidByText := true, laidKinds := [.data, .pinned], laidTests := true, laidLooks := .later }
def FnExactAddCheckUptoCardSaid : Prop := Claim7.holds Tryd.pinned (.plain (OpenSpec.upto fnExactAddCheckSpec)) fnExactAddCheckUptoCard

/-- THE SECOND FORM's CARD OF 'laws.FnExactCheckBits'. -/
def fnExactCheckBitsUptoCard : Claim7 := { stood := { row := fnExactCheckBitsUptoRow, standIns := [], harness := (true, "252df187a85a3abaf1b9101cc8ae2f26df8e3363025b8718258b455c9871aaae"), looks := false }, kinds := [], alts := [], laidByText := true, laidKinds := [.data, .pinned], laidTests := true, laidLooks := .later }
def FnExactCheckBitsUptoCardSaid : Prop := Claim7.holds Tryd.pinned (.plain (OpenSpec.upto fnExactCheckBitsSpec)) fnExactCheckBitsUptoCard

/-- THE SECOND FORM's CARD OF 'laws.FnFlats'. -/
def fnFlatsUptoCard : Claim7 := { stood := { row := fnFlatsUptoRow, standIns := [], harness := (true, "252df187a85a3abaf1b9101cc8ae2f26df8e3363025b8718258b455c9871aaae"), looks := false }, kinds := [], alts := [], laidByText := true, laidKinds := [.data, .pinned], laidTests := true, laidLooks := .later }
def FnFlatsUptoCardSaid : Prop := Claim7.holds Tryd.pinned (.plain (OpenSpec.upto fnFlatsSpec)) fnFlatsUptoCard
end Rows
end Go.Proofs.YtckjcighblnnfaaDoor
