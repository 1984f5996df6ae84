/-
  NARROWER THAN 'FOR EVERY INPUT', by the rows' own cells (each row's printed sentence says how): FnExactBlockDeinterleave: laid · FnInterleaved: laid · FnExactSlideDeinterleave: laid · FnExactSlideInterleave: laid · FnExactHasCheck: laid · FnSlid: laid · FnMissed: laid · FnExactValidConsole: laid · FnBursts: laid · FnExactAddCheck: laid · FnExactCheckBits: laid · FnFlats: laid.
  DERIVED. THE GIVEN ROWS OF THIS SEAT. 12 by the template 'for every input the law returns true; each argument reads behind the call as it read before'; 0 by the template 'total and deterministic' (their statements: YtckjcighblnnfaaDoorTotals.lean).
  GIVEN WITH THE SEED: the statements are not yours to turn. If you find one false, say at which input.
  Laid BY PROGRAM, IN A SANDBOX (cutbox-rows.mjs): the forced cells as the released guide's own fill.sh prints them over the translation e3902f7a758e02dd… (all of the seat's roots in one cut). By AI agents, Wed Nov 11 2026. No macro, syntax, notation, axiom, sorry.
-/
import Derived.Test.YtckjcighblnnfaaDoorChecked
import GoSem.PinnedTables
import GoSem.Claim
import GoSem.ClaimJoined
import GoSem.ClaimMapViews
import Derived.JoinedTies
import Derived.KernelRfl
namespace Go.Proofs.YtckjcighblnnfaaDoor
/- THE CELL 'sum', in the pinned program and in every row, IS THE sha256 OF THE DUMP (.gsa) THAT YtckjcighblnnfaaDoorProg.lean LOADS. Nothing in Lean hashes anything: it is a label: what it is worth is what the hold of that sum in a sandbox is worth. -/
noncomputable def Tryd.pinned : Pinned := { name := "ytckjcighblnnfaadoor", sum := "e3902f7a758e02dd81c24d50062b6ad5535f0e94bf52f96601f6a301701222e0", checked := Tryd.checked }
namespace Rows
def none {H : Type} : Left H := { results := [], args := [] }

/- WHAT THE LISTED PACKAGE-LEVEL VARIABLES READ AS WHEN THE CALL BEGINS. Each datum BY PROGRAM (the guide's laid-datum.mjs) off the statement by which the dump's own 'gosem.cut.vars' lays the variable. In a bare row this is a premise. The card (YtckjcighblnnfaaDoorCards.lean) ties it to the program's text. -/
def laid_unicode_utf8_acceptRanges {H : Type} : DataW H := .agg [.agg [.lit (.int .u8 128), .lit (.int .u8 191)], .agg [.lit (.int .u8 160), .lit (.int .u8 191)], .agg [.lit (.int .u8 128), .lit (.int .u8 159)], .agg [.lit (.int .u8 144), .lit (.int .u8 191)], .agg [.lit (.int .u8 128), .lit (.int .u8 143)], .agg [.lit (.int .u8 0), .lit (.int .u8 0)], .agg [.lit (.int .u8 0), .lit (.int .u8 0)], .agg [.lit (.int .u8 0), .lit (.int .u8 0)], .agg [.lit (.int .u8 0), .lit (.int .u8 0)], .agg [.lit (.int .u8 0), .lit (.int .u8 0)], .agg [.lit (.int .u8 0), .lit (.int .u8 0)], .agg [.lit (.int .u8 0), .lit (.int .u8 0)], .agg [.lit (.int .u8 0), .lit (.int .u8 0)], .agg [.lit (.int .u8 0), .lit (.int .u8 0)], .agg [.lit (.int .u8 0), .lit (.int .u8 0)], .agg [.lit (.int .u8 0), .lit (.int .u8 0)]]
/-- One of Go's own tables, pinned by name: the form's constant. -/
def laid_unicode_utf8_first : DataW Unit := Go.Pinned.utf8First
def laid_math_bits_deBruijn64tab {H : Type} : DataW H := .agg [.lit (.int .u8 0), .lit (.int .u8 1), .lit (.int .u8 56), .lit (.int .u8 2), .lit (.int .u8 57), .lit (.int .u8 49), .lit (.int .u8 28), .lit (.int .u8 3), .lit (.int .u8 61), .lit (.int .u8 58), .lit (.int .u8 42), .lit (.int .u8 50), .lit (.int .u8 38), .lit (.int .u8 29), .lit (.int .u8 17), .lit (.int .u8 4), .lit (.int .u8 62), .lit (.int .u8 47), .lit (.int .u8 59), .lit (.int .u8 36), .lit (.int .u8 45), .lit (.int .u8 43), .lit (.int .u8 51), .lit (.int .u8 22), .lit (.int .u8 53), .lit (.int .u8 39), .lit (.int .u8 33), .lit (.int .u8 30), .lit (.int .u8 24), .lit (.int .u8 18), .lit (.int .u8 12), .lit (.int .u8 5), .lit (.int .u8 63), .lit (.int .u8 55), .lit (.int .u8 48), .lit (.int .u8 27), .lit (.int .u8 60), .lit (.int .u8 41), .lit (.int .u8 37), .lit (.int .u8 16), .lit (.int .u8 46), .lit (.int .u8 35), .lit (.int .u8 44), .lit (.int .u8 21), .lit (.int .u8 52), .lit (.int .u8 32), .lit (.int .u8 23), .lit (.int .u8 11), .lit (.int .u8 54), .lit (.int .u8 26), .lit (.int .u8 40), .lit (.int .u8 15), .lit (.int .u8 34), .lit (.int .u8 20), .lit (.int .u8 31), .lit (.int .u8 10), .lit (.int .u8 25), .lit (.int .u8 14), .lit (.int .u8 19), .lit (.int .u8 9), .lit (.int .u8 13), .lit (.int .u8 8), .lit (.int .u8 7), .lit (.int .u8 6)]

/-- 'laws.FnExactBlockDeinterleave': WHATEVER THE INPUT: true; the input reads as it did. -/
def fnExactBlockDeinterleaveSpec : ChangeSpec := { name := "fnExactBlockDeinterleave", fn := fun _ => fun
  | [d1, d2, d3] => { results := [.lit (.bool true)], args := [d1, d2, d3] }
  | _ => none }
def fnExactBlockDeinterleaveRow : OpenClaim := { program := "ytckjcighblnnfaadoor", sum := "e3902f7a758e02dd81c24d50062b6ad5535f0e94bf52f96601f6a301701222e0", func := "loop.example/g01142/laws.FnExactBlockDeinterleave", spec := "fnExactBlockDeinterleave", inPlace := ["internal/bytealg.IndexByteString", "internal/bytealg.IndexString"], named := ["unicode/utf8.first", "unicode/utf8.acceptRanges", "internal/bytealg.MaxLen"], apart := false, laid := [("unicode/utf8.acceptRanges", laid_unicode_utf8_acceptRanges), ("unicode/utf8.first", laid_unicode_utf8_first)] }
def FnExactBlockDeinterleaveSaid : Prop := fnExactBlockDeinterleaveRow.holds Tryd.pinned (OpenSpec.ofChange fnExactBlockDeinterleaveSpec)

/-- ITS FALSE NEIGHBOUR: 'it returns false'. Refute it at one input. -/
def fnExactBlockDeinterleaveWrong : ChangeSpec := { name := "fnExactBlockDeinterleave", fn := fun _ => fun
  | [d1, d2, d3] => { results := [.lit (.bool false)], args := [d1, d2, d3] }
  | _ => none }
def FnExactBlockDeinterleaveWrongFalsely : Prop := fnExactBlockDeinterleaveRow.holds Tryd.pinned (OpenSpec.ofChange fnExactBlockDeinterleaveWrong)

/-- 'laws.FnInterleaved': WHATEVER THE INPUT: true; the input reads as it did. -/
def fnInterleavedSpec : ChangeSpec := { name := "fnInterleaved", fn := fun _ => fun
  | [d1, d2] => { results := [.lit (.bool true)], args := [d1, d2] }
  | _ => none }
def fnInterleavedRow : OpenClaim := { program := "ytckjcighblnnfaadoor", sum := "e3902f7a758e02dd81c24d50062b6ad5535f0e94bf52f96601f6a301701222e0", func := "loop.example/g01142/laws.FnInterleaved", spec := "fnInterleaved", inPlace := ["internal/bytealg.IndexByteString", "internal/bytealg.IndexString"], named := ["unicode/utf8.first", "unicode/utf8.acceptRanges", "internal/bytealg.MaxLen"], apart := false, laid := [("unicode/utf8.acceptRanges", laid_unicode_utf8_acceptRanges), ("unicode/utf8.first", laid_unicode_utf8_first)] }
def FnInterleavedSaid : Prop := fnInterleavedRow.holds Tryd.pinned (OpenSpec.ofChange fnInterleavedSpec)

/-- ITS FALSE NEIGHBOUR: 'it returns false'. Refute it at one input. -/
def fnInterleavedWrong : ChangeSpec := { name := "fnInterleaved", fn := fun _ => fun
  | [d1, d2] => { results := [.lit (.bool false)], args := [d1, d2] }
  | _ => none }
def FnInterleavedWrongFalsely : Prop := fnInterleavedRow.holds Tryd.pinned (OpenSpec.ofChange fnInterleavedWrong)

/-- 'laws.FnExactSlideDeinterleave': WHATEVER THE INPUT: true; the input reads as it did. -/
def fnExactSlideDeinterleaveSpec : ChangeSpec := { name := "fnExactSlideDeinterleave", fn := fun _ => fun
  | [d1, d2, d3] => { results := [.lit (.bool true)], args := [d1, d2, d3] }
  | _ => none }
def fnExactSlideDeinterleaveRow : OpenClaim := { program := "ytckjcighblnnfaadoor", sum := "e3902f7a758e02dd81c24d50062b6ad5535f0e94bf52f96601f6a301701222e0", func := "loop.example/g01142/laws.FnExactSlideDeinterleave", spec := "fnExactSlideDeinterleave", inPlace := ["internal/bytealg.IndexByteString", "internal/bytealg.IndexString"], unfollowed := true, recurses := true, named := ["unicode/utf8.first", "unicode/utf8.acceptRanges", "internal/bytealg.MaxLen"], apart := false, laid := [("unicode/utf8.acceptRanges", laid_unicode_utf8_acceptRanges), ("unicode/utf8.first", laid_unicode_utf8_first)] }
def FnExactSlideDeinterleaveSaid : Prop := fnExactSlideDeinterleaveRow.holds Tryd.pinned (OpenSpec.ofChange fnExactSlideDeinterleaveSpec)

/-- ITS FALSE NEIGHBOUR: 'it returns false'. Refute it at one input. -/
def fnExactSlideDeinterleaveWrong : ChangeSpec := { name := "fnExactSlideDeinterleave", fn := fun _ => fun
  | [d1, d2, d3] => { results := [.lit (.bool false)], args := [d1, d2, d3] }
  | _ => none }
def FnExactSlideDeinterleaveWrongFalsely : Prop := fnExactSlideDeinterleaveRow.holds Tryd.pinned (OpenSpec.ofChange fnExactSlideDeinterleaveWrong)

/-- 'laws.FnExactSlideInterleave': WHATEVER THE INPUT: true; the input reads as it did. -/
def fnExactSlideInterleaveSpec : ChangeSpec := { name := "fnExactSlideInterleave", fn := fun _ => fun
  | [d1, d2, d3] => { results := [.lit (.bool true)], args := [d1, d2, d3] }
  | _ => none }
def fnExactSlideInterleaveRow : OpenClaim := { program := "ytckjcighblnnfaadoor", sum := "e3902f7a758e02dd81c24d50062b6ad5535f0e94bf52f96601f6a301701222e0", func := "loop.example/g01142/laws.FnExactSlideInterleave", spec := "fnExactSlideInterleave", inPlace := ["internal/bytealg.IndexByteString", "internal/bytealg.IndexString"], unfollowed := true, recurses := true, named := ["unicode/utf8.first", "unicode/utf8.acceptRanges", "internal/bytealg.MaxLen"], apart := false, laid := [("unicode/utf8.acceptRanges", laid_unicode_utf8_acceptRanges), ("unicode/utf8.first", laid_unicode_utf8_first)] }
def FnExactSlideInterleaveSaid : Prop := fnExactSlideInterleaveRow.holds Tryd.pinned (OpenSpec.ofChange fnExactSlideInterleaveSpec)

/-- ITS FALSE NEIGHBOUR: 'it returns false'. Refute it at one input. -/
def fnExactSlideInterleaveWrong : ChangeSpec := { name := "fnExactSlideInterleave", fn := fun _ => fun
  | [d1, d2, d3] => { results := [.lit (.bool false)], args := [d1, d2, d3] }
  | _ => none }
def FnExactSlideInterleaveWrongFalsely : Prop := fnExactSlideInterleaveRow.holds Tryd.pinned (OpenSpec.ofChange fnExactSlideInterleaveWrong)

/-- 'laws.FnExactHasCheck': WHATEVER THE INPUT: true; the input reads as it did. -/
def fnExactHasCheckSpec : ChangeSpec := { name := "fnExactHasCheck", fn := fun _ => fun
  | [d1, d2] => { results := [.lit (.bool true)], args := [d1, d2] }
  | _ => none }
def fnExactHasCheckRow : OpenClaim := { program := "ytckjcighblnnfaadoor", sum := "e3902f7a758e02dd81c24d50062b6ad5535f0e94bf52f96601f6a301701222e0", func := "loop.example/g01142/laws.FnExactHasCheck", spec := "fnExactHasCheck", inPlace := ["internal/bytealg.IndexByteString", "internal/bytealg.IndexString"], named := ["unicode/utf8.first", "unicode/utf8.acceptRanges", "internal/bytealg.MaxLen"], apart := false, laid := [("unicode/utf8.acceptRanges", laid_unicode_utf8_acceptRanges), ("unicode/utf8.first", laid_unicode_utf8_first)] }
def FnExactHasCheckSaid : Prop := fnExactHasCheckRow.holds Tryd.pinned (OpenSpec.ofChange fnExactHasCheckSpec)

/-- ITS FALSE NEIGHBOUR: 'it returns false'. Refute it at one input. -/
def fnExactHasCheckWrong : ChangeSpec := { name := "fnExactHasCheck", fn := fun _ => fun
  | [d1, d2] => { results := [.lit (.bool false)], args := [d1, d2] }
  | _ => none }
def FnExactHasCheckWrongFalsely : Prop := fnExactHasCheckRow.holds Tryd.pinned (OpenSpec.ofChange fnExactHasCheckWrong)

/-- 'laws.FnSlid': WHATEVER THE INPUT: true; the input reads as it did. -/
def fnSlidSpec : ChangeSpec := { name := "fnSlid", fn := fun _ => fun
  | [d1, d2] => { results := [.lit (.bool true)], args := [d1, d2] }
  | _ => none }
def fnSlidRow : OpenClaim := { program := "ytckjcighblnnfaadoor", sum := "e3902f7a758e02dd81c24d50062b6ad5535f0e94bf52f96601f6a301701222e0", func := "loop.example/g01142/laws.FnSlid", spec := "fnSlid", inPlace := ["internal/bytealg.IndexByteString", "internal/bytealg.IndexString"], unfollowed := true, recurses := true, named := ["unicode/utf8.first", "unicode/utf8.acceptRanges", "internal/bytealg.MaxLen"], apart := false, laid := [("unicode/utf8.acceptRanges", laid_unicode_utf8_acceptRanges), ("unicode/utf8.first", laid_unicode_utf8_first)] }
def FnSlidSaid : Prop := fnSlidRow.holds Tryd.pinned (OpenSpec.ofChange fnSlidSpec)

/-- ITS FALSE NEIGHBOUR: 'it returns false'. Refute it at one input. -/
def fnSlidWrong : ChangeSpec := { name := "fnSlid", fn := fun _ => fun
  | [d1, d2] => { results := [.lit (.bool false)], args := [d1, d2] }
  | _ => none }
def FnSlidWrongFalsely : Prop := fnSlidRow.holds Tryd.pinned (OpenSpec.ofChange fnSlidWrong)

/-- 'laws.FnMissed': WHATEVER THE INPUT: true; the input reads as it did. -/
def fnMissedSpec : ChangeSpec := { name := "fnMissed", fn := fun _ => fun
  | [d1, d2] => { results := [.lit (.bool true)], args := [d1, d2] }
  | _ => none }
def fnMissedRow : OpenClaim := { program := "ytckjcighblnnfaadoor", sum := "e3902f7a758e02dd81c24d50062b6ad5535f0e94bf52f96601f6a301701222e0", func := "loop.example/g01142/laws.FnMissed", spec := "fnMissed", inPlace := ["internal/bytealg.IndexByteString", "internal/bytealg.IndexString"], recurses := true, named := ["unicode/utf8.first", "unicode/utf8.acceptRanges", "internal/bytealg.MaxLen"], apart := false, laid := [("unicode/utf8.acceptRanges", laid_unicode_utf8_acceptRanges), ("unicode/utf8.first", laid_unicode_utf8_first)] }
def FnMissedSaid : Prop := fnMissedRow.holds Tryd.pinned (OpenSpec.ofChange fnMissedSpec)

/-- ITS FALSE NEIGHBOUR: 'it returns false'. Refute it at one input. -/
def fnMissedWrong : ChangeSpec := { name := "fnMissed", fn := fun _ => fun
  | [d1, d2] => { results := [.lit (.bool false)], args := [d1, d2] }
  | _ => none }
def FnMissedWrongFalsely : Prop := fnMissedRow.holds Tryd.pinned (OpenSpec.ofChange fnMissedWrong)

/-- 'laws.FnExactValidConsole': WHATEVER THE INPUT: true; the input reads as it did. -/
def fnExactValidConsoleSpec : ChangeSpec := { name := "fnExactValidConsole", fn := fun _ => fun
  | [d] => { results := [.lit (.bool true)], args := [d] }
  | _ => none }
def fnExactValidConsoleRow : OpenClaim := { program := "ytckjcighblnnfaadoor", sum := "e3902f7a758e02dd81c24d50062b6ad5535f0e94bf52f96601f6a301701222e0", func := "loop.example/g01142/laws.FnExactValidConsole", spec := "fnExactValidConsole", inPlace := ["internal/bytealg.IndexByteString", "internal/bytealg.IndexString"], named := ["unicode/utf8.first", "unicode/utf8.acceptRanges", "internal/bytealg.MaxLen"], apart := false, laid := [("unicode/utf8.acceptRanges", laid_unicode_utf8_acceptRanges), ("unicode/utf8.first", laid_unicode_utf8_first)] }
def FnExactValidConsoleSaid : Prop := fnExactValidConsoleRow.holds Tryd.pinned (OpenSpec.ofChange fnExactValidConsoleSpec)

/-- ITS FALSE NEIGHBOUR: 'it returns false'. Refute it at one input. -/
def fnExactValidConsoleWrong : ChangeSpec := { name := "fnExactValidConsole", fn := fun _ => fun
  | [d] => { results := [.lit (.bool false)], args := [d] }
  | _ => none }
def FnExactValidConsoleWrongFalsely : Prop := fnExactValidConsoleRow.holds Tryd.pinned (OpenSpec.ofChange fnExactValidConsoleWrong)

/-- 'laws.FnBursts': WHATEVER THE INPUT: true; the input reads as it did. -/
def fnBurstsSpec : ChangeSpec := { name := "fnBursts", fn := fun _ => fun
  | [d1, d2] => { results := [.lit (.bool true)], args := [d1, d2] }
  | _ => none }
def fnBurstsRow : OpenClaim := { program := "ytckjcighblnnfaadoor", sum := "e3902f7a758e02dd81c24d50062b6ad5535f0e94bf52f96601f6a301701222e0", func := "loop.example/g01142/laws.FnBursts", spec := "fnBursts", inPlace := ["internal/bytealg.IndexByteString", "internal/bytealg.IndexString"], named := ["math/bits.deBruijn64tab", "unicode/utf8.first", "unicode/utf8.acceptRanges", "internal/bytealg.MaxLen"], apart := false, laid := [("math/bits.deBruijn64tab", laid_math_bits_deBruijn64tab), ("unicode/utf8.acceptRanges", laid_unicode_utf8_acceptRanges), ("unicode/utf8.first", laid_unicode_utf8_first)] }
def FnBurstsSaid : Prop := fnBurstsRow.holds Tryd.pinned (OpenSpec.ofChange fnBurstsSpec)

/-- ITS FALSE NEIGHBOUR: 'it returns false'. Refute it at one input. -/
def fnBurstsWrong : ChangeSpec := { name := "fnBursts", fn := fun _ => fun
  | [d1, d2] => { results := [.lit (.bool false)], args := [d1, d2] }
  | _ => none }
def FnBurstsWrongFalsely : Prop := fnBurstsRow.holds Tryd.pinned (OpenSpec.ofChange fnBurstsWrong)

/-- 'laws.FnExactAddCheck': WHATEVER THE INPUT: true; the input reads as it did. -/
def fnExactAddCheckSpec : ChangeSpec := { name := "fnExactAddCheck", fn := fun _ => fun
  | [d1, d2] => { results := [.lit (.bool true)], args := [d1, d2] }
  | _ => none }
def fnExactAddCheckRow : OpenClaim := { program := "ytckjcighblnnfaadoor", sum := "e3902f7a758e02dd81c24d50062b6ad5535f0e94bf52f96601f6a301701222e0", func := "loop.example/g01142/laws.FnExactAddCheck", spec := "fnExactAddCheck", inPlace := ["internal/bytealg.IndexByteString", "internal/bytealg.IndexString"], named := ["unicode/utf8.first", "unicode/utf8.acceptRanges", "internal/bytealg.MaxLen"], apart := false, laid := [("unicode/utf8.acceptRanges", laid_unicode_utf8_acceptRanges), ("unicode/utf8.first", laid_unicode_utf8_first)] }
def FnExactAddCheckSaid : Prop := fnExactAddCheckRow.holds Tryd.pinned (OpenSpec.ofChange fnExactAddCheckSpec)

/-- ITS FALSE NEIGHBOUR: 'it returns false'. Refute it at one input. -/
def fnExactAddCheckWrong : ChangeSpec := { name := "fnExactAddCheck", fn := fun _ => fun
  | [d1, d2] => { results := [.lit (.bool false)], args := [d1, d2] }
  | _ => none }
def FnExactAddCheckWrongFalsely : Prop := fnExactAddCheckRow.holds Tryd.pinned (OpenSpec.ofChange fnExactAddCheckWrong)

/-- 'laws.FnExactCheckBits': WHATEVER THE INPUT: true; the input reads as it did. -/
def fnExactCheckBitsSpec : ChangeSpec := { name := "fnExactCheckBits", fn := fun _ => fun
  | [d1, d2] => { results := [.lit (.bool true)], args := [d1, d2] }
  | _ => none }
def fnExactCheckBitsRow : OpenClaim := { program := "ytckjcighblnnfaadoor", sum := "e3902f7a758e02dd81c24d50062b6ad5535f0e94bf52f96601f6a301701222e0", func := "loop.example/g01142/laws.FnExactCheckBits", spec := "fnExactCheckBits", inPlace := ["internal/bytealg.IndexByteString", "internal/bytealg.IndexString"], named := ["unicode/utf8.first", "unicode/utf8.acceptRanges", "internal/bytealg.MaxLen"], apart := false, laid := [("unicode/utf8.acceptRanges", laid_unicode_utf8_acceptRanges), ("unicode/utf8.first", laid_unicode_utf8_first)] }
def FnExactCheckBitsSaid : Prop := fnExactCheckBitsRow.holds Tryd.pinned (OpenSpec.ofChange fnExactCheckBitsSpec)

/-- ITS FALSE NEIGHBOUR: 'it returns false'. Refute it at one input. -/
def fnExactCheckBitsWrong : ChangeSpec := { name := "fnExactCheckBits", fn := fun _ => fun
  | [d1, d2] => { results := [.lit (.bool false)], args := [d1, d2] }
  | _ => none }
def FnExactCheckBitsWrongFalsely : Prop := fnExactCheckBitsRow.holds Tryd.pinned (OpenSpec.ofChange fnExactCheckBitsWrong)

/-- 'laws.FnFlats': WHATEVER THE INPUT: true; the input reads as it did. -/
def fnFlatsSpec : ChangeSpec := { name := "fnFlats", fn := fun _ => fun
  | [d1, d2] => { results := [.lit (.bool true)], args := [d1, d2] }
  | _ => none }
def fnFlatsRow : OpenClaim := { program := "ytckjcighblnnfaadoor", sum := "e3902f7a758e02dd81c24d50062b6ad5535f0e94bf52f96601f6a301701222e0", func := "loop.example/g01142/laws.FnFlats", spec := "fnFlats", inPlace := ["internal/bytealg.IndexByteString", "internal/bytealg.IndexString"], named := ["unicode/utf8.first", "unicode/utf8.acceptRanges", "internal/bytealg.MaxLen"], apart := false, laid := [("unicode/utf8.acceptRanges", laid_unicode_utf8_acceptRanges), ("unicode/utf8.first", laid_unicode_utf8_first)] }
def FnFlatsSaid : Prop := fnFlatsRow.holds Tryd.pinned (OpenSpec.ofChange fnFlatsSpec)

/-- ITS FALSE NEIGHBOUR: 'it returns false'. Refute it at one input. -/
def fnFlatsWrong : ChangeSpec := { name := "fnFlats", fn := fun _ => fun
  | [d1, d2] => { results := [.lit (.bool false)], args := [d1, d2] }
  | _ => none }
def FnFlatsWrongFalsely : Prop := fnFlatsRow.holds Tryd.pinned (OpenSpec.ofChange fnFlatsWrong)

/- THE SECOND FORM. 'bulk': how many values and letters a reading holds, each counted each time it is reached (what is shared counts as often as it is met; a slice's spare places count too). A statement '..UptoSaid' is the law's where the arguments, and the package variables that the reading takes, are together of bulk at most 1048576: NARROWER than '..Said'. Prove '..Said' where nothing that the law and all that it calls make is longer than what came in: it says more and counts as full. Else prove '..UptoSaid'. A law counts once. -/
mutual
def uptoBulk {H : Type} : DataW H → Nat
  | .lit (.string bytes) => bytes.length + 1
  | .lit _ => 1
  | .nil => 1
  | .ptr d => uptoBulk d + 1
  | .slice elems spare => uptoBulkAll elems + uptoBulkAll spare + 1
  | .agg parts => uptoBulkAll parts + 1
  | .iface _ d => uptoBulk d + 1
  | .map entries => uptoBulkEntries entries + 1
  | .held _ => 1
def uptoBulkAll {H : Type} : List (DataW H) → Nat
  | [] => 0
  | d :: r => uptoBulk d + uptoBulkAll r
def uptoBulkEntries {H : Type} : List (Lit × DataW H) → Nat
  | [] => 0
  | x :: r => uptoBulkEntry x + uptoBulkEntries r
def uptoBulkEntry {H : Type} : Lit × DataW H → Nat
  | (.string bytes, d) => bytes.length + uptoBulk d + 1
  | (_, d) => uptoBulk d + 1
 end
def uptoSmall : (H : Type) → List (DataW H) → Bool := fun _ ds => decide (uptoBulkAll ds ≤ 1048576)
def OpenSpec.upto (s : _root_.Go.ChangeSpec) : _root_.Go.OpenSpec := { _root_.Go.OpenSpec.ofChange s with cond := some uptoSmall }

/-- 'laws.FnExactBlockDeinterleave', WHERE WHAT IT READS IS OF BULK AT MOST 1048576: true; the input reads as it did. -/
def fnExactBlockDeinterleaveUptoRow : OpenClaim := { program := "ytckjcighblnnfaadoor", sum := "e3902f7a758e02dd81c24d50062b6ad5535f0e94bf52f96601f6a301701222e0", func := "loop.example/g01142/laws.FnExactBlockDeinterleave", spec := "fnExactBlockDeinterleave", inPlace := ["internal/bytealg.IndexByteString", "internal/bytealg.IndexString"], named := ["unicode/utf8.first", "unicode/utf8.acceptRanges", "internal/bytealg.MaxLen"], apart := false, laid := [("unicode/utf8.acceptRanges", laid_unicode_utf8_acceptRanges), ("unicode/utf8.first", laid_unicode_utf8_first)], narrowed := true }
def FnExactBlockDeinterleaveUptoSaid : Prop := fnExactBlockDeinterleaveUptoRow.holds Tryd.pinned (OpenSpec.upto fnExactBlockDeinterleaveSpec)

/-- 'laws.FnInterleaved', WHERE WHAT IT READS IS OF BULK AT MOST 1048576: true; the input reads as it did. -/
def fnInterleavedUptoRow : OpenClaim := { program := "ytckjcighblnnfaadoor", sum := "e3902f7a758e02dd81c24d50062b6ad5535f0e94bf52f96601f6a301701222e0", func := "loop.example/g01142/laws.FnInterleaved", spec := "fnInterleaved", inPlace := ["internal/bytealg.IndexByteString", "internal/bytealg.IndexString"], named := ["unicode/utf8.first", "unicode/utf8.acceptRanges", "internal/bytealg.MaxLen"], apart := false, laid := [("unicode/utf8.acceptRanges", laid_unicode_utf8_acceptRanges), ("unicode/utf8.first", laid_unicode_utf8_first)], narrowed := true }
def FnInterleavedUptoSaid : Prop := fnInterleavedUptoRow.holds Tryd.pinned (OpenSpec.upto fnInterleavedSpec)

/-- 'laws.FnExactSlideDeinterleave', WHERE WHAT IT READS IS OF BULK AT MOST 1048576: true; the input reads as it did. -/
def fnExactSlideDeinterleaveUptoRow : OpenClaim := { program := "ytckjcighblnnfaadoor", sum := "e3902f7a758e02dd81c24d50062b6ad5535f0e94bf52f96601f6a301701222e0", func := "loop.example/g01142/laws.FnExactSlideDeinterleave", spec := "fnExactSlideDeinterleave", inPlace := ["internal/bytealg.IndexByteString", "internal/bytealg.IndexString"], unfollowed := true, recurses := true, named := ["unicode/utf8.first", "unicode/utf8.acceptRanges", "internal/bytealg.MaxLen"], apart := false, laid := [("unicode/utf8.acceptRanges", laid_unicode_utf8_acceptRanges), ("unicode/utf8.first", laid_unicode_utf8_first)], narrowed := true }
def FnExactSlideDeinterleaveUptoSaid : Prop := fnExactSlideDeinterleaveUptoRow.holds Tryd.pinned (OpenSpec.upto fnExactSlideDeinterleaveSpec)

/-- 'laws.FnExactSlideInterleave', WHERE WHAT IT READS IS OF BULK AT MOST 1048576: true; the input reads as it did. -/
def fnExactSlideInterleaveUptoRow : OpenClaim := { program := "ytckjcighblnnfaadoor", sum := "e3902f7a758e02dd81c24d50062b6ad5535f0e94bf52f96601f6a301701222e0", func := "loop.example/g01142/laws.FnExactSlideInterleave", spec := "fnExactSlideInterleave", inPlace := ["internal/bytealg.IndexByteString", "internal/bytealg.IndexString"], unfollowed := true, recurses := true, named := ["unicode/utf8.first", "unicode/utf8.acceptRanges", "internal/bytealg.MaxLen"], apart := false, laid := [("unicode/utf8.acceptRanges", laid_unicode_utf8_acceptRanges), ("unicode/utf8.first", laid_unicode_utf8_first)], narrowed := true }
def FnExactSlideInterleaveUptoSaid : Prop := fnExactSlideInterleaveUptoRow.holds Tryd.pinned (OpenSpec.upto fnExactSlideInterleaveSpec)

/-- 'laws.FnExactHasCheck', WHERE WHAT IT READS IS OF BULK AT MOST 1048576: true; the input reads as it did. -/
def fnExactHasCheckUptoRow : OpenClaim := { program := "ytckjcighblnnfaadoor", sum := "e3902f7a758e02dd81c24d50062b6ad5535f0e94bf52f96601f6a301701222e0", func := "loop.example/g01142/laws.FnExactHasCheck", spec := "fnExactHasCheck", inPlace := ["internal/bytealg.IndexByteString", "internal/bytealg.IndexString"], named := ["unicode/utf8.first", "unicode/utf8.acceptRanges", "internal/bytealg.MaxLen"], apart := false, laid := [("unicode/utf8.acceptRanges", laid_unicode_utf8_acceptRanges), ("unicode/utf8.first", laid_unicode_utf8_first)], narrowed := true }
def FnExactHasCheckUptoSaid : Prop := fnExactHasCheckUptoRow.holds Tryd.pinned (OpenSpec.upto fnExactHasCheckSpec)

/-- 'laws.FnSlid', WHERE WHAT IT READS IS OF BULK AT MOST 1048576: true; the input reads as it did. -/
def fnSlidUptoRow : OpenClaim := { program := "ytckjcighblnnfaadoor", sum := "e3902f7a758e02dd81c24d50062b6ad5535f0e94bf52f96601f6a301701222e0", func := "loop.example/g01142/laws.FnSlid", spec := "fnSlid", inPlace := ["internal/bytealg.IndexByteString", "internal/bytealg.IndexString"], unfollowed := true, recurses := true, named := ["unicode/utf8.first", "unicode/utf8.acceptRanges", "internal/bytealg.MaxLen"], apart := false, laid := [("unicode/utf8.acceptRanges", laid_unicode_utf8_acceptRanges), ("unicode/utf8.first", laid_unicode_utf8_first)], narrowed := true }
def FnSlidUptoSaid : Prop := fnSlidUptoRow.holds Tryd.pinned (OpenSpec.upto fnSlidSpec)

/-- 'laws.FnMissed', WHERE WHAT IT READS IS OF BULK AT MOST 1048576: true; the input reads as it did. -/
def fnMissedUptoRow : OpenClaim := { program := "ytckjcighblnnfaadoor", sum := "e3902f7a758e02dd81c24d50062b6ad5535f0e94bf52f96601f6a301701222e0", func := "loop.example/g01142/laws.FnMissed", spec := "fnMissed", inPlace := ["internal/bytealg.IndexByteString", "internal/bytealg.IndexString"], recurses := true, named := ["unicode/utf8.first", "unicode/utf8.acceptRanges", "internal/bytealg.MaxLen"], apart := false, laid := [("unicode/utf8.acceptRanges", laid_unicode_utf8_acceptRanges), ("unicode/utf8.first", laid_unicode_utf8_first)], narrowed := true }
def FnMissedUptoSaid : Prop := fnMissedUptoRow.holds Tryd.pinned (OpenSpec.upto fnMissedSpec)

/-- 'laws.FnExactValidConsole', WHERE WHAT IT READS IS OF BULK AT MOST 1048576: true; the input reads as it did. -/
def fnExactValidConsoleUptoRow : OpenClaim := { program := "ytckjcighblnnfaadoor", sum := "e3902f7a758e02dd81c24d50062b6ad5535f0e94bf52f96601f6a301701222e0", func := "loop.example/g01142/laws.FnExactValidConsole", spec := "fnExactValidConsole", inPlace := ["internal/bytealg.IndexByteString", "internal/bytealg.IndexString"], named := ["unicode/utf8.first", "unicode/utf8.acceptRanges", "internal/bytealg.MaxLen"], apart := false, laid := [("unicode/utf8.acceptRanges", laid_unicode_utf8_acceptRanges), ("unicode/utf8.first", laid_unicode_utf8_first)], narrowed := true }
def FnExactValidConsoleUptoSaid : Prop := fnExactValidConsoleUptoRow.holds Tryd.pinned (OpenSpec.upto fnExactValidConsoleSpec)

/-- 'laws.FnBursts', WHERE WHAT IT READS IS OF BULK AT MOST 1048576: true; the input reads as it did. -/
def fnBurstsUptoRow : OpenClaim := { program := "ytckjcighblnnfaadoor", sum := "e3902f7a758e02dd81c24d50062b6ad5535f0e94bf52f96601f6a301701222e0", func := "loop.example/g01142/laws.FnBursts", spec := "fnBursts", inPlace := ["internal/bytealg.IndexByteString", "internal/bytealg.IndexString"], named := ["math/bits.deBruijn64tab", "unicode/utf8.first", "unicode/utf8.acceptRanges", "internal/bytealg.MaxLen"], apart := false, laid := [("math/bits.deBruijn64tab", laid_math_bits_deBruijn64tab), ("unicode/utf8.acceptRanges", laid_unicode_utf8_acceptRanges), ("unicode/utf8.first", laid_unicode_utf8_first)], narrowed := true }
def FnBurstsUptoSaid : Prop := fnBurstsUptoRow.holds Tryd.pinned (OpenSpec.upto fnBurstsSpec)

/-- 'laws.FnExactAddCheck', WHERE WHAT IT READS IS OF BULK AT MOST 1048576: true; the input reads as it did. -/
def fnExactAddCheckUptoRow : OpenClaim := { program := "ytckjcighblnnfaadoor", sum := "e3902f7a758e02dd81c24d50062b6ad5535f0e94bf52f96601f6a301701222e0", func := "loop.example/g01142/laws.FnExactAddCheck", spec := "fnExactAddCheck", inPlace := ["internal/bytealg.IndexByteString", "internal/bytealg.IndexString"], named := ["unicode/utf8.first", "unicode/utf8.acceptRanges", "internal/bytealg.MaxLen"], apart := false, laid := [("unicode/utf8.acceptRanges", laid_unicode_utf8_acceptRanges), ("unicode/utf8.first", laid_unicode_utf8_first)], narrowed := true }
def FnExactAddCheckUptoSaid : Prop := fnExactAddCheckUptoRow.holds Tryd.pinned (OpenSpec.upto fnExactAddCheckSpec)

/-- 'laws.FnExactCheckBits', WHERE WHAT IT READS IS OF BULK AT MOST 1048576: true; the input reads as it did. -/
def fnExactCheckBitsUptoRow : OpenClaim := { program := "ytckjcighblnnfaadoor", sum := "e3902f7a758e02dd81c24d50062b6ad5535f0e94bf52f96601f6a301701222e0", func := "loop.example/g01142/laws.FnExactCheckBits", spec := "fnExactCheckBits", inPlace := ["internal/bytealg.IndexByteString", "internal/bytealg.IndexString"], named := ["unicode/utf8.first", "unicode/utf8.acceptRanges", "internal/bytealg.MaxLen"], apart := false, laid := [("unicode/utf8.acceptRanges", laid_unicode_utf8_acceptRanges), ("unicode/utf8.first", laid_unicode_utf8_first)], narrowed := true }
def FnExactCheckBitsUptoSaid : Prop := fnExactCheckBitsUptoRow.holds Tryd.pinned (OpenSpec.upto fnExactCheckBitsSpec)

/-- 'laws.FnFlats', WHERE WHAT IT READS IS OF BULK AT MOST 1048576: true; the input reads as it did. -/
def fnFlatsUptoRow : OpenClaim := { program := "ytckjcighblnnfaadoor", sum := "e3902f7a758e02dd81c24d50062b6ad5535f0e94bf52f96601f6a301701222e0", func := "loop.example/g01142/laws.FnFlats", spec := "fnFlats", inPlace := ["internal/bytealg.IndexByteString", "internal/bytealg.IndexString"], named := ["unicode/utf8.first", "unicode/utf8.acceptRanges", "internal/bytealg.MaxLen"], apart := false, laid := [("unicode/utf8.acceptRanges", laid_unicode_utf8_acceptRanges), ("unicode/utf8.first", laid_unicode_utf8_first)], narrowed := true }
def FnFlatsUptoSaid : Prop := fnFlatsUptoRow.holds Tryd.pinned (OpenSpec.upto fnFlatsSpec)

end Rows
end Go.Proofs.YtckjcighblnnfaaDoor
