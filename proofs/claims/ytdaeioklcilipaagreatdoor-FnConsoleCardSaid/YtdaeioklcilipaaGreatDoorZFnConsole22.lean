/- Made small by wip/pack.py: lemmas and contracts that the law's row leans on. -/
import Derived.Test.YtdaeioklcilipaaGreatDoorZFnConsole1
import Derived.Laws.StructEq
namespace Go.Proofs.YtdaeioklcilipaaGreatDoorW.PrintWords
open Go.RowKit
end Go.Proofs.YtdaeioklcilipaaGreatDoorW.PrintWords
