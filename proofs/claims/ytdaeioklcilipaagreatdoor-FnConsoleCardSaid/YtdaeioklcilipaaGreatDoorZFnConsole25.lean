/- Made small by wip/pack.py: lemmas and contracts that the law's row leans on. -/
import Derived.Test.YtdaeioklcilipaaGreatDoorZFnConsole24
import Derived.Test.YtdaeioklcilipaaGreatDoorZFnConsole20
namespace Go.Proofs.YtdaeioklcilipaaGreatDoorW.PrintWords
open Go.RowKit
end Go.Proofs.YtdaeioklcilipaaGreatDoorW.PrintWords
namespace Go.Proofs.YtdaeioklcilipaaGreatDoorW.PrintLast
end Go.Proofs.YtdaeioklcilipaaGreatDoorW.PrintLast
