/- Made small by wip/pack.py: lemmas and contracts that the law's row leans on. -/
import Derived.Test.YtdaeioklcilipaaGreatDoorZFnConsole4
import Derived.Test.YtdaeioklcilipaaGreatDoorZFnConsole5
namespace Go.Proofs.YtdaeioklcilipaaGreatDoorW.PrintWords
open Go.RowKit
namespace Kd
end Kd
end Go.Proofs.YtdaeioklcilipaaGreatDoorW.PrintWords
