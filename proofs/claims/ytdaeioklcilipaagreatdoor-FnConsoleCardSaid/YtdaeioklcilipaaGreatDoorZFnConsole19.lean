/- Made small by wip/pack.py: lemmas and contracts that the law's row leans on. -/
import Derived.Test.YtdaeioklcilipaaGreatDoorZFnConsole18
namespace Go.Proofs.YtdaeioklcilipaaGreatDoorW.PrintLast
end Go.Proofs.YtdaeioklcilipaaGreatDoorW.PrintLast
