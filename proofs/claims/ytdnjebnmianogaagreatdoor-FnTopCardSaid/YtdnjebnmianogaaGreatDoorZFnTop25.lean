/- Made small by wip/pack.py: lemmas and contracts that the law's row leans on. -/
import Derived.Test.YtdnjebnmianogaaGreatDoorZFnTop24
import Derived.Test.YtdnjebnmianogaaGreatDoorZFnTop20
namespace Go.Proofs.YtdnjebnmianogaaGreatDoorW.PrintWords
open Go.RowKit
end Go.Proofs.YtdnjebnmianogaaGreatDoorW.PrintWords
namespace Go.Proofs.YtdnjebnmianogaaGreatDoorW.PrintLast
end Go.Proofs.YtdnjebnmianogaaGreatDoorW.PrintLast
