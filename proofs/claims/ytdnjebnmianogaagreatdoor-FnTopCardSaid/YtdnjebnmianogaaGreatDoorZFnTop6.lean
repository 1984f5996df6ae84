/- Made small by wip/pack.py: lemmas and contracts that the law's row leans on. -/
import Derived.Test.YtdnjebnmianogaaGreatDoorZFnTop4
import Derived.Test.YtdnjebnmianogaaGreatDoorZFnTop5
namespace Go.Proofs.YtdnjebnmianogaaGreatDoorW.PrintWords
open Go.RowKit
namespace Kd
end Kd
end Go.Proofs.YtdnjebnmianogaaGreatDoorW.PrintWords
