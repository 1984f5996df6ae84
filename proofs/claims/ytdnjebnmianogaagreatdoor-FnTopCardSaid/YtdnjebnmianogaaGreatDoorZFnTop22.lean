/- Made small by wip/pack.py: lemmas and contracts that the law's row leans on. -/
import Derived.Test.YtdnjebnmianogaaGreatDoorZFnTop1
import Derived.Laws.StructEq
namespace Go.Proofs.YtdnjebnmianogaaGreatDoorW.PrintWords
open Go.RowKit
end Go.Proofs.YtdnjebnmianogaaGreatDoorW.PrintWords
