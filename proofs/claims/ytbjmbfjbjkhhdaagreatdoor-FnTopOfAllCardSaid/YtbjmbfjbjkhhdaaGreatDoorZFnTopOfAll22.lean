/- Made small by wip/pack.py: lemmas and contracts that the law's row leans on. -/
import Derived.Test.YtbjmbfjbjkhhdaaGreatDoorZFnTopOfAll1
import Derived.Laws.StructEq
namespace Go.Proofs.YtbjmbfjbjkhhdaaGreatDoorW.PrintWords
open Go.RowKit
end Go.Proofs.YtbjmbfjbjkhhdaaGreatDoorW.PrintWords
