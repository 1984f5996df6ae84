/- Made small by wip/pack.py: lemmas and contracts that the law's row leans on. -/
import Derived.Test.YtbjmbfjbjkhhdaaGreatDoorZFnTopOfAll24
import Derived.Test.YtbjmbfjbjkhhdaaGreatDoorZFnTopOfAll20
namespace Go.Proofs.YtbjmbfjbjkhhdaaGreatDoorW.PrintWords
open Go.RowKit
end Go.Proofs.YtbjmbfjbjkhhdaaGreatDoorW.PrintWords
namespace Go.Proofs.YtbjmbfjbjkhhdaaGreatDoorW.PrintLast
end Go.Proofs.YtbjmbfjbjkhhdaaGreatDoorW.PrintLast
