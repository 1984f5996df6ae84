/- Made small by wip/pack.py: lemmas and contracts that the law's row leans on. -/
import Derived.Test.YtbjmbfjbjkhhdaaGreatDoorZFnTopOfAll1
import Derived.Test.YtbjmbfjbjkhhdaaGreatDoorZFnTopOfAll2
namespace Go.Proofs.YtbjmbfjbjkhhdaaGreatDoorW.PrintWords
open Go.RowKit
namespace Kd
end Kd
end Go.Proofs.YtbjmbfjbjkhhdaaGreatDoorW.PrintWords
