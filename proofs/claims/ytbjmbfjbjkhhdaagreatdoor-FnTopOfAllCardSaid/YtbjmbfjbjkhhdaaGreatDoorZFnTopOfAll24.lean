/- Made small by wip/pack.py: lemmas and contracts that the law's row leans on. -/
import Derived.Test.YtbjmbfjbjkhhdaaGreatDoorZFnTopOfAll18
namespace Go.Proofs.YtbjmbfjbjkhhdaaGreatDoorW.PrintLast
end Go.Proofs.YtbjmbfjbjkhhdaaGreatDoorW.PrintLast
