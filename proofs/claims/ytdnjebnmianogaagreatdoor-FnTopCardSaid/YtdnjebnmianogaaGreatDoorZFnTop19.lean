/- Made small by wip/pack.py: lemmas and contracts that the law's row leans on. -/
import Derived.Test.YtdnjebnmianogaaGreatDoorZFnTop18
namespace Go.Proofs.YtdnjebnmianogaaGreatDoorW.PrintLast
end Go.Proofs.YtdnjebnmianogaaGreatDoorW.PrintLast
