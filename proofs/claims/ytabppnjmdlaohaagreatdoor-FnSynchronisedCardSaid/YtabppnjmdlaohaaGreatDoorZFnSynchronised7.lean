/- A text of this claim, made small by a program of this session (wip/pack.py): lemmas and contracts that the law's row leans on. -/
import Derived.Test.YtabppnjmdlaohaaGreatDoorZFnSynchronised6
namespace Go.Proofs.YtabppnjmdlaohaaGreatDoorW.PrintLast
end Go.Proofs.YtabppnjmdlaohaaGreatDoorW.PrintLast
