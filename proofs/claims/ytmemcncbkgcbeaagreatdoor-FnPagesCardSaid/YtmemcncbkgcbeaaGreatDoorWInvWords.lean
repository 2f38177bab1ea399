/- From the words that the kit's print lays; the lemmas that this claim does not name were taken out by a program of this session (wip/dead.py); no conditions. -/
import Derived.Test.YtmemcncbkgcbeaaGreatDoorWInv
import Derived.Test.YtmemcncbkgcbeaaGreatDoorWFootNe
namespace Go.Proofs.YtmemcncbkgcbeaaGreatDoorW.PrintWords
open Go.RowKit
end Go.Proofs.YtmemcncbkgcbeaaGreatDoorW.PrintWords
namespace Go.Proofs.YtmemcncbkgcbeaaGreatDoorW.PrintLast
section
variable {ops : Array Oper} {a : Act} {o og : Oper} {g : Nat} {t : Tmp} {u : Bool}
end
end Go.Proofs.YtmemcncbkgcbeaaGreatDoorW.PrintLast
