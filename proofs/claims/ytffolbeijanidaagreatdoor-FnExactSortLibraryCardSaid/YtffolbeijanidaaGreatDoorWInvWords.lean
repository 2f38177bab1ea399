/- From the words that the kit's print lays; the lemmas that this claim does not name were taken out by a program of this session (wip/dead.py); no conditions. -/
import Derived.Test.YtffolbeijanidaaGreatDoorWInv
import Derived.Test.YtffolbeijanidaaGreatDoorWFootNe
namespace Go.Proofs.YtffolbeijanidaaGreatDoorW.PrintWords
open Go.RowKit
end Go.Proofs.YtffolbeijanidaaGreatDoorW.PrintWords
namespace Go.Proofs.YtffolbeijanidaaGreatDoorW.PrintLast
section
variable {ops : Array Oper} {a : Act} {o og : Oper} {g : Nat} {t : Tmp} {u : Bool}
end
end Go.Proofs.YtffolbeijanidaaGreatDoorW.PrintLast
