/- From the words that the kit's print lays; the lemmas that this claim does not name were taken out by a program of this session (wip/dead.py); no conditions. -/
import Derived.Test.YtgpgmamgicgacaaGreatDoorWInv
import Derived.Test.YtgpgmamgicgacaaGreatDoorWFootNe
namespace Go.Proofs.YtgpgmamgicgacaaGreatDoorW.PrintWords
open Go.RowKit
end Go.Proofs.YtgpgmamgicgacaaGreatDoorW.PrintWords
namespace Go.Proofs.YtgpgmamgicgacaaGreatDoorW.PrintLast
section
variable {ops : Array Oper} {a : Act} {o og : Oper} {g : Nat} {t : Tmp} {u : Bool}
end
end Go.Proofs.YtgpgmamgicgacaaGreatDoorW.PrintLast
