/- From the words that the kit's print lays; the lemmas that this claim does not name were taken out by a program of this session (wip/dead.py); no conditions. -/
import Derived.Test.YtiaelacjjbdolaaGreatDoorWInv
import Derived.Test.YtiaelacjjbdolaaGreatDoorWFootNe
namespace Go.Proofs.YtiaelacjjbdolaaGreatDoorW.PrintWords
open Go.RowKit
end Go.Proofs.YtiaelacjjbdolaaGreatDoorW.PrintWords
namespace Go.Proofs.YtiaelacjjbdolaaGreatDoorW.PrintLast
section
variable {ops : Array Oper} {a : Act} {o og : Oper} {g : Nat} {t : Tmp} {u : Bool}
end
end Go.Proofs.YtiaelacjjbdolaaGreatDoorW.PrintLast
