/- From the words that the kit's print lays; the lemmas that this claim does not name were taken out by a program of this session (wip/dead.py); no conditions. -/
import Derived.Test.YtbnagolaacejoaaGreatDoorWInv
import Derived.Test.YtbnagolaacejoaaGreatDoorWFootNe
namespace Go.Proofs.YtbnagolaacejoaaGreatDoorW.PrintWords
open Go.RowKit
end Go.Proofs.YtbnagolaacejoaaGreatDoorW.PrintWords
namespace Go.Proofs.YtbnagolaacejoaaGreatDoorW.PrintLast
section
variable {ops : Array Oper} {a : Act} {o og : Oper} {g : Nat} {t : Tmp} {u : Bool}
end
end Go.Proofs.YtbnagolaacejoaaGreatDoorW.PrintLast
