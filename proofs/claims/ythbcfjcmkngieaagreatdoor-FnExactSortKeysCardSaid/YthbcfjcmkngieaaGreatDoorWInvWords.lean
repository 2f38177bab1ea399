/- From the words that the kit's print lays; the lemmas that this claim does not name were taken out by a program of this session (wip/dead.py); no conditions. -/
import Derived.Test.YthbcfjcmkngieaaGreatDoorWInv
import Derived.Test.YthbcfjcmkngieaaGreatDoorWFootNe
namespace Go.Proofs.YthbcfjcmkngieaaGreatDoorW.PrintWords
open Go.RowKit
end Go.Proofs.YthbcfjcmkngieaaGreatDoorW.PrintWords
namespace Go.Proofs.YthbcfjcmkngieaaGreatDoorW.PrintLast
section
variable {ops : Array Oper} {a : Act} {o og : Oper} {g : Nat} {t : Tmp} {u : Bool}
end
end Go.Proofs.YthbcfjcmkngieaaGreatDoorW.PrintLast
