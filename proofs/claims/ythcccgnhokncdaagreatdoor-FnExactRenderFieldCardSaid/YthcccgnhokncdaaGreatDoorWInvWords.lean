/- From the words that the kit's print lays; the lemmas that this claim does not name were taken out by a program of this session (wip/dead.py); no conditions. -/
import Derived.Test.YthcccgnhokncdaaGreatDoorWInv
import Derived.Test.YthcccgnhokncdaaGreatDoorWFootNe
namespace Go.Proofs.YthcccgnhokncdaaGreatDoorW.PrintWords
open Go.RowKit
end Go.Proofs.YthcccgnhokncdaaGreatDoorW.PrintWords
namespace Go.Proofs.YthcccgnhokncdaaGreatDoorW.PrintLast
section
variable {ops : Array Oper} {a : Act} {o og : Oper} {g : Nat} {t : Tmp} {u : Bool}
end
end Go.Proofs.YthcccgnhokncdaaGreatDoorW.PrintLast
