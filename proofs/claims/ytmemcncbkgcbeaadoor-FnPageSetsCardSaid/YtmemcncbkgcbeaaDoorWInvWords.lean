/- From the words that the kit's print lays; the lemmas that this claim does not name were taken out by a program of this session (wip/dead.py); no conditions. -/
import Derived.Test.YtmemcncbkgcbeaaDoorWInv
import Derived.Test.YtmemcncbkgcbeaaDoorWFootNe
namespace Go.Proofs.YtmemcncbkgcbeaaDoorW.PrintWords
open Go.RowKit
end Go.Proofs.YtmemcncbkgcbeaaDoorW.PrintWords
namespace Go.Proofs.YtmemcncbkgcbeaaDoorW.PrintLast
section
variable {ops : Array Oper} {a : Act} {o og : Oper} {g : Nat} {t : Tmp} {u : Bool}
end
end Go.Proofs.YtmemcncbkgcbeaaDoorW.PrintLast
