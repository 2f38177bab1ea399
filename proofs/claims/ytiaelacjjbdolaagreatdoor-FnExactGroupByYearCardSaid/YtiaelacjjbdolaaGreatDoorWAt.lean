/- From the words that the kit's print lays; the lemmas that this claim does not name were taken out by a program of this session (wip/dead.py); no conditions. -/
import Derived.Test.YtiaelacjjbdolaaGreatDoorWFootNe
namespace Go.Proofs.YtiaelacjjbdolaaGreatDoorW.PrintWords
open Go.RowKit
section
variable {w w' u : World} {m B g : Nat} {o : Obj} {row : Option Nat} {S : Nat -> Prop} {a : Addr} {v : Value}
end
namespace Kd
section
variable {α : Type} {d : Kd α} {e base n m : Nat} {ok : Nat -> Prop} {w w' : World} {v : Value} {A : Option Addr} {xs : List α}
end
end Kd
end Go.Proofs.YtiaelacjjbdolaaGreatDoorW.PrintWords
