/- From the words that the kit's print lays; the lemmas that this claim does not name were taken out by a program of this session (wip/dead.py); no conditions. -/
import Derived.Test.YtiaelacjjbdolaaGreatDoorWWords
namespace Go.Proofs.YtiaelacjjbdolaaGreatDoorW.PrintWords
open Go.RowKit
namespace Kd
section
variable {α : Type} {n : Nat} {d : Kd α} {hs : 0 < d.sz} {w : World} {base : Nat} {ok : Nat -> Prop} {xs : List α} {cs : List Value}
end
section
variable {α : Type} {n : Nat} {enc : α -> Value} {h1 : ∀ x, (enc x).oneCell' = true} {hs : 0 < (eq enc h1).sz} {w : World} {base : Nat} {ok : Nat -> Prop} {xs : List α} {cs : List Value}
end
end Kd
end Go.Proofs.YtiaelacjjbdolaaGreatDoorW.PrintWords
