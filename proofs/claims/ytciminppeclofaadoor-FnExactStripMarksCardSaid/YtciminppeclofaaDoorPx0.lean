/- That calls of Go functions come to what the Lean functions beside them say; written by a program of this session (wip/xprint) over the printed words; no conditions. -/
import Derived.Test.YtciminppeclofaaDoorProg
import Derived.Below
import Derived.Deep.Draws
import Derived.Deep.AppendLies
import Derived.Maps.AppendAt
import Derived.OwnWalk
import Derived.Laws.BytesArg
import Derived.Laws.MakeOwn
import Derived.Laws.OwnMore
import Derived.Deep.OwnRows
import Derived.Tactics
import Derived.Lib.ConvBytes
import Derived.Laws.Slices
import Derived.WalkKit
import Derived.KernelRfl
import Derived.RowKit3
import Derived.Deep.LoopGhost
import Derived.Deep.QuietTactic
import Derived.BigQuiet
import Derived.WideLaws
import Derived.Deep.DeepCutAuto
import Derived.Deep.CutBlock
import Derived.Deep.RegionHeld3
import Derived.Laws.Rows
import Derived.Lib.AppendStr
import Derived.ArgAppend
import Derived.Laws.IdiomCopy
import Derived.OrdersHeld
import Derived.Laws.BitsLemmas
import Derived.RowKit
import Derived.Lib.Strings
import Derived.Lib.Bytealg
import Derived.Test.YtciminppeclofaaDoorBuf
import Derived.Shelf.Strings.AsciiSet
import Derived.Test.YtciminppeclofaaDoorLay
import Derived.Test.YtciminppeclofaaDoorWWords
import Derived.Test.YtciminppeclofaaDoorWLast
import Derived.Test.YtciminppeclofaaDoorWTab
import Derived.Test.YtciminppeclofaaDoorWFour
import Derived.Test.YtciminppeclofaaDoorWQPut
import Derived.Test.YtciminppeclofaaDoorWApart
import Derived.Test.YtciminppeclofaaDoorWArr
import Derived.Test.YtciminppeclofaaDoorWZeros
import Derived.Test.YtciminppeclofaaDoorWFoot
import Derived.Test.YtciminppeclofaaDoorWKept
import Derived.Test.YtciminppeclofaaDoorWShare
import Derived.Test.YtciminppeclofaaDoorWN
import Derived.Test.YtciminppeclofaaDoorWFootNe
import Derived.Test.YtciminppeclofaaDoorWAt
import Derived.Test.YtciminppeclofaaDoorWEqStruct
import Derived.Test.YtciminppeclofaaDoorWRepsOne
import Derived.Test.YtciminppeclofaaDoorWInv
import Derived.Test.YtciminppeclofaaDoorWInvWords
import Derived.Test.YtciminppeclofaaDoorWGuard
import Derived.Test.YtciminppeclofaaDoorWNEv
import Derived.Test.YtciminppeclofaaDoorWMore
namespace Go.Proofs.YtciminppeclofaaDoor.Px
open Go.RowKit Go.Proofs.YtciminppeclofaaDoorW.PrintWords Go.Proofs.YtciminppeclofaaDoorW.PrintLast Go.Proofs.YtciminppeclofaaDoorW.PrintMore
attribute [local go_sem] max2_int min2_int max_two min_two max_three min_three max_four min_four   -- for this text's walks alone
set_option linter.unusedVariables false
set_option linter.unusedSimpArgs false



def errW : Option Int → Value
  | none => .nilIface
  | some c => .iface 0 (.int .i64 c)
theorem errW_none : errW none = .nilIface := rfl
theorem errW_some (c : Int) : errW (some c) = .iface 0 (.int .i64 c) := rfl

theorem info5 : (Tryd.prog.info? 5).map (fun i => (i.zero, i.size, i.bytes)) = some (some (.int .u8 0), 1, 1) := by kernel_rfl
theorem info9 : (Tryd.prog.info? 9).map (fun i => (i.zero, i.size, i.bytes)) = some (some (.string ⟨#[]⟩), 1, 16) := by kernel_rfl
def bA (n c : Nat) : Array Bool := ((List.range n).map fun i => c.testBit i).toArray
-- the values' own types


end Go.Proofs.YtciminppeclofaaDoor.Px
