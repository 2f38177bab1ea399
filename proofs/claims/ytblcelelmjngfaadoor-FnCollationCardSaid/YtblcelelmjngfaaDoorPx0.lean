/- That calls of Go functions come to what the Lean functions beside them say; written by a program of this session (wip/xprint) over the printed words; no conditions. -/
import Derived.Test.YtblcelelmjngfaaDoorProg
import Derived.Below
import Derived.Deep.Draws
import Derived.Deep.AppendLies
import Derived.Maps.AppendAt
import Derived.OwnWalk
import Derived.Laws.BytesArg
import Derived.Laws.MakeOwn
import Derived.Laws.OwnMore
import Derived.Deep.OwnRows
import Derived.Tactics
import Derived.Lib.ConvBytes
import Derived.Laws.Slices
import Derived.WalkKit
import Derived.KernelRfl
import Derived.RowKit3
import Derived.Deep.LoopGhost
import Derived.Deep.QuietTactic
import Derived.BigQuiet
import Derived.WideLaws
import Derived.Deep.DeepCutAuto
import Derived.Deep.CutBlock
import Derived.Deep.RegionHeld3
import Derived.Laws.Rows
import Derived.Lib.AppendStr
import Derived.ArgAppend
import Derived.Laws.IdiomCopy
import Derived.OrdersHeld
import Derived.Laws.BitsLemmas
import Derived.RowKit
import Derived.Lib.Strings
import Derived.Lib.Bytealg
import Derived.Test.YtblcelelmjngfaaDoorBuf
import Derived.Shelf.Abstract
import Derived.Test.YtblcelelmjngfaaDoorWWords
import Derived.Test.YtblcelelmjngfaaDoorWLast
import Derived.Test.YtblcelelmjngfaaDoorWTab
import Derived.Test.YtblcelelmjngfaaDoorWFour
import Derived.Test.YtblcelelmjngfaaDoorWQPut
import Derived.Test.YtblcelelmjngfaaDoorWApart
import Derived.Test.YtblcelelmjngfaaDoorWArr
import Derived.Test.YtblcelelmjngfaaDoorWZeros
import Derived.Test.YtblcelelmjngfaaDoorWFoot
import Derived.Test.YtblcelelmjngfaaDoorWKept
import Derived.Test.YtblcelelmjngfaaDoorWShare
import Derived.Test.YtblcelelmjngfaaDoorWN
import Derived.Test.YtblcelelmjngfaaDoorWFootNe
import Derived.Test.YtblcelelmjngfaaDoorWAt
import Derived.Test.YtblcelelmjngfaaDoorWEqStruct
import Derived.Test.YtblcelelmjngfaaDoorWRepsOne
import Derived.Test.YtblcelelmjngfaaDoorWInv
import Derived.Test.YtblcelelmjngfaaDoorWInvWords
import Derived.Test.YtblcelelmjngfaaDoorWGuard
import Derived.Test.YtblcelelmjngfaaDoorWNEv
import Derived.Test.YtblcelelmjngfaaDoorWMore
namespace Go.Proofs.YtblcelelmjngfaaDoor.Px
open Go.RowKit Go.Proofs.YtblcelelmjngfaaDoorW.PrintWords Go.Proofs.YtblcelelmjngfaaDoorW.PrintLast Go.Proofs.YtblcelelmjngfaaDoorW.PrintMore
attribute [local go_sem] max2_int min2_int max_two min_two max_three min_three max_four min_four   -- for this text's walks alone
set_option linter.unusedVariables false
set_option linter.unusedSimpArgs false



def errW : Option Int → Value
  | none => .nilIface
  | some c => .iface 0 (.int .i64 c)
theorem errW_none : errW none = .nilIface := rfl
theorem errW_some (c : Int) : errW (some c) = .iface 0 (.int .i64 c) := rfl

theorem info3 : (Tryd.prog.info? 3).map (fun i => (i.zero, i.size, i.bytes)) = some (some (.int .i64 0), 1, 8) := by kernel_rfl
theorem info5 : (Tryd.prog.info? 5).map (fun i => (i.zero, i.size, i.bytes)) = some (some (.int .u8 0), 1, 1) := by kernel_rfl
theorem info9 : (Tryd.prog.info? 9).map (fun i => (i.zero, i.size, i.bytes)) = some (some (.string ⟨#[]⟩), 1, 16) := by kernel_rfl
def bA (n c : Nat) : Array Bool := ((List.range n).map fun i => c.testBit i).toArray
-- the values' own types


end Go.Proofs.YtblcelelmjngfaaDoor.Px
