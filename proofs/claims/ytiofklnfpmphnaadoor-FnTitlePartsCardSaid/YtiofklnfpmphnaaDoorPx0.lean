/- That calls of Go functions come to what the Lean functions beside them say; written by a program of this session (wip/xprint) over the printed words; no conditions. -/
import Derived.Test.YtiofklnfpmphnaaDoorProg
import Derived.Below
import Derived.Deep.Draws
import Derived.Deep.AppendLies
import Derived.Maps.AppendAt
import Derived.OwnWalk
import Derived.Laws.BytesArg
import Derived.Laws.MakeOwn
import Derived.Laws.OwnMore
import Derived.Deep.OwnRows
import Derived.Tactics
import Derived.Lib.ConvBytes
import Derived.Laws.Slices
import Derived.WalkKit
import Derived.KernelRfl
import Derived.RowKit3
import Derived.Deep.LoopGhost
import Derived.Deep.QuietTactic
import Derived.BigQuiet
import Derived.WideLaws
import Derived.Deep.DeepCutAuto
import Derived.Deep.CutBlock
import Derived.Deep.RegionHeld3
import Derived.Laws.Rows
import Derived.Lib.AppendStr
import Derived.ArgAppend
import Derived.Laws.IdiomCopy
import Derived.OrdersHeld
import Derived.Laws.BitsLemmas
import Derived.RowKit
import Derived.Lib.Strings
import Derived.Lib.Bytealg
import Derived.Test.YtiofklnfpmphnaaDoorBuf
import Derived.Shelf.Abstract
import Derived.Shelf.Strings.Shaped
import Derived.Shelf.Strings.OnBuilder
import Derived.Shelf.Strings.IndexAnyAll
import Derived.Shelf.Small.Utf8
import Derived.Laws.RangeAny
import Derived.Laws.Runes
import Derived.Lib.TrimU
import Derived.Lib.QuoteLoop
import Derived.WalkMore
import Derived.Lib.OthersKept
import Derived.Shelf.RegionOpenPlain
import Derived.Shelf.Strings.Replace
import Derived.Shelf.Strings.SplitShaped
import Derived.Shelf.SlicesE.DeleteFunc
import Derived.Lib.SliceRun
import Derived.Lib.OwnBridge
import Derived.Test.YtiofklnfpmphnaaDoorEnv
import Derived.Test.YtiofklnfpmphnaaDoorLay
import Derived.Test.YtiofklnfpmphnaaDoorWWords
import Derived.Test.YtiofklnfpmphnaaDoorWLast
import Derived.Test.YtiofklnfpmphnaaDoorWTab
import Derived.Test.YtiofklnfpmphnaaDoorWFour
import Derived.Test.YtiofklnfpmphnaaDoorWQPut
import Derived.Test.YtiofklnfpmphnaaDoorWApart
import Derived.Test.YtiofklnfpmphnaaDoorWArr
import Derived.Test.YtiofklnfpmphnaaDoorWZeros
import Derived.Test.YtiofklnfpmphnaaDoorWFoot
import Derived.Test.YtiofklnfpmphnaaDoorWKept
import Derived.Test.YtiofklnfpmphnaaDoorWShare
import Derived.Test.YtiofklnfpmphnaaDoorWN
import Derived.Test.YtiofklnfpmphnaaDoorWFootNe
import Derived.Test.YtiofklnfpmphnaaDoorWAt
import Derived.Test.YtiofklnfpmphnaaDoorWEqStruct
import Derived.Test.YtiofklnfpmphnaaDoorWRepsOne
import Derived.Test.YtiofklnfpmphnaaDoorWInv
import Derived.Test.YtiofklnfpmphnaaDoorWInvWords
import Derived.Test.YtiofklnfpmphnaaDoorWGuard
import Derived.Test.YtiofklnfpmphnaaDoorWNEv
import Derived.Test.YtiofklnfpmphnaaDoorWMore
namespace Go.Proofs.YtiofklnfpmphnaaDoor.Px
open Go.RowKit Go.Proofs.YtiofklnfpmphnaaDoorW.PrintWords Go.Proofs.YtiofklnfpmphnaaDoorW.PrintLast Go.Proofs.YtiofklnfpmphnaaDoorW.PrintMore
attribute [local go_sem] max2_int min2_int max_two min_two max_three min_three max_four min_four   -- for this text's walks alone
set_option linter.unusedVariables false
set_option linter.unusedSimpArgs false



def errW : Option Int → Value
  | none => .nilIface
  | some c => .iface 0 (.int .i64 c)
theorem errW_none : errW none = .nilIface := rfl
theorem errW_some (c : Int) : errW (some c) = .iface 0 (.int .i64 c) := rfl

theorem info4 : (Tryd.prog.info? 4).map (fun i => (i.zero, i.size, i.bytes)) = some (some (.bool false), 1, 1) := by kernel_rfl
theorem info5 : (Tryd.prog.info? 5).map (fun i => (i.zero, i.size, i.bytes)) = some (some (.int .u8 0), 1, 1) := by kernel_rfl
theorem info9 : (Tryd.prog.info? 9).map (fun i => (i.zero, i.size, i.bytes)) = some (some (.string ⟨#[]⟩), 1, 16) := by kernel_rfl
def bA (n c : Nat) : Array Bool := ((List.range n).map fun i => c.testBit i).toArray
-- the values' own types


end Go.Proofs.YtiofklnfpmphnaaDoor.Px
