/- That calls of Go functions come to what the Lean functions beside them say; written by a program of this session (wip/xprint) over the printed words; no conditions. -/
import Derived.Test.YtilchcponlgmjaaDoorProg
import Derived.Below
import Derived.Deep.Draws
import Derived.Deep.AppendLies
import Derived.Maps.AppendAt
import Derived.OwnWalk
import Derived.Laws.BytesArg
import Derived.Laws.MakeOwn
import Derived.Laws.OwnMore
import Derived.Deep.OwnRows
import Derived.Tactics
import Derived.Lib.ConvBytes
import Derived.Laws.Slices
import Derived.WalkKit
import Derived.KernelRfl
import Derived.RowKit3
import Derived.Deep.LoopGhost
import Derived.Deep.QuietTactic
import Derived.BigQuiet
import Derived.WideLaws
import Derived.Deep.DeepCutAuto
import Derived.Deep.CutBlock
import Derived.Deep.RegionHeld3
import Derived.Laws.Rows
import Derived.Lib.AppendStr
import Derived.ArgAppend
import Derived.Laws.IdiomCopy
import Derived.OrdersHeld
import Derived.Laws.BitsLemmas
import Derived.RowKit
import Derived.Lib.Strings
import Derived.Lib.Bytealg
import Derived.Test.YtilchcponlgmjaaDoorBuf
import Derived.Shelf.Strings.Shaped
import Derived.Shelf.Strings.OnBuilder
import Derived.Shelf.Strings.IndexAnyAll
import Derived.Shelf.Small.Utf8
import Derived.Laws.RangeAny
import Derived.Laws.Runes
import Derived.Lib.TrimU
import Derived.Lib.QuoteLoop
import Derived.WalkMore
import Derived.Lib.OthersKept
import Derived.Shelf.RegionOpenPlain
import Derived.Test.YtilchcponlgmjaaDoorEnv
import Derived.Test.YtilchcponlgmjaaDoorLay
import Derived.Test.YtilchcponlgmjaaDoorWWords
import Derived.Test.YtilchcponlgmjaaDoorWLast
import Derived.Test.YtilchcponlgmjaaDoorWTab
import Derived.Test.YtilchcponlgmjaaDoorWQPut
import Derived.Test.YtilchcponlgmjaaDoorWApart
import Derived.Test.YtilchcponlgmjaaDoorWArr
import Derived.Test.YtilchcponlgmjaaDoorWZeros
import Derived.Test.YtilchcponlgmjaaDoorWFoot
import Derived.Test.YtilchcponlgmjaaDoorWKept
import Derived.Test.YtilchcponlgmjaaDoorWShare
import Derived.Test.YtilchcponlgmjaaDoorWN
import Derived.Test.YtilchcponlgmjaaDoorWRepsOne
import Derived.Test.YtilchcponlgmjaaDoorWGuard
import Derived.Test.YtilchcponlgmjaaDoorWNEv
import Derived.Test.YtilchcponlgmjaaDoorWMore
namespace Go.Proofs.YtilchcponlgmjaaDoor.Px
open Go.RowKit Go.Proofs.YtilchcponlgmjaaDoorW.PrintWords Go.Proofs.YtilchcponlgmjaaDoorW.PrintLast Go.Proofs.YtilchcponlgmjaaDoorW.PrintMore
attribute [local go_sem] max2_int min2_int max_two min_two max_three min_three max_four min_four   -- for this text's walks alone
set_option linter.unusedVariables false
set_option linter.unusedSimpArgs false



def errW : Option Int → Value
  | none => .nilIface
  | some c => .iface 0 (.int .i64 c)
theorem errW_none : errW none = .nilIface := rfl
theorem errW_some (c : Int) : errW (some c) = .iface 0 (.int .i64 c) := rfl

theorem info4 : (Tryd.prog.info? 4).map (fun i => (i.zero, i.size, i.bytes)) = some (some (.bool false), 1, 1) := by kernel_rfl
theorem info5 : (Tryd.prog.info? 5).map (fun i => (i.zero, i.size, i.bytes)) = some (some (.int .u8 0), 1, 1) := by kernel_rfl
theorem info9 : (Tryd.prog.info? 9).map (fun i => (i.zero, i.size, i.bytes)) = some (some (.string ⟨#[]⟩), 1, 16) := by kernel_rfl
def bA (n c : Nat) : Array Bool := ((List.range n).map fun i => c.testBit i).toArray
-- the values' own types


end Go.Proofs.YtilchcponlgmjaaDoor.Px
