/- That calls of Go functions come to what the Lean functions beside them say; written by a program of this session (wip/xprint) over the printed words; no conditions. -/
import Derived.Test.YtciminppeclofaaProg
import Derived.Below
import Derived.Deep.Draws
import Derived.Deep.AppendLies
import Derived.Maps.AppendAt
import Derived.OwnWalk
import Derived.Laws.BytesArg
import Derived.Laws.MakeOwn
import Derived.Laws.OwnMore
import Derived.Deep.OwnRows
import Derived.Tactics
import Derived.Lib.ConvBytes
import Derived.Laws.Slices
import Derived.WalkKit
import Derived.KernelRfl
import Derived.RowKit3
import Derived.Deep.LoopGhost
import Derived.Deep.QuietTactic
import Derived.BigQuiet
import Derived.WideLaws
import Derived.Deep.DeepCutAuto
import Derived.Deep.CutBlock
import Derived.Deep.RegionHeld3
import Derived.Laws.Rows
import Derived.Lib.AppendStr
import Derived.ArgAppend
import Derived.Laws.IdiomCopy
import Derived.OrdersHeld
import Derived.Laws.BitsLemmas
import Derived.RowKit
import Derived.Lib.Strings
import Derived.Lib.Bytealg
import Derived.Test.YtciminppeclofaaBuf
import Derived.Test.YtciminppeclofaaWWords
import Derived.Test.YtciminppeclofaaWLast
import Derived.Test.YtciminppeclofaaWTab
import Derived.Test.YtciminppeclofaaWFour
import Derived.Test.YtciminppeclofaaWQPut
import Derived.Test.YtciminppeclofaaWApart
import Derived.Test.YtciminppeclofaaWArr
import Derived.Test.YtciminppeclofaaWZeros
import Derived.Test.YtciminppeclofaaWFoot
import Derived.Test.YtciminppeclofaaWKept
import Derived.Test.YtciminppeclofaaWShare
import Derived.Test.YtciminppeclofaaWN
import Derived.Test.YtciminppeclofaaWFootNe
import Derived.Test.YtciminppeclofaaWAt
import Derived.Test.YtciminppeclofaaWEqStruct
import Derived.Test.YtciminppeclofaaWRepsOne
import Derived.Test.YtciminppeclofaaWInv
import Derived.Test.YtciminppeclofaaWInvWords
import Derived.Test.YtciminppeclofaaWGuard
import Derived.Test.YtciminppeclofaaWNEv
import Derived.Test.YtciminppeclofaaWMore
namespace Go.Proofs.Ytciminppeclofaa.Px
open Go.RowKit Go.Proofs.YtciminppeclofaaW.PrintWords Go.Proofs.YtciminppeclofaaW.PrintLast Go.Proofs.YtciminppeclofaaW.PrintMore
attribute [local go_sem] max2_int min2_int max_two min_two max_three min_three max_four min_four   -- for this text's walks alone
set_option linter.unusedVariables false
set_option linter.unusedSimpArgs false



def errW : Option Int → Value
  | none => .nilIface
  | some c => .iface 0 (.int .i64 c)
theorem errW_none : errW none = .nilIface := rfl
theorem errW_some (c : Int) : errW (some c) = .iface 0 (.int .i64 c) := rfl

theorem info5 : (Try.prog.info? 5).map (fun i => (i.zero, i.size, i.bytes)) = some (some (.int .u8 0), 1, 1) := by kernel_rfl
theorem info9 : (Try.prog.info? 9).map (fun i => (i.zero, i.size, i.bytes)) = some (some (.string ⟨#[]⟩), 1, 16) := by kernel_rfl
-- the values' own types


end Go.Proofs.Ytciminppeclofaa.Px
