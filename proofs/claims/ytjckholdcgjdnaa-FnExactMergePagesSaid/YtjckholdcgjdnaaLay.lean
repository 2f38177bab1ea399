/- What the shelf's contracts ask of this program's text (numbers of functions and types, closed facts); no conditions. -/
import Derived.Test.YtjckholdcgjdnaaProg
import Derived.Below
import Derived.Deep.Draws
import Derived.Deep.AppendLies
import Derived.Maps.AppendAt
import Derived.OwnWalk
import Derived.Laws.BytesArg
import Derived.Laws.MakeOwn
import Derived.Laws.OwnMore
import Derived.Deep.OwnRows
import Derived.Tactics
import Derived.Lib.ConvBytes
import Derived.Laws.Slices
import Derived.WalkKit
import Derived.KernelRfl
import Derived.RowKit3
import Derived.Deep.LoopGhost
import Derived.Deep.QuietTactic
import Derived.BigQuiet
import Derived.WideLaws
import Derived.Deep.DeepCutAuto
import Derived.Deep.CutBlock
import Derived.Deep.RegionHeld3
import Derived.Laws.Rows
import Derived.Lib.AppendStr
import Derived.ArgAppend
import Derived.Laws.IdiomCopy
import Derived.OrdersHeld
import Derived.Laws.BitsLemmas
import Derived.RowKit
import Derived.Shelf.Small.Bits
namespace Go.Proofs.Ytjckholdcgjdnaa.Px
open Go.Shelf
def bits_Len.lays_ren : Go.Shelf.Ren := ⟨fun | 125 => 48 | 128 => 59 | 129 => 60 | n => n, fun | 46 => 60 | 3 => 3 | 51 => 71 | 53 => 73 | 4 => 4 | 5 => 5 | 9 => 9 | n => n, fun | n => n⟩
theorem bits_Len.lays : Go.Proofs.Lays.n125 Try.prog bits_Len.lays_ren := {
  mixed := by kernel_rfl,
  f125 := Try.func48.trans (congrArg some (by kernel_rfl)),
  f128 := Try.func59.trans (congrArg some (by kernel_rfl)),
  f129 := Try.func60.trans (congrArg some (by kernel_rfl)),
  t3 := Try.underlying3,
  a3 := Try.isAgg3,
  z3 := Try.sizeOf3,
  v3 := Try.zeroValue3,
  t4 := Try.underlying4,
  a4 := Try.isAgg4,
  z4 := Try.sizeOf4,
  v4 := Try.zeroValue4,
  t5 := Try.underlying5,
  a5 := Try.isAgg5,
  z5 := Try.sizeOf5,
  v5 := Try.zeroValue5,
  t9 := Try.underlying9,
  a9 := Try.isAgg9,
  z9 := Try.sizeOf9,
  v9 := Try.zeroValue9,
  t46 := Try.underlying60,
  a46 := Try.isAgg60,
  z46 := Try.sizeOf60,
  v46 := Try.zeroValue60,
  t51 := Try.underlying71,
  a51 := Try.isAgg71,
  z51 := Try.sizeOf71,
  v51 := Try.zeroValue71,
  t53 := Try.underlying73,
  a53 := Try.isAgg73,
  z53 := Try.sizeOf73,
  v53 := Try.zeroValue73 }

end Go.Proofs.Ytjckholdcgjdnaa.Px
