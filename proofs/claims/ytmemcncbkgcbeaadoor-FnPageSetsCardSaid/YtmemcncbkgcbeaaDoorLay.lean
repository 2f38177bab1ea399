/- What the shelf's contracts ask of this program's text (numbers of functions and types, closed facts); no conditions. -/
import Derived.Test.YtmemcncbkgcbeaaDoorProg
import Derived.Below
import Derived.Deep.Draws
import Derived.Deep.AppendLies
import Derived.Maps.AppendAt
import Derived.OwnWalk
import Derived.Laws.BytesArg
import Derived.Laws.MakeOwn
import Derived.Laws.OwnMore
import Derived.Deep.OwnRows
import Derived.Tactics
import Derived.Lib.ConvBytes
import Derived.Laws.Slices
import Derived.WalkKit
import Derived.KernelRfl
import Derived.RowKit3
import Derived.Deep.LoopGhost
import Derived.Deep.QuietTactic
import Derived.BigQuiet
import Derived.WideLaws
import Derived.Deep.DeepCutAuto
import Derived.Deep.CutBlock
import Derived.Deep.RegionHeld3
import Derived.Laws.Rows
import Derived.Lib.AppendStr
import Derived.ArgAppend
import Derived.Laws.IdiomCopy
import Derived.OrdersHeld
import Derived.Laws.BitsLemmas
import Derived.RowKit
import Derived.Shelf.Small.Bits
import Derived.Shelf.Strconv.Itoa3
import Derived.Shelf.Strings.OnBuilder
namespace Go.Proofs.YtmemcncbkgcbeaaDoor.Px
open Go.Shelf
def bits_Len.lays_ren : Go.Shelf.Ren := ⟨fun | 125 => 49 | 128 => 68 | 129 => 69 | n => n, fun | 46 => 70 | 3 => 3 | 51 => 93 | 53 => 47 | 4 => 4 | 5 => 5 | 9 => 9 | n => n, fun | n => n⟩
theorem bits_Len.lays : Go.Proofs.Lays.n125 Tryd.prog bits_Len.lays_ren := {
  mixed := by kernel_rfl,
  f125 := Tryd.func49.trans (congrArg some (by kernel_rfl)),
  f128 := Tryd.func68.trans (congrArg some (by kernel_rfl)),
  f129 := Tryd.func69.trans (congrArg some (by kernel_rfl)),
  t3 := Tryd.underlying3,
  a3 := Tryd.isAgg3,
  z3 := Tryd.sizeOf3,
  v3 := Tryd.zeroValue3,
  t4 := Tryd.underlying4,
  a4 := Tryd.isAgg4,
  z4 := Tryd.sizeOf4,
  v4 := Tryd.zeroValue4,
  t5 := Tryd.underlying5,
  a5 := Tryd.isAgg5,
  z5 := Tryd.sizeOf5,
  v5 := Tryd.zeroValue5,
  t9 := Tryd.underlying9,
  a9 := Tryd.isAgg9,
  z9 := Tryd.sizeOf9,
  v9 := Tryd.zeroValue9,
  t46 := Tryd.underlying70,
  a46 := Tryd.isAgg70,
  z46 := Tryd.sizeOf70,
  v46 := Tryd.zeroValue70,
  t51 := Tryd.underlying93,
  a51 := Tryd.isAgg93,
  z51 := Tryd.sizeOf93,
  v51 := Tryd.zeroValue93,
  t53 := Tryd.underlying47,
  a53 := Tryd.isAgg47,
  z53 := Tryd.sizeOf47,
  v53 := Tryd.zeroValue47 }

def strconv_Itoa_55.lays_ren : Go.Shelf.Ren := ⟨fun | 171 => 55 | 243 => 71 | 246 => 79 | 283 => 83 | 284 => 84 | 285 => 85 | 286 => 86 | 129 => 69 | 317 => 87 | 318 => 88 | 319 => 89 | 320 => 90 | 337 => 91 | 338 => 92 | n => n, fun | 3 => 3 | 9 => 9 | 2 => 2 | 4 => 4 | 171 => 109 | 0 => 0 | 53 => 47 | 37 => 22 | 5 => 5 | 173 => 111 | 212 => 114 | 51 => 93 | 20 => 20 | 213 => 115 | 46 => 70 | 232 => 116 | 233 => 117 | n => n, fun | 17 => 1 | 18 => 2 | 19 => 3 | n => n⟩
theorem strconv_Itoa_55.lays : Go.Proofs.LaysM.n171 Tryd.prog strconv_Itoa_55.lays_ren := {
  mixed := by kernel_rfl,
  f129 := Tryd.func69.trans (congrArg some (by kernel_rfl)),
  f171 := Tryd.func55.trans (congrArg some (by kernel_rfl)),
  f243 := Tryd.func71.trans (congrArg some (by kernel_rfl)),
  f246 := Tryd.func79.trans (congrArg some (by kernel_rfl)),
  f283 := Tryd.func83.trans (congrArg some (by kernel_rfl)),
  f284 := Tryd.func84.trans (congrArg some (by kernel_rfl)),
  f285 := Tryd.func85.trans (congrArg some (by kernel_rfl)),
  f286 := Tryd.func86.trans (congrArg some (by kernel_rfl)),
  f317 := Tryd.func87.trans (congrArg some (by kernel_rfl)),
  f318 := Tryd.func88.trans (congrArg some (by kernel_rfl)),
  f319 := Tryd.func89.trans (congrArg some (by kernel_rfl)),
  f320 := Tryd.func90.trans (congrArg some (by kernel_rfl)),
  f337 := Tryd.func91.trans (congrArg some (by kernel_rfl)),
  f338 := Tryd.func92.trans (congrArg some (by kernel_rfl)),
  t0 := Tryd.underlying0,
  a0 := Tryd.isAgg0,
  z0 := Tryd.sizeOf0,
  v0 := Tryd.zeroValue0,
  t2 := Tryd.underlying2,
  a2 := Tryd.isAgg2,
  z2 := Tryd.sizeOf2,
  v2 := Tryd.zeroValue2,
  t3 := Tryd.underlying3,
  a3 := Tryd.isAgg3,
  z3 := Tryd.sizeOf3,
  v3 := Tryd.zeroValue3,
  t4 := Tryd.underlying4,
  a4 := Tryd.isAgg4,
  z4 := Tryd.sizeOf4,
  v4 := Tryd.zeroValue4,
  t5 := Tryd.underlying5,
  a5 := Tryd.isAgg5,
  z5 := Tryd.sizeOf5,
  v5 := Tryd.zeroValue5,
  t9 := Tryd.underlying9,
  a9 := Tryd.isAgg9,
  z9 := Tryd.sizeOf9,
  v9 := Tryd.zeroValue9,
  t20 := Tryd.underlying20,
  a20 := Tryd.isAgg20,
  z20 := Tryd.sizeOf20,
  v20 := Tryd.zeroValue20,
  t37 := Tryd.underlying22,
  a37 := Tryd.isAgg22,
  z37 := Tryd.sizeOf22,
  v37 := Tryd.zeroValue22,
  t46 := Tryd.underlying70,
  a46 := Tryd.isAgg70,
  z46 := Tryd.sizeOf70,
  v46 := Tryd.zeroValue70,
  t51 := Tryd.underlying93,
  a51 := Tryd.isAgg93,
  z51 := Tryd.sizeOf93,
  v51 := Tryd.zeroValue93,
  t53 := Tryd.underlying47,
  a53 := Tryd.isAgg47,
  z53 := Tryd.sizeOf47,
  v53 := Tryd.zeroValue47,
  t171 := Tryd.underlying109,
  a171 := Tryd.isAgg109,
  z171 := Tryd.sizeOf109,
  v171 := Tryd.zeroValue109,
  t173 := Tryd.underlying111,
  a173 := Tryd.isAgg111,
  z173 := Tryd.sizeOf111,
  v173 := Tryd.zeroValue111,
  t212 := Tryd.underlying114,
  a212 := Tryd.isAgg114,
  z212 := Tryd.sizeOf114,
  v212 := Tryd.zeroValue114,
  t213 := Tryd.underlying115,
  a213 := Tryd.isAgg115,
  z213 := Tryd.sizeOf115,
  t232 := Tryd.underlying116,
  a232 := Tryd.isAgg116,
  z232 := Tryd.sizeOf116,
  v232 := Tryd.zeroValue116,
  t233 := Tryd.underlying117,
  a233 := Tryd.isAgg117,
  z233 := Tryd.sizeOf117,
  v233 := Tryd.zeroValue117,
  g17 := by kernel_rfl,
  g18 := by kernel_rfl,
  g19 := by kernel_rfl,
  i0 := by kernel_rfl,
  i2 := by kernel_rfl,
  i3 := by kernel_rfl,
  i4 := by kernel_rfl,
  i5 := by kernel_rfl,
  i9 := by kernel_rfl,
  i20 := by kernel_rfl,
  i37 := by kernel_rfl,
  i46 := by kernel_rfl,
  i51 := by kernel_rfl,
  i53 := by kernel_rfl,
  i171 := by kernel_rfl,
  i173 := by kernel_rfl,
  i212 := by kernel_rfl,
  i232 := by kernel_rfl,
  i233 := by kernel_rfl,
  m17 := by kernel_rfl,
  m18 := by kernel_rfl,
  m19 := by kernel_rfl }

def strings_Join.lays156_ren : Go.Shelf.Ren := ⟨fun | 156 => 46 | 165 => 56 | 166 => 57 | 169 => 58 | 240 => 72 | 241 => 73 | 276 => 80 | 277 => 81 | n => n, fun | 31 => 51 | 9 => 9 | 3 => 3 | 4 => 4 | 0 => 0 | 20 => 20 | 72 => 78 | 76 => 82 | 70 => 76 | 37 => 22 | 75 => 81 | 127 => 95 | 164 => 103 | 5 => 5 | 80 => 84 | n => n, fun | n => n⟩
theorem strings_Join.lays156 : Go.Proofs.Lays.n156 Tryd.prog strings_Join.lays156_ren := {
  mixed := by kernel_rfl,
  f156 := Tryd.func46.trans (congrArg some (by kernel_rfl)),
  f165 := Tryd.func56.trans (congrArg some (by kernel_rfl)),
  f166 := Tryd.func57.trans (congrArg some (by kernel_rfl)),
  f169 := Tryd.func58.trans (congrArg some (by kernel_rfl)),
  f240 := Tryd.func72.trans (congrArg some (by kernel_rfl)),
  f241 := Tryd.func73.trans (congrArg some (by kernel_rfl)),
  f276 := Tryd.func80.trans (congrArg some (by kernel_rfl)),
  f277 := Tryd.func81.trans (congrArg some (by kernel_rfl)),
  t0 := Tryd.underlying0,
  a0 := Tryd.isAgg0,
  z0 := Tryd.sizeOf0,
  v0 := Tryd.zeroValue0,
  t3 := Tryd.underlying3,
  a3 := Tryd.isAgg3,
  z3 := Tryd.sizeOf3,
  v3 := Tryd.zeroValue3,
  t4 := Tryd.underlying4,
  a4 := Tryd.isAgg4,
  z4 := Tryd.sizeOf4,
  v4 := Tryd.zeroValue4,
  t9 := Tryd.underlying9,
  a9 := Tryd.isAgg9,
  z9 := Tryd.sizeOf9,
  v9 := Tryd.zeroValue9,
  t20 := Tryd.underlying20,
  a20 := Tryd.isAgg20,
  z20 := Tryd.sizeOf20,
  v20 := Tryd.zeroValue20,
  t31 := Tryd.underlying51,
  a31 := Tryd.isAgg51,
  z31 := Tryd.sizeOf51,
  v31 := Tryd.zeroValue51,
  t37 := Tryd.underlying22,
  a37 := Tryd.isAgg22,
  z37 := Tryd.sizeOf22,
  v37 := Tryd.zeroValue22,
  t70 := Tryd.underlying76,
  a70 := Tryd.isAgg76,
  z70 := Tryd.sizeOf76,
  v70 := Tryd.zeroValue76,
  t72 := Tryd.underlying78,
  a72 := Tryd.isAgg78,
  z72 := Tryd.sizeOf78,
  v72 := Tryd.zeroValue78,
  t75 := Tryd.underlying81,
  a75 := Tryd.isAgg81,
  z75 := Tryd.sizeOf81,
  v75 := Tryd.zeroValue81,
  t76 := Tryd.underlying82,
  a76 := Tryd.isAgg82,
  z76 := Tryd.sizeOf82,
  v76 := Tryd.zeroValue82,
  t127 := Tryd.underlying95,
  a127 := Tryd.isAgg95,
  z127 := Tryd.sizeOf95,
  v127 := Tryd.zeroValue95,
  t164 := Tryd.underlying103,
  a164 := Tryd.isAgg103,
  z164 := Tryd.sizeOf103,
  v164 := Tryd.zeroValue103 }

end Go.Proofs.YtmemcncbkgcbeaaDoor.Px
