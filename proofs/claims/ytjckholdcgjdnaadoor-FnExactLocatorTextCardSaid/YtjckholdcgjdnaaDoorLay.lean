/- What the shelf's contracts ask of this program's text (numbers of functions and types, closed facts); no conditions. -/
import Derived.Test.YtjckholdcgjdnaaDoorProg
import Derived.Below
import Derived.Deep.Draws
import Derived.Deep.AppendLies
import Derived.Maps.AppendAt
import Derived.OwnWalk
import Derived.Laws.BytesArg
import Derived.Laws.MakeOwn
import Derived.Laws.OwnMore
import Derived.Deep.OwnRows
import Derived.Tactics
import Derived.Lib.ConvBytes
import Derived.Laws.Slices
import Derived.WalkKit
import Derived.KernelRfl
import Derived.RowKit3
import Derived.Deep.LoopGhost
import Derived.Deep.QuietTactic
import Derived.BigQuiet
import Derived.WideLaws
import Derived.Deep.DeepCutAuto
import Derived.Deep.CutBlock
import Derived.Deep.RegionHeld3
import Derived.Laws.Rows
import Derived.Lib.AppendStr
import Derived.ArgAppend
import Derived.Laws.IdiomCopy
import Derived.OrdersHeld
import Derived.Laws.BitsLemmas
import Derived.RowKit
import Derived.Shelf.Strconv.Itoa3
import Derived.Shelf.Strings.OnBuilder
import Derived.Shelf.Small.Bits
namespace Go.Proofs.YtjckholdcgjdnaaDoor.Px
open Go.Shelf
def strconv_Itoa_71.lays_ren : Go.Shelf.Ren := ⟨fun | 171 => 71 | 243 => 89 | 246 => 106 | 283 => 132 | 284 => 133 | 285 => 134 | 286 => 135 | 129 => 127 | 317 => 149 | 318 => 150 | 319 => 151 | 320 => 152 | 337 => 156 | 338 => 157 | n => n, fun | 3 => 3 | 9 => 9 | 2 => 2 | 4 => 4 | 171 => 135 | 0 => 0 | 53 => 75 | 37 => 41 | 5 => 5 | 173 => 137 | 212 => 157 | 51 => 130 | 20 => 20 | 213 => 158 | 46 => 108 | 232 => 170 | 233 => 171 | n => n, fun | 17 => 3 | 18 => 6 | 19 => 7 | n => n⟩
theorem strconv_Itoa_71.lays : Go.Proofs.LaysM.n171 Tryd.prog strconv_Itoa_71.lays_ren := {
  mixed := by kernel_rfl,
  f129 := Tryd.func127.trans (congrArg some (by kernel_rfl)),
  f171 := Tryd.func71.trans (congrArg some (by kernel_rfl)),
  f243 := Tryd.func89.trans (congrArg some (by kernel_rfl)),
  f246 := Tryd.func106.trans (congrArg some (by kernel_rfl)),
  f283 := Tryd.func132.trans (congrArg some (by kernel_rfl)),
  f284 := Tryd.func133.trans (congrArg some (by kernel_rfl)),
  f285 := Tryd.func134.trans (congrArg some (by kernel_rfl)),
  f286 := Tryd.func135.trans (congrArg some (by kernel_rfl)),
  f317 := Tryd.func149.trans (congrArg some (by kernel_rfl)),
  f318 := Tryd.func150.trans (congrArg some (by kernel_rfl)),
  f319 := Tryd.func151.trans (congrArg some (by kernel_rfl)),
  f320 := Tryd.func152.trans (congrArg some (by kernel_rfl)),
  f337 := Tryd.func156.trans (congrArg some (by kernel_rfl)),
  f338 := Tryd.func157.trans (congrArg some (by kernel_rfl)),
  t0 := Tryd.underlying0,
  a0 := Tryd.isAgg0,
  z0 := Tryd.sizeOf0,
  v0 := Tryd.zeroValue0,
  t2 := Tryd.underlying2,
  a2 := Tryd.isAgg2,
  z2 := Tryd.sizeOf2,
  v2 := Tryd.zeroValue2,
  t3 := Tryd.underlying3,
  a3 := Tryd.isAgg3,
  z3 := Tryd.sizeOf3,
  v3 := Tryd.zeroValue3,
  t4 := Tryd.underlying4,
  a4 := Tryd.isAgg4,
  z4 := Tryd.sizeOf4,
  v4 := Tryd.zeroValue4,
  t5 := Tryd.underlying5,
  a5 := Tryd.isAgg5,
  z5 := Tryd.sizeOf5,
  v5 := Tryd.zeroValue5,
  t9 := Tryd.underlying9,
  a9 := Tryd.isAgg9,
  z9 := Tryd.sizeOf9,
  v9 := Tryd.zeroValue9,
  t20 := Tryd.underlying20,
  a20 := Tryd.isAgg20,
  z20 := Tryd.sizeOf20,
  v20 := Tryd.zeroValue20,
  t37 := Tryd.underlying41,
  a37 := Tryd.isAgg41,
  z37 := Tryd.sizeOf41,
  v37 := Tryd.zeroValue41,
  t46 := Tryd.underlying108,
  a46 := Tryd.isAgg108,
  z46 := Tryd.sizeOf108,
  v46 := Tryd.zeroValue108,
  t51 := Tryd.underlying130,
  a51 := Tryd.isAgg130,
  z51 := Tryd.sizeOf130,
  v51 := Tryd.zeroValue130,
  t53 := Tryd.underlying75,
  a53 := Tryd.isAgg75,
  z53 := Tryd.sizeOf75,
  v53 := Tryd.zeroValue75,
  t171 := Tryd.underlying135,
  a171 := Tryd.isAgg135,
  z171 := Tryd.sizeOf135,
  v171 := Tryd.zeroValue135,
  t173 := Tryd.underlying137,
  a173 := Tryd.isAgg137,
  z173 := Tryd.sizeOf137,
  v173 := Tryd.zeroValue137,
  t212 := Tryd.underlying157,
  a212 := Tryd.isAgg157,
  z212 := Tryd.sizeOf157,
  v212 := Tryd.zeroValue157,
  t213 := Tryd.underlying158,
  a213 := Tryd.isAgg158,
  z213 := Tryd.sizeOf158,
  t232 := Tryd.underlying170,
  a232 := Tryd.isAgg170,
  z232 := Tryd.sizeOf170,
  v232 := Tryd.zeroValue170,
  t233 := Tryd.underlying171,
  a233 := Tryd.isAgg171,
  z233 := Tryd.sizeOf171,
  v233 := Tryd.zeroValue171,
  g17 := by kernel_rfl,
  g18 := by kernel_rfl,
  g19 := by kernel_rfl,
  i0 := by kernel_rfl,
  i2 := by kernel_rfl,
  i3 := by kernel_rfl,
  i4 := by kernel_rfl,
  i5 := by kernel_rfl,
  i9 := by kernel_rfl,
  i20 := by kernel_rfl,
  i37 := by kernel_rfl,
  i46 := by kernel_rfl,
  i51 := by kernel_rfl,
  i53 := by kernel_rfl,
  i171 := by kernel_rfl,
  i173 := by kernel_rfl,
  i212 := by kernel_rfl,
  i232 := by kernel_rfl,
  i233 := by kernel_rfl,
  m17 := by kernel_rfl,
  m18 := by kernel_rfl,
  m19 := by kernel_rfl }

def strings_Join.lays156_ren : Go.Shelf.Ren := ⟨fun | 156 => 74 | 165 => 90 | 166 => 91 | 169 => 92 | 240 => 107 | 241 => 108 | 276 => 136 | 277 => 137 | n => n, fun | 31 => 79 | 9 => 9 | 3 => 3 | 4 => 4 | 0 => 0 | 20 => 20 | 72 => 101 | 76 => 88 | 70 => 99 | 37 => 41 | 75 => 87 | 127 => 114 | 164 => 139 | 5 => 5 | 80 => 103 | n => n, fun | n => n⟩
theorem strings_Join.lays156 : Go.Proofs.Lays.n156 Tryd.prog strings_Join.lays156_ren := {
  mixed := by kernel_rfl,
  f156 := Tryd.func74.trans (congrArg some (by kernel_rfl)),
  f165 := Tryd.func90.trans (congrArg some (by kernel_rfl)),
  f166 := Tryd.func91.trans (congrArg some (by kernel_rfl)),
  f169 := Tryd.func92.trans (congrArg some (by kernel_rfl)),
  f240 := Tryd.func107.trans (congrArg some (by kernel_rfl)),
  f241 := Tryd.func108.trans (congrArg some (by kernel_rfl)),
  f276 := Tryd.func136.trans (congrArg some (by kernel_rfl)),
  f277 := Tryd.func137.trans (congrArg some (by kernel_rfl)),
  t0 := Tryd.underlying0,
  a0 := Tryd.isAgg0,
  z0 := Tryd.sizeOf0,
  v0 := Tryd.zeroValue0,
  t3 := Tryd.underlying3,
  a3 := Tryd.isAgg3,
  z3 := Tryd.sizeOf3,
  v3 := Tryd.zeroValue3,
  t4 := Tryd.underlying4,
  a4 := Tryd.isAgg4,
  z4 := Tryd.sizeOf4,
  v4 := Tryd.zeroValue4,
  t9 := Tryd.underlying9,
  a9 := Tryd.isAgg9,
  z9 := Tryd.sizeOf9,
  v9 := Tryd.zeroValue9,
  t20 := Tryd.underlying20,
  a20 := Tryd.isAgg20,
  z20 := Tryd.sizeOf20,
  v20 := Tryd.zeroValue20,
  t31 := Tryd.underlying79,
  a31 := Tryd.isAgg79,
  z31 := Tryd.sizeOf79,
  v31 := Tryd.zeroValue79,
  t37 := Tryd.underlying41,
  a37 := Tryd.isAgg41,
  z37 := Tryd.sizeOf41,
  v37 := Tryd.zeroValue41,
  t70 := Tryd.underlying99,
  a70 := Tryd.isAgg99,
  z70 := Tryd.sizeOf99,
  v70 := Tryd.zeroValue99,
  t72 := Tryd.underlying101,
  a72 := Tryd.isAgg101,
  z72 := Tryd.sizeOf101,
  v72 := Tryd.zeroValue101,
  t75 := Tryd.underlying87,
  a75 := Tryd.isAgg87,
  z75 := Tryd.sizeOf87,
  v75 := Tryd.zeroValue87,
  t76 := Tryd.underlying88,
  a76 := Tryd.isAgg88,
  z76 := Tryd.sizeOf88,
  v76 := Tryd.zeroValue88,
  t127 := Tryd.underlying114,
  a127 := Tryd.isAgg114,
  z127 := Tryd.sizeOf114,
  v127 := Tryd.zeroValue114,
  t164 := Tryd.underlying139,
  a164 := Tryd.isAgg139,
  z164 := Tryd.sizeOf139,
  v164 := Tryd.zeroValue139 }

def bits_Len.lays_ren : Go.Shelf.Ren := ⟨fun | 125 => 98 | 128 => 126 | 129 => 127 | n => n, fun | 46 => 108 | 3 => 3 | 51 => 130 | 53 => 75 | 4 => 4 | 5 => 5 | 9 => 9 | n => n, fun | n => n⟩
theorem bits_Len.lays : Go.Proofs.Lays.n125 Tryd.prog bits_Len.lays_ren := {
  mixed := by kernel_rfl,
  f125 := Tryd.func98.trans (congrArg some (by kernel_rfl)),
  f128 := Tryd.func126.trans (congrArg some (by kernel_rfl)),
  f129 := Tryd.func127.trans (congrArg some (by kernel_rfl)),
  t3 := Tryd.underlying3,
  a3 := Tryd.isAgg3,
  z3 := Tryd.sizeOf3,
  v3 := Tryd.zeroValue3,
  t4 := Tryd.underlying4,
  a4 := Tryd.isAgg4,
  z4 := Tryd.sizeOf4,
  v4 := Tryd.zeroValue4,
  t5 := Tryd.underlying5,
  a5 := Tryd.isAgg5,
  z5 := Tryd.sizeOf5,
  v5 := Tryd.zeroValue5,
  t9 := Tryd.underlying9,
  a9 := Tryd.isAgg9,
  z9 := Tryd.sizeOf9,
  v9 := Tryd.zeroValue9,
  t46 := Tryd.underlying108,
  a46 := Tryd.isAgg108,
  z46 := Tryd.sizeOf108,
  v46 := Tryd.zeroValue108,
  t51 := Tryd.underlying130,
  a51 := Tryd.isAgg130,
  z51 := Tryd.sizeOf130,
  v51 := Tryd.zeroValue130,
  t53 := Tryd.underlying75,
  a53 := Tryd.isAgg75,
  z53 := Tryd.sizeOf75,
  v53 := Tryd.zeroValue75 }

end Go.Proofs.YtjckholdcgjdnaaDoor.Px
