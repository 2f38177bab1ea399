/- What the shelf's contracts ask of this program's text (numbers of functions and types, closed facts); no conditions. -/
import Derived.Test.YtgpgmamgicgacaaGreatDoorProg
import Derived.Below
import Derived.Deep.Draws
import Derived.Deep.AppendLies
import Derived.Maps.AppendAt
import Derived.OwnWalk
import Derived.Laws.BytesArg
import Derived.Laws.MakeOwn
import Derived.Laws.OwnMore
import Derived.Deep.OwnRows
import Derived.Tactics
import Derived.Lib.ConvBytes
import Derived.Laws.Slices
import Derived.WalkKit
import Derived.KernelRfl
import Derived.RowKit3
import Derived.Deep.LoopGhost
import Derived.Deep.QuietTactic
import Derived.BigQuiet
import Derived.WideLaws
import Derived.Deep.DeepCutAuto
import Derived.Deep.CutBlock
import Derived.Deep.RegionHeld3
import Derived.Laws.Rows
import Derived.Lib.AppendStr
import Derived.ArgAppend
import Derived.Laws.IdiomCopy
import Derived.OrdersHeld
import Derived.Laws.BitsLemmas
import Derived.RowKit
import Derived.Shelf.Strings.SplitShaped
import Derived.Shelf.Strings.OnBuilder
import Derived.Shelf.SlicesE.DeleteFunc
import Derived.Ground.SlgfProg
import Derived.Lib.SliceRun
namespace Go.Proofs.YtgpgmamgicgacaaGreatDoor.Px
open Go.Shelf
def strings_Split.lays_ren : Go.Shelf.Ren := ⟨fun | 146 => 94 | 221 => 108 | 268 => 115 | 138 => 116 | 143 => 117 | 195 => 123 | 197 => 110 | 218 => 124 | 219 => 125 | 260 => 118 | 217 => 130 | 225 => 129 | 224 => 128 | 267 => 131 | 266 => 132 | 314 => 133 | n => n, fun | 9 => 9 | 31 => 45 | 3 => 3 | 4 => 4 | 0 => 0 | 105 => 103 | 21 => 21 | 5 => 5 | 46 => 115 | 119 => 114 | 139 => 118 | 138 => 117 | 146 => 122 | 51 => 121 | n => n, fun | 1 => 0 | 3 => 1 | 4 => 2 | n => n⟩
theorem strings_Split.lays : Go.Proofs.LaysM.n146 Tryz.prog strings_Split.lays_ren := {
  mixed := by kernel_rfl,
  f138 := Tryz.func116.trans (congrArg some (by kernel_rfl)),
  f143 := Tryz.func117.trans (congrArg some (by kernel_rfl)),
  f146 := Tryz.func94.trans (congrArg some (by kernel_rfl)),
  f195 := Tryz.func123.trans (congrArg some (by kernel_rfl)),
  f197 := Tryz.func110.trans (congrArg some (by kernel_rfl)),
  f217 := Tryz.func130.trans (congrArg some (by kernel_rfl)),
  f218 := Tryz.func124.trans (congrArg some (by kernel_rfl)),
  f219 := Tryz.func125.trans (congrArg some (by kernel_rfl)),
  f221 := Tryz.func108.trans (congrArg some (by kernel_rfl)),
  f224 := Tryz.func128.trans (congrArg some (by kernel_rfl)),
  f225 := Tryz.func129.trans (congrArg some (by kernel_rfl)),
  f260 := Tryz.func118.trans (congrArg some (by kernel_rfl)),
  f266 := Tryz.func132.trans (congrArg some (by kernel_rfl)),
  f267 := Tryz.func131.trans (congrArg some (by kernel_rfl)),
  f268 := Tryz.func115.trans (congrArg some (by kernel_rfl)),
  f314 := Tryz.func133.trans (congrArg some (by kernel_rfl)),
  t0 := Tryz.underlying0,
  a0 := Tryz.isAgg0,
  z0 := Tryz.sizeOf0,
  v0 := Tryz.zeroValue0,
  t3 := Tryz.underlying3,
  a3 := Tryz.isAgg3,
  z3 := Tryz.sizeOf3,
  v3 := Tryz.zeroValue3,
  t4 := Tryz.underlying4,
  a4 := Tryz.isAgg4,
  z4 := Tryz.sizeOf4,
  v4 := Tryz.zeroValue4,
  t5 := Tryz.underlying5,
  a5 := Tryz.isAgg5,
  z5 := Tryz.sizeOf5,
  v5 := Tryz.zeroValue5,
  t9 := Tryz.underlying9,
  a9 := Tryz.isAgg9,
  z9 := Tryz.sizeOf9,
  v9 := Tryz.zeroValue9,
  t21 := Tryz.underlying21,
  a21 := Tryz.isAgg21,
  z21 := Tryz.sizeOf21,
  v21 := Tryz.zeroValue21,
  t31 := Tryz.underlying45,
  a31 := Tryz.isAgg45,
  z31 := Tryz.sizeOf45,
  v31 := Tryz.zeroValue45,
  t46 := Tryz.underlying115,
  a46 := Tryz.isAgg115,
  z46 := Tryz.sizeOf115,
  v46 := Tryz.zeroValue115,
  t51 := Tryz.underlying121,
  a51 := Tryz.isAgg121,
  z51 := Tryz.sizeOf121,
  v51 := Tryz.zeroValue121,
  t105 := Tryz.underlying103,
  a105 := Tryz.isAgg103,
  z105 := Tryz.sizeOf103,
  v105 := Tryz.zeroValue103,
  t119 := Tryz.underlying114,
  a119 := Tryz.isAgg114,
  z119 := Tryz.sizeOf114,
  t138 := Tryz.underlying117,
  a138 := Tryz.isAgg117,
  z138 := Tryz.sizeOf117,
  v138 := Tryz.zeroValue117,
  t139 := Tryz.underlying118,
  a139 := Tryz.isAgg118,
  z139 := Tryz.sizeOf118,
  v139 := Tryz.zeroValue118,
  t146 := Tryz.underlying122,
  a146 := Tryz.isAgg122,
  z146 := Tryz.sizeOf122,
  v146 := Tryz.zeroValue122,
  g1 := by kernel_rfl,
  g3 := by kernel_rfl,
  g4 := by kernel_rfl,
  i0 := by kernel_rfl,
  i3 := by kernel_rfl,
  i4 := by kernel_rfl,
  i5 := by kernel_rfl,
  i9 := by kernel_rfl,
  i21 := by kernel_rfl,
  i31 := by kernel_rfl,
  i46 := by kernel_rfl,
  i51 := by kernel_rfl,
  i105 := by kernel_rfl,
  i138 := by kernel_rfl,
  i139 := by kernel_rfl,
  i146 := by kernel_rfl,
  m1 := by kernel_rfl,
  s1_3 := fun w h => Go.Proofs.cell_of_shapedOpen_int (zero := #[.int .i64 0]) (t := 3) h (of_decide_eq_true (by kernel_rfl)) (by kernel_rfl) rfl (by kernel_rfl) (by kernel_rfl) Tryz.underlying3,
  m3 := by kernel_rfl,
  m4 := by kernel_rfl }

def strings_Join.lays156_ren : Go.Shelf.Ren := ⟨fun | 156 => 86 | 165 => 105 | 166 => 106 | 169 => 107 | 240 => 113 | 241 => 114 | 276 => 121 | 277 => 122 | n => n, fun | 31 => 45 | 9 => 9 | 3 => 3 | 4 => 4 | 0 => 0 | 20 => 20 | 72 => 95 | 76 => 99 | 70 => 93 | 37 => 75 | 75 => 98 | 127 => 106 | 164 => 109 | 5 => 5 | 80 => 101 | n => n, fun | n => n⟩
theorem strings_Join.lays156 : Go.Proofs.Lays.n156 Tryz.prog strings_Join.lays156_ren := {
  mixed := by kernel_rfl,
  f156 := Tryz.func86.trans (congrArg some (by kernel_rfl)),
  f165 := Tryz.func105.trans (congrArg some (by kernel_rfl)),
  f166 := Tryz.func106.trans (congrArg some (by kernel_rfl)),
  f169 := Tryz.func107.trans (congrArg some (by kernel_rfl)),
  f240 := Tryz.func113.trans (congrArg some (by kernel_rfl)),
  f241 := Tryz.func114.trans (congrArg some (by kernel_rfl)),
  f276 := Tryz.func121.trans (congrArg some (by kernel_rfl)),
  f277 := Tryz.func122.trans (congrArg some (by kernel_rfl)),
  t0 := Tryz.underlying0,
  a0 := Tryz.isAgg0,
  z0 := Tryz.sizeOf0,
  v0 := Tryz.zeroValue0,
  t3 := Tryz.underlying3,
  a3 := Tryz.isAgg3,
  z3 := Tryz.sizeOf3,
  v3 := Tryz.zeroValue3,
  t4 := Tryz.underlying4,
  a4 := Tryz.isAgg4,
  z4 := Tryz.sizeOf4,
  v4 := Tryz.zeroValue4,
  t9 := Tryz.underlying9,
  a9 := Tryz.isAgg9,
  z9 := Tryz.sizeOf9,
  v9 := Tryz.zeroValue9,
  t20 := Tryz.underlying20,
  a20 := Tryz.isAgg20,
  z20 := Tryz.sizeOf20,
  v20 := Tryz.zeroValue20,
  t31 := Tryz.underlying45,
  a31 := Tryz.isAgg45,
  z31 := Tryz.sizeOf45,
  v31 := Tryz.zeroValue45,
  t37 := Tryz.underlying75,
  a37 := Tryz.isAgg75,
  z37 := Tryz.sizeOf75,
  v37 := Tryz.zeroValue75,
  t70 := Tryz.underlying93,
  a70 := Tryz.isAgg93,
  z70 := Tryz.sizeOf93,
  v70 := Tryz.zeroValue93,
  t72 := Tryz.underlying95,
  a72 := Tryz.isAgg95,
  z72 := Tryz.sizeOf95,
  v72 := Tryz.zeroValue95,
  t75 := Tryz.underlying98,
  a75 := Tryz.isAgg98,
  z75 := Tryz.sizeOf98,
  v75 := Tryz.zeroValue98,
  t76 := Tryz.underlying99,
  a76 := Tryz.isAgg99,
  z76 := Tryz.sizeOf99,
  v76 := Tryz.zeroValue99,
  t127 := Tryz.underlying106,
  a127 := Tryz.isAgg106,
  z127 := Tryz.sizeOf106,
  v127 := Tryz.zeroValue106,
  t164 := Tryz.underlying109,
  a164 := Tryz.isAgg109,
  z164 := Tryz.sizeOf109,
  v164 := Tryz.zeroValue109 }

def impl_spaced.layD_ren : Go.Shelf.Ren := ⟨fun | 10 => 103 | 6 => 93 | n => n, fun | 22 => 45 | 23 => 9 | 25 => 48 | 3 => 3 | 4 => 4 | 0 => 0 | n => n, fun | n => n⟩
theorem impl_spaced.layD : Go.Proofs.SlLaysH.n10 Tryz.prog impl_spaced.layD_ren := {
  mixed := by kernel_rfl,
  f6 := ⟨Tryz.f93.name, by decide, Tryz.func93.trans (congrArg some (by kernel_rfl))⟩,
  f10 := ⟨Tryz.f103.name, by decide, Tryz.func103.trans (congrArg some (by kernel_rfl))⟩,
  t0 := Tryz.underlying0,
  a0 := Tryz.isAgg0,
  z0 := Tryz.sizeOf0,
  v0 := Tryz.zeroValue0,
  t3 := Tryz.underlying3,
  a3 := Tryz.isAgg3,
  z3 := Tryz.sizeOf3,
  v3 := Tryz.zeroValue3,
  t4 := Tryz.underlying4,
  a4 := Tryz.isAgg4,
  z4 := Tryz.sizeOf4,
  v4 := Tryz.zeroValue4,
  t22 := Tryz.underlying45,
  a22 := Tryz.isAgg45,
  z22 := Tryz.sizeOf45,
  v22 := Tryz.zeroValue45,
  a23 := Tryz.isAgg9,
  z23 := Tryz.sizeOf9,
  t25 := Tryz.underlying48,
  a25 := Tryz.isAgg48,
  z25 := Tryz.sizeOf48,
  v25 := Tryz.zeroValue48 }

end Go.Proofs.YtgpgmamgicgacaaGreatDoor.Px
