/- What the shelf's contracts ask of this program's text (numbers of functions and types, closed facts); no conditions. -/
import Derived.Test.YthbcfjcmkngieaaGreatDoorProg
import Derived.Below
import Derived.Deep.Draws
import Derived.Deep.AppendLies
import Derived.Maps.AppendAt
import Derived.OwnWalk
import Derived.Laws.BytesArg
import Derived.Laws.MakeOwn
import Derived.Laws.OwnMore
import Derived.Deep.OwnRows
import Derived.Tactics
import Derived.Lib.ConvBytes
import Derived.Laws.Slices
import Derived.WalkKit
import Derived.KernelRfl
import Derived.RowKit3
import Derived.Deep.LoopGhost
import Derived.Deep.QuietTactic
import Derived.BigQuiet
import Derived.WideLaws
import Derived.Deep.DeepCutAuto
import Derived.Deep.CutBlock
import Derived.Deep.RegionHeld3
import Derived.Laws.Rows
import Derived.Lib.AppendStr
import Derived.ArgAppend
import Derived.Laws.IdiomCopy
import Derived.OrdersHeld
import Derived.Laws.BitsLemmas
import Derived.RowKit
import Derived.Shelf.Strings.SplitShaped
import Derived.Shelf.Small.Bits
import Derived.Shelf.Strings.OnBuilder
import Derived.Shelf.SlicesE.DeleteFunc
import Derived.Ground.SlgfProg
import Derived.Lib.SliceRun
namespace Go.Proofs.YthbcfjcmkngieaaGreatDoor.Px
open Go.Shelf
def strings_Split.lays_ren : Go.Shelf.Ren := ⟨fun | 146 => 143 | 221 => 154 | 268 => 161 | 138 => 162 | 143 => 163 | 195 => 167 | 197 => 156 | 218 => 168 | 219 => 169 | 260 => 164 | 217 => 174 | 225 => 173 | 224 => 172 | 267 => 175 | 266 => 176 | 314 => 177 | n => n, fun | 9 => 9 | 31 => 25 | 3 => 3 | 4 => 4 | 0 => 0 | 105 => 152 | 21 => 21 | 5 => 5 | 46 => 78 | 119 => 162 | 139 => 165 | 138 => 164 | 146 => 168 | 51 => 104 | n => n, fun | 1 => 0 | 3 => 1 | 4 => 2 | n => n⟩
theorem strings_Split.lays : Go.Proofs.LaysM.n146 Tryz.prog strings_Split.lays_ren := {
  mixed := by kernel_rfl,
  f138 := Tryz.func162.trans (congrArg some (by kernel_rfl)),
  f143 := Tryz.func163.trans (congrArg some (by kernel_rfl)),
  f146 := Tryz.func143.trans (congrArg some (by kernel_rfl)),
  f195 := Tryz.func167.trans (congrArg some (by kernel_rfl)),
  f197 := Tryz.func156.trans (congrArg some (by kernel_rfl)),
  f217 := Tryz.func174.trans (congrArg some (by kernel_rfl)),
  f218 := Tryz.func168.trans (congrArg some (by kernel_rfl)),
  f219 := Tryz.func169.trans (congrArg some (by kernel_rfl)),
  f221 := Tryz.func154.trans (congrArg some (by kernel_rfl)),
  f224 := Tryz.func172.trans (congrArg some (by kernel_rfl)),
  f225 := Tryz.func173.trans (congrArg some (by kernel_rfl)),
  f260 := Tryz.func164.trans (congrArg some (by kernel_rfl)),
  f266 := Tryz.func176.trans (congrArg some (by kernel_rfl)),
  f267 := Tryz.func175.trans (congrArg some (by kernel_rfl)),
  f268 := Tryz.func161.trans (congrArg some (by kernel_rfl)),
  f314 := Tryz.func177.trans (congrArg some (by kernel_rfl)),
  t0 := Tryz.underlying0,
  a0 := Tryz.isAgg0,
  z0 := Tryz.sizeOf0,
  v0 := Tryz.zeroValue0,
  t3 := Tryz.underlying3,
  a3 := Tryz.isAgg3,
  z3 := Tryz.sizeOf3,
  v3 := Tryz.zeroValue3,
  t4 := Tryz.underlying4,
  a4 := Tryz.isAgg4,
  z4 := Tryz.sizeOf4,
  v4 := Tryz.zeroValue4,
  t5 := Tryz.underlying5,
  a5 := Tryz.isAgg5,
  z5 := Tryz.sizeOf5,
  v5 := Tryz.zeroValue5,
  t9 := Tryz.underlying9,
  a9 := Tryz.isAgg9,
  z9 := Tryz.sizeOf9,
  v9 := Tryz.zeroValue9,
  t21 := Tryz.underlying21,
  a21 := Tryz.isAgg21,
  z21 := Tryz.sizeOf21,
  v21 := Tryz.zeroValue21,
  t31 := Tryz.underlying25,
  a31 := Tryz.isAgg25,
  z31 := Tryz.sizeOf25,
  v31 := Tryz.zeroValue25,
  t46 := Tryz.underlying78,
  a46 := Tryz.isAgg78,
  z46 := Tryz.sizeOf78,
  v46 := Tryz.zeroValue78,
  t51 := Tryz.underlying104,
  a51 := Tryz.isAgg104,
  z51 := Tryz.sizeOf104,
  v51 := Tryz.zeroValue104,
  t105 := Tryz.underlying152,
  a105 := Tryz.isAgg152,
  z105 := Tryz.sizeOf152,
  v105 := Tryz.zeroValue152,
  t119 := Tryz.underlying162,
  a119 := Tryz.isAgg162,
  z119 := Tryz.sizeOf162,
  t138 := Tryz.underlying164,
  a138 := Tryz.isAgg164,
  z138 := Tryz.sizeOf164,
  v138 := Tryz.zeroValue164,
  t139 := Tryz.underlying165,
  a139 := Tryz.isAgg165,
  z139 := Tryz.sizeOf165,
  v139 := Tryz.zeroValue165,
  t146 := Tryz.underlying168,
  a146 := Tryz.isAgg168,
  z146 := Tryz.sizeOf168,
  v146 := Tryz.zeroValue168,
  g1 := by kernel_rfl,
  g3 := by kernel_rfl,
  g4 := by kernel_rfl,
  i0 := by kernel_rfl,
  i3 := by kernel_rfl,
  i4 := by kernel_rfl,
  i5 := by kernel_rfl,
  i9 := by kernel_rfl,
  i21 := by kernel_rfl,
  i31 := by kernel_rfl,
  i46 := by kernel_rfl,
  i51 := by kernel_rfl,
  i105 := by kernel_rfl,
  i138 := by kernel_rfl,
  i139 := by kernel_rfl,
  i146 := by kernel_rfl,
  m1 := by kernel_rfl,
  s1_3 := fun w h => Go.Proofs.cell_of_shapedOpen_int (zero := #[.int .i64 0]) (t := 3) h (of_decide_eq_true (by kernel_rfl)) (by kernel_rfl) rfl (by kernel_rfl) (by kernel_rfl) Tryz.underlying3,
  m3 := by kernel_rfl,
  m4 := by kernel_rfl }

def bits_Len.lays_ren : Go.Shelf.Ren := ⟨fun | 125 => 52 | 128 => 88 | 129 => 89 | n => n, fun | 46 => 78 | 3 => 3 | 51 => 104 | 53 => 106 | 4 => 4 | 5 => 5 | 9 => 9 | n => n, fun | n => n⟩
theorem bits_Len.lays : Go.Proofs.Lays.n125 Tryz.prog bits_Len.lays_ren := {
  mixed := by kernel_rfl,
  f125 := Tryz.func52.trans (congrArg some (by kernel_rfl)),
  f128 := Tryz.func88.trans (congrArg some (by kernel_rfl)),
  f129 := Tryz.func89.trans (congrArg some (by kernel_rfl)),
  t3 := Tryz.underlying3,
  a3 := Tryz.isAgg3,
  z3 := Tryz.sizeOf3,
  v3 := Tryz.zeroValue3,
  t4 := Tryz.underlying4,
  a4 := Tryz.isAgg4,
  z4 := Tryz.sizeOf4,
  v4 := Tryz.zeroValue4,
  t5 := Tryz.underlying5,
  a5 := Tryz.isAgg5,
  z5 := Tryz.sizeOf5,
  v5 := Tryz.zeroValue5,
  t9 := Tryz.underlying9,
  a9 := Tryz.isAgg9,
  z9 := Tryz.sizeOf9,
  v9 := Tryz.zeroValue9,
  t46 := Tryz.underlying78,
  a46 := Tryz.isAgg78,
  z46 := Tryz.sizeOf78,
  v46 := Tryz.zeroValue78,
  t51 := Tryz.underlying104,
  a51 := Tryz.isAgg104,
  z51 := Tryz.sizeOf104,
  v51 := Tryz.zeroValue104,
  t53 := Tryz.underlying106,
  a53 := Tryz.isAgg106,
  z53 := Tryz.sizeOf106,
  v53 := Tryz.zeroValue106 }

def strings_Join.lays156_ren : Go.Shelf.Ren := ⟨fun | 156 => 120 | 165 => 137 | 166 => 138 | 169 => 139 | 240 => 152 | 241 => 153 | 276 => 159 | 277 => 160 | n => n, fun | 31 => 25 | 9 => 9 | 3 => 3 | 4 => 4 | 0 => 0 | 20 => 20 | 72 => 133 | 76 => 137 | 70 => 131 | 37 => 65 | 75 => 136 | 127 => 150 | 164 => 155 | 5 => 5 | 80 => 139 | n => n, fun | n => n⟩
theorem strings_Join.lays156 : Go.Proofs.Lays.n156 Tryz.prog strings_Join.lays156_ren := {
  mixed := by kernel_rfl,
  f156 := Tryz.func120.trans (congrArg some (by kernel_rfl)),
  f165 := Tryz.func137.trans (congrArg some (by kernel_rfl)),
  f166 := Tryz.func138.trans (congrArg some (by kernel_rfl)),
  f169 := Tryz.func139.trans (congrArg some (by kernel_rfl)),
  f240 := Tryz.func152.trans (congrArg some (by kernel_rfl)),
  f241 := Tryz.func153.trans (congrArg some (by kernel_rfl)),
  f276 := Tryz.func159.trans (congrArg some (by kernel_rfl)),
  f277 := Tryz.func160.trans (congrArg some (by kernel_rfl)),
  t0 := Tryz.underlying0,
  a0 := Tryz.isAgg0,
  z0 := Tryz.sizeOf0,
  v0 := Tryz.zeroValue0,
  t3 := Tryz.underlying3,
  a3 := Tryz.isAgg3,
  z3 := Tryz.sizeOf3,
  v3 := Tryz.zeroValue3,
  t4 := Tryz.underlying4,
  a4 := Tryz.isAgg4,
  z4 := Tryz.sizeOf4,
  v4 := Tryz.zeroValue4,
  t9 := Tryz.underlying9,
  a9 := Tryz.isAgg9,
  z9 := Tryz.sizeOf9,
  v9 := Tryz.zeroValue9,
  t20 := Tryz.underlying20,
  a20 := Tryz.isAgg20,
  z20 := Tryz.sizeOf20,
  v20 := Tryz.zeroValue20,
  t31 := Tryz.underlying25,
  a31 := Tryz.isAgg25,
  z31 := Tryz.sizeOf25,
  v31 := Tryz.zeroValue25,
  t37 := Tryz.underlying65,
  a37 := Tryz.isAgg65,
  z37 := Tryz.sizeOf65,
  v37 := Tryz.zeroValue65,
  t70 := Tryz.underlying131,
  a70 := Tryz.isAgg131,
  z70 := Tryz.sizeOf131,
  v70 := Tryz.zeroValue131,
  t72 := Tryz.underlying133,
  a72 := Tryz.isAgg133,
  z72 := Tryz.sizeOf133,
  v72 := Tryz.zeroValue133,
  t75 := Tryz.underlying136,
  a75 := Tryz.isAgg136,
  z75 := Tryz.sizeOf136,
  v75 := Tryz.zeroValue136,
  t76 := Tryz.underlying137,
  a76 := Tryz.isAgg137,
  z76 := Tryz.sizeOf137,
  v76 := Tryz.zeroValue137,
  t127 := Tryz.underlying150,
  a127 := Tryz.isAgg150,
  z127 := Tryz.sizeOf150,
  v127 := Tryz.zeroValue150,
  t164 := Tryz.underlying155,
  a164 := Tryz.isAgg155,
  z164 := Tryz.sizeOf155,
  v164 := Tryz.zeroValue155 }

def impl_spaced.layD_ren : Go.Shelf.Ren := ⟨fun | 10 => 135 | 6 => 142 | n => n, fun | 22 => 25 | 23 => 9 | 25 => 89 | 3 => 3 | 4 => 4 | 0 => 0 | n => n, fun | n => n⟩
theorem impl_spaced.layD : Go.Proofs.SlLaysH.n10 Tryz.prog impl_spaced.layD_ren := {
  mixed := by kernel_rfl,
  f6 := ⟨Tryz.f142.name, by decide, Tryz.func142.trans (congrArg some (by kernel_rfl))⟩,
  f10 := ⟨Tryz.f135.name, by decide, Tryz.func135.trans (congrArg some (by kernel_rfl))⟩,
  t0 := Tryz.underlying0,
  a0 := Tryz.isAgg0,
  z0 := Tryz.sizeOf0,
  v0 := Tryz.zeroValue0,
  t3 := Tryz.underlying3,
  a3 := Tryz.isAgg3,
  z3 := Tryz.sizeOf3,
  v3 := Tryz.zeroValue3,
  t4 := Tryz.underlying4,
  a4 := Tryz.isAgg4,
  z4 := Tryz.sizeOf4,
  v4 := Tryz.zeroValue4,
  t22 := Tryz.underlying25,
  a22 := Tryz.isAgg25,
  z22 := Tryz.sizeOf25,
  v22 := Tryz.zeroValue25,
  a23 := Tryz.isAgg9,
  z23 := Tryz.sizeOf9,
  t25 := Tryz.underlying89,
  a25 := Tryz.isAgg89,
  z25 := Tryz.sizeOf89,
  v25 := Tryz.zeroValue89 }

end Go.Proofs.YthbcfjcmkngieaaGreatDoor.Px
