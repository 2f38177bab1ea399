/- What the shelf's contracts ask of this program's text (numbers of functions and types, closed facts); no conditions. -/
import Derived.Test.YtffolbeijanidaaGreatDoorProg
import Derived.Below
import Derived.Deep.Draws
import Derived.Deep.AppendLies
import Derived.Maps.AppendAt
import Derived.OwnWalk
import Derived.Laws.BytesArg
import Derived.Laws.MakeOwn
import Derived.Laws.OwnMore
import Derived.Deep.OwnRows
import Derived.Tactics
import Derived.Lib.ConvBytes
import Derived.Laws.Slices
import Derived.WalkKit
import Derived.KernelRfl
import Derived.RowKit3
import Derived.Deep.LoopGhost
import Derived.Deep.QuietTactic
import Derived.BigQuiet
import Derived.WideLaws
import Derived.Deep.DeepCutAuto
import Derived.Deep.CutBlock
import Derived.Deep.RegionHeld3
import Derived.Laws.Rows
import Derived.Lib.AppendStr
import Derived.ArgAppend
import Derived.Laws.IdiomCopy
import Derived.OrdersHeld
import Derived.Laws.BitsLemmas
import Derived.RowKit
import Derived.Shelf.Strings.SplitShaped
import Derived.Shelf.Small.Bits
import Derived.Shelf.Strings.OnBuilder
import Derived.Shelf.SlicesE.DeleteFunc
import Derived.Ground.SlgfProg
import Derived.Lib.SliceRun
namespace Go.Proofs.YtffolbeijanidaaGreatDoor.Px
open Go.Shelf
def strings_Split.lays_ren : Go.Shelf.Ren := ⟨fun | 146 => 135 | 221 => 150 | 268 => 157 | 138 => 158 | 143 => 159 | 195 => 165 | 197 => 152 | 218 => 166 | 219 => 167 | 260 => 160 | 217 => 172 | 225 => 171 | 224 => 170 | 267 => 173 | 266 => 174 | 314 => 175 | n => n, fun | 9 => 9 | 31 => 26 | 3 => 3 | 4 => 4 | 0 => 0 | 105 => 149 | 21 => 21 | 5 => 5 | 46 => 79 | 119 => 160 | 139 => 163 | 138 => 162 | 146 => 166 | 51 => 104 | n => n, fun | 1 => 0 | 3 => 1 | 4 => 2 | n => n⟩
theorem strings_Split.lays : Go.Proofs.LaysM.n146 Tryz.prog strings_Split.lays_ren := {
  mixed := by kernel_rfl,
  f138 := Tryz.func158.trans (congrArg some (by kernel_rfl)),
  f143 := Tryz.func159.trans (congrArg some (by kernel_rfl)),
  f146 := Tryz.func135.trans (congrArg some (by kernel_rfl)),
  f195 := Tryz.func165.trans (congrArg some (by kernel_rfl)),
  f197 := Tryz.func152.trans (congrArg some (by kernel_rfl)),
  f217 := Tryz.func172.trans (congrArg some (by kernel_rfl)),
  f218 := Tryz.func166.trans (congrArg some (by kernel_rfl)),
  f219 := Tryz.func167.trans (congrArg some (by kernel_rfl)),
  f221 := Tryz.func150.trans (congrArg some (by kernel_rfl)),
  f224 := Tryz.func170.trans (congrArg some (by kernel_rfl)),
  f225 := Tryz.func171.trans (congrArg some (by kernel_rfl)),
  f260 := Tryz.func160.trans (congrArg some (by kernel_rfl)),
  f266 := Tryz.func174.trans (congrArg some (by kernel_rfl)),
  f267 := Tryz.func173.trans (congrArg some (by kernel_rfl)),
  f268 := Tryz.func157.trans (congrArg some (by kernel_rfl)),
  f314 := Tryz.func175.trans (congrArg some (by kernel_rfl)),
  t0 := Tryz.underlying0,
  a0 := Tryz.isAgg0,
  z0 := Tryz.sizeOf0,
  v0 := Tryz.zeroValue0,
  t3 := Tryz.underlying3,
  a3 := Tryz.isAgg3,
  z3 := Tryz.sizeOf3,
  v3 := Tryz.zeroValue3,
  t4 := Tryz.underlying4,
  a4 := Tryz.isAgg4,
  z4 := Tryz.sizeOf4,
  v4 := Tryz.zeroValue4,
  t5 := Tryz.underlying5,
  a5 := Tryz.isAgg5,
  z5 := Tryz.sizeOf5,
  v5 := Tryz.zeroValue5,
  t9 := Tryz.underlying9,
  a9 := Tryz.isAgg9,
  z9 := Tryz.sizeOf9,
  v9 := Tryz.zeroValue9,
  t21 := Tryz.underlying21,
  a21 := Tryz.isAgg21,
  z21 := Tryz.sizeOf21,
  v21 := Tryz.zeroValue21,
  t31 := Tryz.underlying26,
  a31 := Tryz.isAgg26,
  z31 := Tryz.sizeOf26,
  v31 := Tryz.zeroValue26,
  t46 := Tryz.underlying79,
  a46 := Tryz.isAgg79,
  z46 := Tryz.sizeOf79,
  v46 := Tryz.zeroValue79,
  t51 := Tryz.underlying104,
  a51 := Tryz.isAgg104,
  z51 := Tryz.sizeOf104,
  v51 := Tryz.zeroValue104,
  t105 := Tryz.underlying149,
  a105 := Tryz.isAgg149,
  z105 := Tryz.sizeOf149,
  v105 := Tryz.zeroValue149,
  t119 := Tryz.underlying160,
  a119 := Tryz.isAgg160,
  z119 := Tryz.sizeOf160,
  t138 := Tryz.underlying162,
  a138 := Tryz.isAgg162,
  z138 := Tryz.sizeOf162,
  v138 := Tryz.zeroValue162,
  t139 := Tryz.underlying163,
  a139 := Tryz.isAgg163,
  z139 := Tryz.sizeOf163,
  v139 := Tryz.zeroValue163,
  t146 := Tryz.underlying166,
  a146 := Tryz.isAgg166,
  z146 := Tryz.sizeOf166,
  v146 := Tryz.zeroValue166,
  g1 := by kernel_rfl,
  g3 := by kernel_rfl,
  g4 := by kernel_rfl,
  i0 := by kernel_rfl,
  i3 := by kernel_rfl,
  i4 := by kernel_rfl,
  i5 := by kernel_rfl,
  i9 := by kernel_rfl,
  i21 := by kernel_rfl,
  i31 := by kernel_rfl,
  i46 := by kernel_rfl,
  i51 := by kernel_rfl,
  i105 := by kernel_rfl,
  i138 := by kernel_rfl,
  i139 := by kernel_rfl,
  i146 := by kernel_rfl,
  m1 := by kernel_rfl,
  s1_3 := fun w h => Go.Proofs.cell_of_shapedOpen_int (zero := #[.int .i64 0]) (t := 3) h (of_decide_eq_true (by kernel_rfl)) (by kernel_rfl) rfl (by kernel_rfl) (by kernel_rfl) Tryz.underlying3,
  m3 := by kernel_rfl,
  m4 := by kernel_rfl }

def bits_Len.lays_ren : Go.Shelf.Ren := ⟨fun | 125 => 57 | 128 => 94 | 129 => 95 | n => n, fun | 46 => 79 | 3 => 3 | 51 => 104 | 53 => 106 | 4 => 4 | 5 => 5 | 9 => 9 | n => n, fun | n => n⟩
theorem bits_Len.lays : Go.Proofs.Lays.n125 Tryz.prog bits_Len.lays_ren := {
  mixed := by kernel_rfl,
  f125 := Tryz.func57.trans (congrArg some (by kernel_rfl)),
  f128 := Tryz.func94.trans (congrArg some (by kernel_rfl)),
  f129 := Tryz.func95.trans (congrArg some (by kernel_rfl)),
  t3 := Tryz.underlying3,
  a3 := Tryz.isAgg3,
  z3 := Tryz.sizeOf3,
  v3 := Tryz.zeroValue3,
  t4 := Tryz.underlying4,
  a4 := Tryz.isAgg4,
  z4 := Tryz.sizeOf4,
  v4 := Tryz.zeroValue4,
  t5 := Tryz.underlying5,
  a5 := Tryz.isAgg5,
  z5 := Tryz.sizeOf5,
  v5 := Tryz.zeroValue5,
  t9 := Tryz.underlying9,
  a9 := Tryz.isAgg9,
  z9 := Tryz.sizeOf9,
  v9 := Tryz.zeroValue9,
  t46 := Tryz.underlying79,
  a46 := Tryz.isAgg79,
  z46 := Tryz.sizeOf79,
  v46 := Tryz.zeroValue79,
  t51 := Tryz.underlying104,
  a51 := Tryz.isAgg104,
  z51 := Tryz.sizeOf104,
  v51 := Tryz.zeroValue104,
  t53 := Tryz.underlying106,
  a53 := Tryz.isAgg106,
  z53 := Tryz.sizeOf106,
  v53 := Tryz.zeroValue106 }

def strings_Join.lays156_ren : Go.Shelf.Ren := ⟨fun | 156 => 127 | 165 => 147 | 166 => 148 | 169 => 149 | 240 => 155 | 241 => 156 | 276 => 163 | 277 => 164 | n => n, fun | 31 => 26 | 9 => 9 | 3 => 3 | 4 => 4 | 0 => 0 | 20 => 20 | 72 => 141 | 76 => 145 | 70 => 139 | 37 => 64 | 75 => 144 | 127 => 152 | 164 => 155 | 5 => 5 | 80 => 147 | n => n, fun | n => n⟩
theorem strings_Join.lays156 : Go.Proofs.Lays.n156 Tryz.prog strings_Join.lays156_ren := {
  mixed := by kernel_rfl,
  f156 := Tryz.func127.trans (congrArg some (by kernel_rfl)),
  f165 := Tryz.func147.trans (congrArg some (by kernel_rfl)),
  f166 := Tryz.func148.trans (congrArg some (by kernel_rfl)),
  f169 := Tryz.func149.trans (congrArg some (by kernel_rfl)),
  f240 := Tryz.func155.trans (congrArg some (by kernel_rfl)),
  f241 := Tryz.func156.trans (congrArg some (by kernel_rfl)),
  f276 := Tryz.func163.trans (congrArg some (by kernel_rfl)),
  f277 := Tryz.func164.trans (congrArg some (by kernel_rfl)),
  t0 := Tryz.underlying0,
  a0 := Tryz.isAgg0,
  z0 := Tryz.sizeOf0,
  v0 := Tryz.zeroValue0,
  t3 := Tryz.underlying3,
  a3 := Tryz.isAgg3,
  z3 := Tryz.sizeOf3,
  v3 := Tryz.zeroValue3,
  t4 := Tryz.underlying4,
  a4 := Tryz.isAgg4,
  z4 := Tryz.sizeOf4,
  v4 := Tryz.zeroValue4,
  t9 := Tryz.underlying9,
  a9 := Tryz.isAgg9,
  z9 := Tryz.sizeOf9,
  v9 := Tryz.zeroValue9,
  t20 := Tryz.underlying20,
  a20 := Tryz.isAgg20,
  z20 := Tryz.sizeOf20,
  v20 := Tryz.zeroValue20,
  t31 := Tryz.underlying26,
  a31 := Tryz.isAgg26,
  z31 := Tryz.sizeOf26,
  v31 := Tryz.zeroValue26,
  t37 := Tryz.underlying64,
  a37 := Tryz.isAgg64,
  z37 := Tryz.sizeOf64,
  v37 := Tryz.zeroValue64,
  t70 := Tryz.underlying139,
  a70 := Tryz.isAgg139,
  z70 := Tryz.sizeOf139,
  v70 := Tryz.zeroValue139,
  t72 := Tryz.underlying141,
  a72 := Tryz.isAgg141,
  z72 := Tryz.sizeOf141,
  v72 := Tryz.zeroValue141,
  t75 := Tryz.underlying144,
  a75 := Tryz.isAgg144,
  z75 := Tryz.sizeOf144,
  v75 := Tryz.zeroValue144,
  t76 := Tryz.underlying145,
  a76 := Tryz.isAgg145,
  z76 := Tryz.sizeOf145,
  v76 := Tryz.zeroValue145,
  t127 := Tryz.underlying152,
  a127 := Tryz.isAgg152,
  z127 := Tryz.sizeOf152,
  v127 := Tryz.zeroValue152,
  t164 := Tryz.underlying155,
  a164 := Tryz.isAgg155,
  z164 := Tryz.sizeOf155,
  v164 := Tryz.zeroValue155 }

def impl_spaced.layD_ren : Go.Shelf.Ren := ⟨fun | 10 => 145 | 6 => 134 | n => n, fun | 22 => 26 | 23 => 9 | 25 => 66 | 3 => 3 | 4 => 4 | 0 => 0 | n => n, fun | n => n⟩
theorem impl_spaced.layD : Go.Proofs.SlLaysH.n10 Tryz.prog impl_spaced.layD_ren := {
  mixed := by kernel_rfl,
  f6 := ⟨Tryz.f134.name, by decide, Tryz.func134.trans (congrArg some (by kernel_rfl))⟩,
  f10 := ⟨Tryz.f145.name, by decide, Tryz.func145.trans (congrArg some (by kernel_rfl))⟩,
  t0 := Tryz.underlying0,
  a0 := Tryz.isAgg0,
  z0 := Tryz.sizeOf0,
  v0 := Tryz.zeroValue0,
  t3 := Tryz.underlying3,
  a3 := Tryz.isAgg3,
  z3 := Tryz.sizeOf3,
  v3 := Tryz.zeroValue3,
  t4 := Tryz.underlying4,
  a4 := Tryz.isAgg4,
  z4 := Tryz.sizeOf4,
  v4 := Tryz.zeroValue4,
  t22 := Tryz.underlying26,
  a22 := Tryz.isAgg26,
  z22 := Tryz.sizeOf26,
  v22 := Tryz.zeroValue26,
  a23 := Tryz.isAgg9,
  z23 := Tryz.sizeOf9,
  t25 := Tryz.underlying66,
  a25 := Tryz.isAgg66,
  z25 := Tryz.sizeOf66,
  v25 := Tryz.zeroValue66 }

end Go.Proofs.YtffolbeijanidaaGreatDoor.Px
