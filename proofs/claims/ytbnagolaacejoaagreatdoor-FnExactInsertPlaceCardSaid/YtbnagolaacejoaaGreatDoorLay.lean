/- What the shelf's contracts ask of this program's text (numbers of functions and types, closed facts); no conditions. -/
import Derived.Test.YtbnagolaacejoaaGreatDoorProg
import Derived.Below
import Derived.Deep.Draws
import Derived.Deep.AppendLies
import Derived.Maps.AppendAt
import Derived.OwnWalk
import Derived.Laws.BytesArg
import Derived.Laws.MakeOwn
import Derived.Laws.OwnMore
import Derived.Deep.OwnRows
import Derived.Tactics
import Derived.Lib.ConvBytes
import Derived.Laws.Slices
import Derived.WalkKit
import Derived.KernelRfl
import Derived.RowKit3
import Derived.Deep.LoopGhost
import Derived.Deep.QuietTactic
import Derived.BigQuiet
import Derived.WideLaws
import Derived.Deep.DeepCutAuto
import Derived.Deep.CutBlock
import Derived.Deep.RegionHeld3
import Derived.Laws.Rows
import Derived.Lib.AppendStr
import Derived.ArgAppend
import Derived.Laws.IdiomCopy
import Derived.OrdersHeld
import Derived.Laws.BitsLemmas
import Derived.RowKit
import Derived.Shelf.Strings.SplitShaped
import Derived.Shelf.Small.Bits
import Derived.Shelf.Strings.OnBuilder
import Derived.Shelf.SlicesE.DeleteFunc
import Derived.Ground.SlgfProg
import Derived.Lib.SliceRun
namespace Go.Proofs.YtbnagolaacejoaaGreatDoor.Px
open Go.Shelf
def strings_Split.lays_ren : Go.Shelf.Ren := ⟨fun | 146 => 137 | 221 => 148 | 268 => 155 | 138 => 156 | 143 => 157 | 195 => 161 | 197 => 150 | 218 => 162 | 219 => 163 | 260 => 158 | 217 => 168 | 225 => 167 | 224 => 166 | 267 => 169 | 266 => 170 | 314 => 171 | n => n, fun | 9 => 9 | 31 => 25 | 3 => 3 | 4 => 4 | 0 => 0 | 105 => 147 | 21 => 21 | 5 => 5 | 46 => 73 | 119 => 157 | 139 => 160 | 138 => 159 | 146 => 163 | 51 => 98 | n => n, fun | 1 => 0 | 3 => 1 | 4 => 2 | n => n⟩
theorem strings_Split.lays : Go.Proofs.LaysM.n146 Tryz.prog strings_Split.lays_ren := {
  mixed := by kernel_rfl,
  f138 := Tryz.func156.trans (congrArg some (by kernel_rfl)),
  f143 := Tryz.func157.trans (congrArg some (by kernel_rfl)),
  f146 := Tryz.func137.trans (congrArg some (by kernel_rfl)),
  f195 := Tryz.func161.trans (congrArg some (by kernel_rfl)),
  f197 := Tryz.func150.trans (congrArg some (by kernel_rfl)),
  f217 := Tryz.func168.trans (congrArg some (by kernel_rfl)),
  f218 := Tryz.func162.trans (congrArg some (by kernel_rfl)),
  f219 := Tryz.func163.trans (congrArg some (by kernel_rfl)),
  f221 := Tryz.func148.trans (congrArg some (by kernel_rfl)),
  f224 := Tryz.func166.trans (congrArg some (by kernel_rfl)),
  f225 := Tryz.func167.trans (congrArg some (by kernel_rfl)),
  f260 := Tryz.func158.trans (congrArg some (by kernel_rfl)),
  f266 := Tryz.func170.trans (congrArg some (by kernel_rfl)),
  f267 := Tryz.func169.trans (congrArg some (by kernel_rfl)),
  f268 := Tryz.func155.trans (congrArg some (by kernel_rfl)),
  f314 := Tryz.func171.trans (congrArg some (by kernel_rfl)),
  t0 := Tryz.underlying0,
  a0 := Tryz.isAgg0,
  z0 := Tryz.sizeOf0,
  v0 := Tryz.zeroValue0,
  t3 := Tryz.underlying3,
  a3 := Tryz.isAgg3,
  z3 := Tryz.sizeOf3,
  v3 := Tryz.zeroValue3,
  t4 := Tryz.underlying4,
  a4 := Tryz.isAgg4,
  z4 := Tryz.sizeOf4,
  v4 := Tryz.zeroValue4,
  t5 := Tryz.underlying5,
  a5 := Tryz.isAgg5,
  z5 := Tryz.sizeOf5,
  v5 := Tryz.zeroValue5,
  t9 := Tryz.underlying9,
  a9 := Tryz.isAgg9,
  z9 := Tryz.sizeOf9,
  v9 := Tryz.zeroValue9,
  t21 := Tryz.underlying21,
  a21 := Tryz.isAgg21,
  z21 := Tryz.sizeOf21,
  v21 := Tryz.zeroValue21,
  t31 := Tryz.underlying25,
  a31 := Tryz.isAgg25,
  z31 := Tryz.sizeOf25,
  v31 := Tryz.zeroValue25,
  t46 := Tryz.underlying73,
  a46 := Tryz.isAgg73,
  z46 := Tryz.sizeOf73,
  v46 := Tryz.zeroValue73,
  t51 := Tryz.underlying98,
  a51 := Tryz.isAgg98,
  z51 := Tryz.sizeOf98,
  v51 := Tryz.zeroValue98,
  t105 := Tryz.underlying147,
  a105 := Tryz.isAgg147,
  z105 := Tryz.sizeOf147,
  v105 := Tryz.zeroValue147,
  t119 := Tryz.underlying157,
  a119 := Tryz.isAgg157,
  z119 := Tryz.sizeOf157,
  t138 := Tryz.underlying159,
  a138 := Tryz.isAgg159,
  z138 := Tryz.sizeOf159,
  v138 := Tryz.zeroValue159,
  t139 := Tryz.underlying160,
  a139 := Tryz.isAgg160,
  z139 := Tryz.sizeOf160,
  v139 := Tryz.zeroValue160,
  t146 := Tryz.underlying163,
  a146 := Tryz.isAgg163,
  z146 := Tryz.sizeOf163,
  v146 := Tryz.zeroValue163,
  g1 := by kernel_rfl,
  g3 := by kernel_rfl,
  g4 := by kernel_rfl,
  i0 := by kernel_rfl,
  i3 := by kernel_rfl,
  i4 := by kernel_rfl,
  i5 := by kernel_rfl,
  i9 := by kernel_rfl,
  i21 := by kernel_rfl,
  i31 := by kernel_rfl,
  i46 := by kernel_rfl,
  i51 := by kernel_rfl,
  i105 := by kernel_rfl,
  i138 := by kernel_rfl,
  i139 := by kernel_rfl,
  i146 := by kernel_rfl,
  m1 := by kernel_rfl,
  s1_3 := fun w h => Go.Proofs.cell_of_shapedOpen_int (zero := #[.int .i64 0]) (t := 3) h (of_decide_eq_true (by kernel_rfl)) (by kernel_rfl) rfl (by kernel_rfl) (by kernel_rfl) Tryz.underlying3,
  m3 := by kernel_rfl,
  m4 := by kernel_rfl }

def bits_Len.lays_ren : Go.Shelf.Ren := ⟨fun | 125 => 46 | 128 => 82 | 129 => 83 | n => n, fun | 46 => 73 | 3 => 3 | 51 => 98 | 53 => 100 | 4 => 4 | 5 => 5 | 9 => 9 | n => n, fun | n => n⟩
theorem bits_Len.lays : Go.Proofs.Lays.n125 Tryz.prog bits_Len.lays_ren := {
  mixed := by kernel_rfl,
  f125 := Tryz.func46.trans (congrArg some (by kernel_rfl)),
  f128 := Tryz.func82.trans (congrArg some (by kernel_rfl)),
  f129 := Tryz.func83.trans (congrArg some (by kernel_rfl)),
  t3 := Tryz.underlying3,
  a3 := Tryz.isAgg3,
  z3 := Tryz.sizeOf3,
  v3 := Tryz.zeroValue3,
  t4 := Tryz.underlying4,
  a4 := Tryz.isAgg4,
  z4 := Tryz.sizeOf4,
  v4 := Tryz.zeroValue4,
  t5 := Tryz.underlying5,
  a5 := Tryz.isAgg5,
  z5 := Tryz.sizeOf5,
  v5 := Tryz.zeroValue5,
  t9 := Tryz.underlying9,
  a9 := Tryz.isAgg9,
  z9 := Tryz.sizeOf9,
  v9 := Tryz.zeroValue9,
  t46 := Tryz.underlying73,
  a46 := Tryz.isAgg73,
  z46 := Tryz.sizeOf73,
  v46 := Tryz.zeroValue73,
  t51 := Tryz.underlying98,
  a51 := Tryz.isAgg98,
  z51 := Tryz.sizeOf98,
  v51 := Tryz.zeroValue98,
  t53 := Tryz.underlying100,
  a53 := Tryz.isAgg100,
  z53 := Tryz.sizeOf100,
  v53 := Tryz.zeroValue100 }

def strings_Join.lays156_ren : Go.Shelf.Ren := ⟨fun | 156 => 114 | 165 => 131 | 166 => 132 | 169 => 133 | 240 => 146 | 241 => 147 | 276 => 153 | 277 => 154 | n => n, fun | 31 => 25 | 9 => 9 | 3 => 3 | 4 => 4 | 0 => 0 | 20 => 20 | 72 => 128 | 76 => 132 | 70 => 126 | 37 => 108 | 75 => 131 | 127 => 145 | 164 => 150 | 5 => 5 | 80 => 134 | n => n, fun | n => n⟩
theorem strings_Join.lays156 : Go.Proofs.Lays.n156 Tryz.prog strings_Join.lays156_ren := {
  mixed := by kernel_rfl,
  f156 := Tryz.func114.trans (congrArg some (by kernel_rfl)),
  f165 := Tryz.func131.trans (congrArg some (by kernel_rfl)),
  f166 := Tryz.func132.trans (congrArg some (by kernel_rfl)),
  f169 := Tryz.func133.trans (congrArg some (by kernel_rfl)),
  f240 := Tryz.func146.trans (congrArg some (by kernel_rfl)),
  f241 := Tryz.func147.trans (congrArg some (by kernel_rfl)),
  f276 := Tryz.func153.trans (congrArg some (by kernel_rfl)),
  f277 := Tryz.func154.trans (congrArg some (by kernel_rfl)),
  t0 := Tryz.underlying0,
  a0 := Tryz.isAgg0,
  z0 := Tryz.sizeOf0,
  v0 := Tryz.zeroValue0,
  t3 := Tryz.underlying3,
  a3 := Tryz.isAgg3,
  z3 := Tryz.sizeOf3,
  v3 := Tryz.zeroValue3,
  t4 := Tryz.underlying4,
  a4 := Tryz.isAgg4,
  z4 := Tryz.sizeOf4,
  v4 := Tryz.zeroValue4,
  t9 := Tryz.underlying9,
  a9 := Tryz.isAgg9,
  z9 := Tryz.sizeOf9,
  v9 := Tryz.zeroValue9,
  t20 := Tryz.underlying20,
  a20 := Tryz.isAgg20,
  z20 := Tryz.sizeOf20,
  v20 := Tryz.zeroValue20,
  t31 := Tryz.underlying25,
  a31 := Tryz.isAgg25,
  z31 := Tryz.sizeOf25,
  v31 := Tryz.zeroValue25,
  t37 := Tryz.underlying108,
  a37 := Tryz.isAgg108,
  z37 := Tryz.sizeOf108,
  v37 := Tryz.zeroValue108,
  t70 := Tryz.underlying126,
  a70 := Tryz.isAgg126,
  z70 := Tryz.sizeOf126,
  v70 := Tryz.zeroValue126,
  t72 := Tryz.underlying128,
  a72 := Tryz.isAgg128,
  z72 := Tryz.sizeOf128,
  v72 := Tryz.zeroValue128,
  t75 := Tryz.underlying131,
  a75 := Tryz.isAgg131,
  z75 := Tryz.sizeOf131,
  v75 := Tryz.zeroValue131,
  t76 := Tryz.underlying132,
  a76 := Tryz.isAgg132,
  z76 := Tryz.sizeOf132,
  v76 := Tryz.zeroValue132,
  t127 := Tryz.underlying145,
  a127 := Tryz.isAgg145,
  z127 := Tryz.sizeOf145,
  v127 := Tryz.zeroValue145,
  t164 := Tryz.underlying150,
  a164 := Tryz.isAgg150,
  z164 := Tryz.sizeOf150,
  v164 := Tryz.zeroValue150 }

def impl_spaced.layD_ren : Go.Shelf.Ren := ⟨fun | 10 => 129 | 6 => 136 | n => n, fun | 22 => 25 | 23 => 9 | 25 => 84 | 3 => 3 | 4 => 4 | 0 => 0 | n => n, fun | n => n⟩
theorem impl_spaced.layD : Go.Proofs.SlLaysH.n10 Tryz.prog impl_spaced.layD_ren := {
  mixed := by kernel_rfl,
  f6 := ⟨Tryz.f136.name, by decide, Tryz.func136.trans (congrArg some (by kernel_rfl))⟩,
  f10 := ⟨Tryz.f129.name, by decide, Tryz.func129.trans (congrArg some (by kernel_rfl))⟩,
  t0 := Tryz.underlying0,
  a0 := Tryz.isAgg0,
  z0 := Tryz.sizeOf0,
  v0 := Tryz.zeroValue0,
  t3 := Tryz.underlying3,
  a3 := Tryz.isAgg3,
  z3 := Tryz.sizeOf3,
  v3 := Tryz.zeroValue3,
  t4 := Tryz.underlying4,
  a4 := Tryz.isAgg4,
  z4 := Tryz.sizeOf4,
  v4 := Tryz.zeroValue4,
  t22 := Tryz.underlying25,
  a22 := Tryz.isAgg25,
  z22 := Tryz.sizeOf25,
  v22 := Tryz.zeroValue25,
  a23 := Tryz.isAgg9,
  z23 := Tryz.sizeOf9,
  t25 := Tryz.underlying84,
  a25 := Tryz.isAgg84,
  z25 := Tryz.sizeOf84,
  v25 := Tryz.zeroValue84 }

end Go.Proofs.YtbnagolaacejoaaGreatDoor.Px
