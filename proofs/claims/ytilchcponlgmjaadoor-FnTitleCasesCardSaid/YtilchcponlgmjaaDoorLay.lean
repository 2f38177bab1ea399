/- What the shelf's contracts ask of this program's text (numbers of functions and types, closed facts); no conditions. -/
import Derived.Test.YtilchcponlgmjaaDoorProg
import Derived.Below
import Derived.Deep.Draws
import Derived.Deep.AppendLies
import Derived.Maps.AppendAt
import Derived.OwnWalk
import Derived.Laws.BytesArg
import Derived.Laws.MakeOwn
import Derived.Laws.OwnMore
import Derived.Deep.OwnRows
import Derived.Tactics
import Derived.Lib.ConvBytes
import Derived.Laws.Slices
import Derived.WalkKit
import Derived.KernelRfl
import Derived.RowKit3
import Derived.Deep.LoopGhost
import Derived.Deep.QuietTactic
import Derived.BigQuiet
import Derived.WideLaws
import Derived.Deep.DeepCutAuto
import Derived.Deep.CutBlock
import Derived.Deep.RegionHeld3
import Derived.Laws.Rows
import Derived.Lib.AppendStr
import Derived.ArgAppend
import Derived.Laws.IdiomCopy
import Derived.OrdersHeld
import Derived.Laws.BitsLemmas
import Derived.RowKit
import Derived.Shelf.Strings.Shaped
import Derived.Shelf.Strings.OnBuilder
import Derived.Shelf.Strings.IndexAnyAll
namespace Go.Proofs.YtilchcponlgmjaaDoor.Px
open Go.Shelf
def strings_Contains.lays_ren : Go.Shelf.Ren := ⟨fun | 144 => 57 | 143 => 84 | 219 => 105 | 217 => 118 | 225 => 115 | 224 => 114 | 267 => 119 | 266 => 124 | 314 => 125 | n => n, fun | 9 => 9 | 4 => 4 | 3 => 3 | 5 => 5 | 46 => 85 | 146 => 97 | 51 => 96 | n => n, fun | 1 => 0 | n => n⟩
theorem strings_Contains.lays : Go.Proofs.LaysM.n144 Tryd.prog strings_Contains.lays_ren := {
  mixed := by kernel_rfl,
  f143 := Tryd.func84.trans (congrArg some (by kernel_rfl)),
  f144 := Tryd.func57.trans (congrArg some (by kernel_rfl)),
  f217 := Tryd.func118.trans (congrArg some (by kernel_rfl)),
  f219 := Tryd.func105.trans (congrArg some (by kernel_rfl)),
  f224 := Tryd.func114.trans (congrArg some (by kernel_rfl)),
  f225 := Tryd.func115.trans (congrArg some (by kernel_rfl)),
  f266 := Tryd.func124.trans (congrArg some (by kernel_rfl)),
  f267 := Tryd.func119.trans (congrArg some (by kernel_rfl)),
  f314 := Tryd.func125.trans (congrArg some (by kernel_rfl)),
  t3 := Tryd.underlying3,
  a3 := Tryd.isAgg3,
  z3 := Tryd.sizeOf3,
  v3 := Tryd.zeroValue3,
  t4 := Tryd.underlying4,
  a4 := Tryd.isAgg4,
  z4 := Tryd.sizeOf4,
  v4 := Tryd.zeroValue4,
  t5 := Tryd.underlying5,
  a5 := Tryd.isAgg5,
  z5 := Tryd.sizeOf5,
  v5 := Tryd.zeroValue5,
  t9 := Tryd.underlying9,
  a9 := Tryd.isAgg9,
  z9 := Tryd.sizeOf9,
  v9 := Tryd.zeroValue9,
  t46 := Tryd.underlying85,
  a46 := Tryd.isAgg85,
  z46 := Tryd.sizeOf85,
  v46 := Tryd.zeroValue85,
  t51 := Tryd.underlying96,
  a51 := Tryd.isAgg96,
  z51 := Tryd.sizeOf96,
  v51 := Tryd.zeroValue96,
  t146 := Tryd.underlying97,
  a146 := Tryd.isAgg97,
  z146 := Tryd.sizeOf97,
  v146 := Tryd.zeroValue97,
  g1 := by kernel_rfl,
  i3 := by kernel_rfl,
  i4 := by kernel_rfl,
  i5 := by kernel_rfl,
  i9 := by kernel_rfl,
  i46 := by kernel_rfl,
  i51 := by kernel_rfl,
  i146 := by kernel_rfl,
  m1 := by kernel_rfl,
  s1_3 := fun w h => Go.Proofs.cell_of_shapedOpen_int (zero := #[.int .i64 0]) (t := 3) h (of_decide_eq_true (by kernel_rfl)) (by kernel_rfl) rfl (by kernel_rfl) (by kernel_rfl) Tryd.underlying3 }

def strings_Join.lays156_ren : Go.Shelf.Ren := ⟨fun | 156 => 37 | 165 => 67 | 166 => 68 | 169 => 69 | 240 => 96 | 241 => 97 | 276 => 110 | 277 => 111 | n => n, fun | 31 => 34 | 9 => 9 | 3 => 3 | 4 => 4 | 0 => 0 | 20 => 20 | 72 => 61 | 76 => 65 | 70 => 59 | 37 => 29 | 75 => 64 | 127 => 81 | 164 => 90 | 5 => 5 | 80 => 54 | n => n, fun | n => n⟩
theorem strings_Join.lays156 : Go.Proofs.Lays.n156 Tryd.prog strings_Join.lays156_ren := {
  mixed := by kernel_rfl,
  f156 := Tryd.func37.trans (congrArg some (by kernel_rfl)),
  f165 := Tryd.func67.trans (congrArg some (by kernel_rfl)),
  f166 := Tryd.func68.trans (congrArg some (by kernel_rfl)),
  f169 := Tryd.func69.trans (congrArg some (by kernel_rfl)),
  f240 := Tryd.func96.trans (congrArg some (by kernel_rfl)),
  f241 := Tryd.func97.trans (congrArg some (by kernel_rfl)),
  f276 := Tryd.func110.trans (congrArg some (by kernel_rfl)),
  f277 := Tryd.func111.trans (congrArg some (by kernel_rfl)),
  t0 := Tryd.underlying0,
  a0 := Tryd.isAgg0,
  z0 := Tryd.sizeOf0,
  v0 := Tryd.zeroValue0,
  t3 := Tryd.underlying3,
  a3 := Tryd.isAgg3,
  z3 := Tryd.sizeOf3,
  v3 := Tryd.zeroValue3,
  t4 := Tryd.underlying4,
  a4 := Tryd.isAgg4,
  z4 := Tryd.sizeOf4,
  v4 := Tryd.zeroValue4,
  t9 := Tryd.underlying9,
  a9 := Tryd.isAgg9,
  z9 := Tryd.sizeOf9,
  v9 := Tryd.zeroValue9,
  t20 := Tryd.underlying20,
  a20 := Tryd.isAgg20,
  z20 := Tryd.sizeOf20,
  v20 := Tryd.zeroValue20,
  t31 := Tryd.underlying34,
  a31 := Tryd.isAgg34,
  z31 := Tryd.sizeOf34,
  v31 := Tryd.zeroValue34,
  t37 := Tryd.underlying29,
  a37 := Tryd.isAgg29,
  z37 := Tryd.sizeOf29,
  v37 := Tryd.zeroValue29,
  t70 := Tryd.underlying59,
  a70 := Tryd.isAgg59,
  z70 := Tryd.sizeOf59,
  v70 := Tryd.zeroValue59,
  t72 := Tryd.underlying61,
  a72 := Tryd.isAgg61,
  z72 := Tryd.sizeOf61,
  v72 := Tryd.zeroValue61,
  t75 := Tryd.underlying64,
  a75 := Tryd.isAgg64,
  z75 := Tryd.sizeOf64,
  v75 := Tryd.zeroValue64,
  t76 := Tryd.underlying65,
  a76 := Tryd.isAgg65,
  z76 := Tryd.sizeOf65,
  v76 := Tryd.zeroValue65,
  t127 := Tryd.underlying81,
  a127 := Tryd.isAgg81,
  z127 := Tryd.sizeOf81,
  v127 := Tryd.zeroValue81,
  t164 := Tryd.underlying90,
  a164 := Tryd.isAgg90,
  z164 := Tryd.sizeOf90,
  v164 := Tryd.zeroValue90 }

def strings_ContainsAny.lays_ren : Go.Shelf.Ren := ⟨fun | 150 => 40 | 153 => 70 | 152 => 98 | 226 => 99 | 227 => 91 | 228 => 100 | 137 => 112 | 119 => 113 | 224 => 114 | 225 => 115 | 217 => 118 | 266 => 124 | n => n, fun | 9 => 9 | 4 => 4 | 3 => 3 | 5 => 5 | 21 => 21 | 117 => 77 | 116 => 76 | 0 => 0 | 46 => 85 | 124 => 80 | n => n, fun | n => n⟩
theorem strings_ContainsAny.lays : Go.Proofs.Lays.n150 Tryd.prog strings_ContainsAny.lays_ren := {
  mixed := by kernel_rfl,
  f119 := Tryd.func113.trans (congrArg some (by kernel_rfl)),
  f137 := Tryd.func112.trans (congrArg some (by kernel_rfl)),
  f150 := Tryd.func40.trans (congrArg some (by kernel_rfl)),
  f152 := Tryd.func98.trans (congrArg some (by kernel_rfl)),
  f153 := Tryd.func70.trans (congrArg some (by kernel_rfl)),
  f217 := Tryd.func118.trans (congrArg some (by kernel_rfl)),
  f224 := Tryd.func114.trans (congrArg some (by kernel_rfl)),
  f225 := Tryd.func115.trans (congrArg some (by kernel_rfl)),
  f226 := Tryd.func99.trans (congrArg some (by kernel_rfl)),
  f227 := Tryd.func91.trans (congrArg some (by kernel_rfl)),
  f228 := Tryd.func100.trans (congrArg some (by kernel_rfl)),
  f266 := Tryd.func124.trans (congrArg some (by kernel_rfl)),
  t0 := Tryd.underlying0,
  a0 := Tryd.isAgg0,
  z0 := Tryd.sizeOf0,
  v0 := Tryd.zeroValue0,
  t3 := Tryd.underlying3,
  a3 := Tryd.isAgg3,
  z3 := Tryd.sizeOf3,
  v3 := Tryd.zeroValue3,
  t4 := Tryd.underlying4,
  a4 := Tryd.isAgg4,
  z4 := Tryd.sizeOf4,
  v4 := Tryd.zeroValue4,
  t5 := Tryd.underlying5,
  a5 := Tryd.isAgg5,
  z5 := Tryd.sizeOf5,
  v5 := Tryd.zeroValue5,
  t9 := Tryd.underlying9,
  a9 := Tryd.isAgg9,
  z9 := Tryd.sizeOf9,
  v9 := Tryd.zeroValue9,
  t21 := Tryd.underlying21,
  a21 := Tryd.isAgg21,
  z21 := Tryd.sizeOf21,
  v21 := Tryd.zeroValue21,
  t46 := Tryd.underlying85,
  a46 := Tryd.isAgg85,
  z46 := Tryd.sizeOf85,
  v46 := Tryd.zeroValue85,
  t116 := Tryd.underlying76,
  a116 := Tryd.isAgg76,
  z116 := Tryd.sizeOf76,
  t117 := Tryd.underlying77,
  a117 := Tryd.isAgg77,
  z117 := Tryd.sizeOf77,
  v117 := Tryd.zeroValue77,
  t124 := Tryd.underlying80,
  a124 := Tryd.isAgg80,
  z124 := Tryd.sizeOf80,
  v124 := Tryd.zeroValue80 }

end Go.Proofs.YtilchcponlgmjaaDoor.Px
