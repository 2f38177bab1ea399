/- Calls of Go functions come to what the Lean functions beside them say; written by a program of this session (wip/xprint); no conditions. -/
import Derived.Test.YtiaelacjjbdolaaGreatDoorProg
import Derived.Below
import Derived.Deep.Draws
import Derived.Deep.AppendLies
import Derived.Maps.AppendAt
import Derived.OwnWalk
import Derived.Laws.BytesArg
import Derived.Laws.MakeOwn
import Derived.Laws.OwnMore
import Derived.Deep.OwnRows
import Derived.Tactics
import Derived.Lib.ConvBytes
import Derived.Laws.Slices
import Derived.WalkKit
import Derived.KernelRfl
import Derived.RowKit3
import Derived.Deep.LoopGhost
import Derived.Deep.QuietTactic
import Derived.BigQuiet
import Derived.WideLaws
import Derived.Deep.DeepCutAuto
import Derived.Deep.CutBlock
import Derived.Deep.RegionHeld3
import Derived.Laws.Rows
import Derived.Lib.AppendStr
import Derived.ArgAppend
import Derived.Laws.IdiomCopy
import Derived.OrdersHeld
import Derived.Laws.BitsLemmas
import Derived.RowKit
import Derived.Lib.Strings
import Derived.Lib.Bytealg
import Derived.Laws.Cover1
import Derived.Test.YtiaelacjjbdolaaGreatDoorBuf
import Derived.Shelf.Abstract
import Derived.Shelf.Strings.SplitShaped
import Derived.Shelf.Small.Bits
import Derived.Shelf.Sort.Plain
import Derived.Shelf.Slices.In.SortNone
import Derived.Sort.OwnSortedInts
import Derived.Shelf.Slices.CompactI
import Derived.Lib.SliceRun
import Derived.Lib.OwnBridge
import Derived.Shelf.Slices.Reverse
import Derived.Shelf.Strings.OnBuilder
import Derived.Shelf.SlicesE.DeleteFunc
import Derived.Test.YtiaelacjjbdolaaGreatDoorEnv
import Derived.Test.YtiaelacjjbdolaaGreatDoorLay
import Derived.Test.YtiaelacjjbdolaaGreatDoorWWords
import Derived.Test.YtiaelacjjbdolaaGreatDoorWLast
import Derived.Test.YtiaelacjjbdolaaGreatDoorWTab
import Derived.Test.YtiaelacjjbdolaaGreatDoorWFour
import Derived.Test.YtiaelacjjbdolaaGreatDoorWQPut
import Derived.Test.YtiaelacjjbdolaaGreatDoorWApart
import Derived.Test.YtiaelacjjbdolaaGreatDoorWArr
import Derived.Test.YtiaelacjjbdolaaGreatDoorWZeros
import Derived.Test.YtiaelacjjbdolaaGreatDoorWFoot
import Derived.Test.YtiaelacjjbdolaaGreatDoorWKept
import Derived.Test.YtiaelacjjbdolaaGreatDoorWShare
import Derived.Test.YtiaelacjjbdolaaGreatDoorWN
import Derived.Test.YtiaelacjjbdolaaGreatDoorWFootNe
import Derived.Test.YtiaelacjjbdolaaGreatDoorWAt
import Derived.Test.YtiaelacjjbdolaaGreatDoorWEqStruct
import Derived.Test.YtiaelacjjbdolaaGreatDoorWRepsOne
import Derived.Test.YtiaelacjjbdolaaGreatDoorWInv
import Derived.Test.YtiaelacjjbdolaaGreatDoorWInvWords
import Derived.Test.YtiaelacjjbdolaaGreatDoorWGuard
import Derived.Test.YtiaelacjjbdolaaGreatDoorWNEv
import Derived.Test.YtiaelacjjbdolaaGreatDoorWMore
namespace Go.Proofs.YtiaelacjjbdolaaGreatDoor.Px
open Go.RowKit Go.Proofs.YtiaelacjjbdolaaGreatDoorW.PrintWords Go.Proofs.YtiaelacjjbdolaaGreatDoorW.PrintLast Go.Proofs.YtiaelacjjbdolaaGreatDoorW.PrintMore
attribute [local go_sem] fm fj fO fF eV fa fg fh   -- for this text's walks alone
set_option linter.unusedVariables false
set_option linter.unusedSimpArgs false
def errW : Option Int -> Value
  | none => .nilIface
  | some c => .iface 0 (.int .i64 c)
theorem ec : errW none = .nilIface := rfl
theorem d9 (c : Int) : errW (some c) = .iface 0 (.int .i64 c) := rfl
theorem ar {w : World} {g : Nat} {t : TypeId} {v0 v1 v2 v3 : Value} (h : w.heap[g]? = some (.cells #[v0, v1, v2, v3] t (0, 0))) : w.cell? ⟨g, 0, none⟩ = some v0 /\ w.cell? ⟨g, 1, none⟩ = some v1 /\ w.cell? ⟨g, 2, none⟩ = some v2 /\ w.cell? ⟨g, 3, none⟩ = some v3 := ⟨(blk_cell h 0).trans rfl, (blk_cell h 1).trans rfl, (blk_cell h 2).trans rfl, (blk_cell h 3).trans rfl⟩
theorem ao {w : World} {g : Nat} {t : TypeId} {v0 v1 v2 v3 v4 v5 v6 v7 v8 v9 v10 v11 v12 v13 : Value} (h : w.heap[g]? = some (.cells #[v0, v1, v2, v3, v4, v5, v6, v7, v8, v9, v10, v11, v12, v13] t (0, 0))) : w.cell? ⟨g, 0, none⟩ = some v0 /\ w.cell? ⟨g, 1, none⟩ = some v1 /\ w.cell? ⟨g, 2, none⟩ = some v2 /\ w.cell? ⟨g, 3, none⟩ = some v3 /\ w.cell? ⟨g, 4, none⟩ = some v4 /\ w.cell? ⟨g, 5, none⟩ = some v5 /\ w.cell? ⟨g, 6, none⟩ = some v6 /\ w.cell? ⟨g, 7, none⟩ = some v7 /\ w.cell? ⟨g, 8, none⟩ = some v8 /\ w.cell? ⟨g, 9, none⟩ = some v9 /\ w.cell? ⟨g, 10, none⟩ = some v10 /\ w.cell? ⟨g, 11, none⟩ = some v11 /\ w.cell? ⟨g, 12, none⟩ = some v12 /\ w.cell? ⟨g, 13, none⟩ = some v13 := ⟨(blk_cell h 0).trans rfl, (blk_cell h 1).trans rfl, (blk_cell h 2).trans rfl, (blk_cell h 3).trans rfl, (blk_cell h 4).trans rfl, (blk_cell h 5).trans rfl, (blk_cell h 6).trans rfl, (blk_cell h 7).trans rfl, (blk_cell h 8).trans rfl, (blk_cell h 9).trans rfl, (blk_cell h 10).trans rfl, (blk_cell h 11).trans rfl, (blk_cell h 12).trans rfl, (blk_cell h 13).trans rfl⟩
theorem ig : (Tryz.prog.info? 3).map (fun i => (i.zero, i.size, i.bytes)) = some (some (.int .i64 0), 1, 8) := by kernel_rfl
theorem gi : (Tryz.prog.info? 5).map (fun i => (i.zero, i.size, i.bytes)) = some (some (.int .u8 0), 1, 1) := by kernel_rfl
theorem fM : (Tryz.prog.info? 9).map (fun i => (i.zero, i.size, i.bytes)) = some (some (.string ⟨#[]⟩), 1, 16) := by kernel_rfl
theorem nh : (Tryz.prog.info? 43).map (fun i => (i.zero, i.size, i.bytes)) = some (some (.slice none 0 0), 1, 24) := by kernel_rfl
theorem info51 : (Tryz.prog.info? 51).map (fun i => (i.zero, i.size, i.bytes)) = some (some (.agg #[(.string ⟨#[]⟩), (.int .i64 0), (.slice none 0 0), (.slice none 0 0), (.string ⟨#[]⟩), (.string ⟨#[]⟩), (.string ⟨#[]⟩), (.int .i64 0), (.int .i64 0), (.int .i64 0), (.bool false), (.int .i64 0), (.string ⟨#[]⟩), (.string ⟨#[]⟩)]), 14, 192) := by kernel_rfl
theorem info105 : (Tryz.prog.info? 105).map (fun i => (i.zero, i.size, i.bytes)) = some (some (.agg #[(.slice none 0 0), (.string ⟨#[]⟩), (.string ⟨#[]⟩), (.string ⟨#[]⟩)]), 4, 72) := by kernel_rfl
def bA (n c : Nat) : Array Bool := ((List.range n).map fun i => c.testBit i).toArray
-- the values' own types
def ex (xs : List (List ByteArray)) (i : Int) : (List ByteArray) := xs.getD i.toNat ([] : List ByteArray)
theorem jq {w : World} {A : Option Addr} {n : Nat} {xs : List (List ByteArray)} (h : Kd.C (Kd.slice 9 Kd.string) w A n xs) (i : Int) (h0 : 0 <= i) (h1 : i < n) : ∃ ad A0 c0, A = some ad /\ w.cell? (ad.add i.toNat) = some (.slice A0 (ex xs i).length c0) /\ (ex xs i).length <= c0 /\ Kd.string.C w A0 (ex xs i).length (ex xs i) := by
  obtain ⟨ad, c, e, _, hK, hc0⟩ := Kd.C_get h ([] : List ByteArray) i h0 h1;have hc : ∀ j u, c[j]? = some u -> w.cell? (ad.add (i.toNat * 1 + j)) = some u := hc0;obtain ⟨A0, c0, rfl, l0, g0⟩ := hK;exact ⟨ad, A0, c0, e, by have hq := hc 0 _ rfl; rwa [Nat.mul_one, Nat.add_zero] at hq, l0, g0⟩
/-! #### struct type 113 -/
structure eM where
  f0 : (List ByteArray)
  f1 : ByteArray
  f2 : ByteArray
  f3 : ByteArray
def z113 : eM := ⟨([] : List ByteArray), (⟨#[]⟩ : ByteArray), (⟨#[]⟩ : ByteArray), (⟨#[]⟩ : ByteArray)⟩
def fu : Kd eM := Kd.iso (Kd.pair (Kd.slice 9 Kd.string) (Kd.pair Kd.string (Kd.pair Kd.string Kd.string))) (fun x : eM => (x.f0, x.f1, x.f2, x.f3))
theorem lW {w : World} {x : eM} {cs : List Value} (h : fu.K w x cs) : ∃ A0 c0, cs = [.slice A0 x.f0.length c0, .string x.f1, .string x.f2, .string x.f3] /\ x.f0.length <= c0 /\ Kd.string.C w A0 x.f0.length x.f0 := by
  obtain ⟨_, _, rfl, ⟨A0, c0, rfl, l0, g0⟩, ⟨_, _, rfl, rfl, ⟨_, _, rfl, rfl, rfl⟩⟩⟩ := h;exact ⟨A0, c0, rfl, l0, g0⟩
def cx (xs : List eM) (i : Int) : eM := xs.getD i.toNat z113
theorem jG {w : World} {A : Option Addr} {n : Nat} {xs : List eM} (h : Kd.C fu w A n xs) (i : Int) (h0 : 0 <= i) (h1 : i < n) : ∃ ad A0 c0, A = some ad /\ w.cell? (ad.add (i.toNat * 4)) = some (.slice A0 (cx xs i).f0.length c0) /\ w.cell? ⟨(ad.add (i.toNat * 4)).block, (ad.add (i.toNat * 4)).off + 1, none⟩ = some (.string (cx xs i).f1) /\ w.cell? ⟨(ad.add (i.toNat * 4)).block, (ad.add (i.toNat * 4)).off + 2, none⟩ = some (.string (cx xs i).f2) /\ w.cell? ⟨(ad.add (i.toNat * 4)).block, (ad.add (i.toNat * 4)).off + 3, none⟩ = some (.string (cx xs i).f3) /\ (cx xs i).f0.length <= c0 /\ Kd.string.C w A0 (cx xs i).f0.length (cx xs i).f0 := by
  obtain ⟨ad, c, e, _, hK, hc0⟩ := Kd.C_get h z113 i h0 h1;have hc : ∀ j u, c[j]? = some u -> w.cell? (ad.add (i.toNat * 4 + j)) = some u := hc0;obtain ⟨A0, c0, rfl, l0, g0⟩ := lW hK;exact ⟨ad, A0, c0, e, hc 0 _ rfl, by rw [<- bV _ _ 1 (by omega)]; exact hc 1 _ rfl, by rw [<- bV _ _ 2 (by omega)]; exact hc 2 _ rfl, by rw [<- bV _ _ 3 (by omega)]; exact hc 3 _ rfl, l0, g0⟩
/-! #### struct type 62 -/
structure S62 where
  f0 : Int
  f1 : Int
  f2 : Int
  f3 : Bool
def z62 : S62 := ⟨(0 : Int), (0 : Int), (0 : Int), false⟩
def k62 : Kd S62 := Kd.iso (Kd.pair (Kd.int .i64) (Kd.pair (Kd.int .i64) (Kd.pair (Kd.int .i64) Kd.bool))) (fun x : S62 => (x.f0, x.f1, x.f2, x.f3))
theorem nM {w : World} {x : S62} {cs : List Value} (h : k62.K w x cs) : cs = [.int .i64 x.f0, .int .i64 x.f1, .int .i64 x.f2, .bool x.f3] := by
  obtain ⟨_, _, rfl, rfl, ⟨_, _, rfl, rfl, ⟨_, _, rfl, rfl, rfl⟩⟩⟩ := h;exact rfl
/-! #### struct type 64 -/
structure S64 where
  f0 : ByteArray
  f1 : Int
  f2 : (List eM)
  f3 : (List eM)
  f4 : ByteArray
  f5 : ByteArray
  f6 : ByteArray
  f7 : S62
  f8 : Int
  f9 : ByteArray
  f10 : ByteArray
def z64 : S64 := ⟨(⟨#[]⟩ : ByteArray), (0 : Int), ([] : List eM), ([] : List eM), (⟨#[]⟩ : ByteArray), (⟨#[]⟩ : ByteArray), (⟨#[]⟩ : ByteArray), z62, (0 : Int), (⟨#[]⟩ : ByteArray), (⟨#[]⟩ : ByteArray)⟩
def k64 : Kd S64 := Kd.iso (Kd.pair Kd.string (Kd.pair (Kd.int .i64) (Kd.pair (Kd.slice 113 fu) (Kd.pair (Kd.slice 113 fu) (Kd.pair Kd.string (Kd.pair Kd.string (Kd.pair Kd.string (Kd.pair k62 (Kd.pair (Kd.int .i64) (Kd.pair Kd.string Kd.string)))))))))) (fun x : S64 => (x.f0, x.f1, x.f2, x.f3, x.f4, x.f5, x.f6, x.f7, x.f8, x.f9, x.f10))
theorem nx {w : World} {x : S64} {cs : List Value} (h : k64.K w x cs) : ∃ A2 c2 A3 c3, cs = [.string x.f0, .int .i64 x.f1, .slice A2 x.f2.length c2, .slice A3 x.f3.length c3, .string x.f4, .string x.f5, .string x.f6, .int .i64 x.f7.f0, .int .i64 x.f7.f1, .int .i64 x.f7.f2, .bool x.f7.f3, .int .i64 x.f8, .string x.f9, .string x.f10] /\ x.f2.length <= c2 /\ fu.C w A2 x.f2.length x.f2 /\ x.f3.length <= c3 /\ fu.C w A3 x.f3.length x.f3 := by
  obtain ⟨_, _, rfl, rfl, ⟨_, _, rfl, rfl, ⟨_, _, rfl, ⟨A2, c2, rfl, l2, g2⟩, ⟨_, _, rfl, ⟨A3, c3, rfl, l3, g3⟩, ⟨_, _, rfl, rfl, ⟨_, _, rfl, rfl, ⟨_, _, rfl, rfl, ⟨_, _, rfl, s7, ⟨_, _, rfl, rfl, ⟨_, _, rfl, rfl, rfl⟩⟩⟩⟩⟩⟩⟩⟩⟩⟩ := h;obtain rfl := nM s7;exact ⟨A2, c2, A3, c3, rfl, l2, g2, l3, g3⟩
def al (xs : List S64) (i : Int) : S64 := xs.getD i.toNat z64
theorem kw {w : World} {A : Option Addr} {n : Nat} {xs : List S64} (h : Kd.C k64 w A n xs) (i : Int) (h0 : 0 <= i) (h1 : i < n) : ∃ ad A2 c2 A3 c3, A = some ad /\ w.cell? (ad.add (i.toNat * 14)) = some (.string (al xs i).f0) /\ w.cell? ⟨(ad.add (i.toNat * 14)).block, (ad.add (i.toNat * 14)).off + 1, none⟩ = some (.int .i64 (al xs i).f1) /\ w.cell? ⟨(ad.add (i.toNat * 14)).block, (ad.add (i.toNat * 14)).off + 2, none⟩ = some (.slice A2 (al xs i).f2.length c2) /\ w.cell? ⟨(ad.add (i.toNat * 14)).block, (ad.add (i.toNat * 14)).off + 3, none⟩ = some (.slice A3 (al xs i).f3.length c3) /\ w.cell? ⟨(ad.add (i.toNat * 14)).block, (ad.add (i.toNat * 14)).off + 4, none⟩ = some (.string (al xs i).f4) /\ w.cell? ⟨(ad.add (i.toNat * 14)).block, (ad.add (i.toNat * 14)).off + 5, none⟩ = some (.string (al xs i).f5) /\ w.cell? ⟨(ad.add (i.toNat * 14)).block, (ad.add (i.toNat * 14)).off + 6, none⟩ = some (.string (al xs i).f6) /\ w.cell? ⟨(ad.add (i.toNat * 14)).block, (ad.add (i.toNat * 14)).off + 7, none⟩ = some (.int .i64 (al xs i).f7.f0) /\ w.cell? ⟨(ad.add (i.toNat * 14)).block, (ad.add (i.toNat * 14)).off + 8, none⟩ = some (.int .i64 (al xs i).f7.f1) /\ w.cell? ⟨(ad.add (i.toNat * 14)).block, (ad.add (i.toNat * 14)).off + 9, none⟩ = some (.int .i64 (al xs i).f7.f2) /\ w.cell? ⟨(ad.add (i.toNat * 14)).block, (ad.add (i.toNat * 14)).off + 10, none⟩ = some (.bool (al xs i).f7.f3) /\ w.cell? ⟨(ad.add (i.toNat * 14)).block, (ad.add (i.toNat * 14)).off + 11, none⟩ = some (.int .i64 (al xs i).f8) /\ w.cell? ⟨(ad.add (i.toNat * 14)).block, (ad.add (i.toNat * 14)).off + 12, none⟩ = some (.string (al xs i).f9) /\ w.cell? ⟨(ad.add (i.toNat * 14)).block, (ad.add (i.toNat * 14)).off + 13, none⟩ = some (.string (al xs i).f10) /\ (al xs i).f2.length <= c2 /\ fu.C w A2 (al xs i).f2.length (al xs i).f2 /\ (al xs i).f3.length <= c3 /\ fu.C w A3 (al xs i).f3.length (al xs i).f3 := by
  obtain ⟨ad, c, e, _, hK, hc0⟩ := Kd.C_get h z64 i h0 h1;have hc : ∀ j u, c[j]? = some u -> w.cell? (ad.add (i.toNat * 14 + j)) = some u := hc0;obtain ⟨A2, c2, A3, c3, rfl, l2, g2, l3, g3⟩ := nx hK;exact ⟨ad, A2, c2, A3, c3, e, hc 0 _ rfl, by rw [<- bV _ _ 1 (by omega)]; exact hc 1 _ rfl, by rw [<- bV _ _ 2 (by omega)]; exact hc 2 _ rfl, by rw [<- bV _ _ 3 (by omega)]; exact hc 3 _ rfl, by rw [<- bV _ _ 4 (by omega)]; exact hc 4 _ rfl, by rw [<- bV _ _ 5 (by omega)]; exact hc 5 _ rfl, by rw [<- bV _ _ 6 (by omega)]; exact hc 6 _ rfl, by rw [<- bV _ _ 7 (by omega)]; exact hc 7 _ rfl, by rw [<- bV _ _ 8 (by omega)]; exact hc 8 _ rfl, by rw [<- bV _ _ 9 (by omega)]; exact hc 9 _ rfl, by rw [<- bV _ _ 10 (by omega)]; exact hc 10 _ rfl, by rw [<- bV _ _ 11 (by omega)]; exact hc 11 _ rfl, by rw [<- bV _ _ 12 (by omega)]; exact hc 12 _ rfl, by rw [<- bV _ _ 13 (by omega)]; exact hc 13 _ rfl, l2, g2, l3, g3⟩
/-! #### struct type 105 -/
structure cg where
  f0 : (List ByteArray)
  f1 : ByteArray
  f2 : ByteArray
  f3 : ByteArray
def z105 : cg := ⟨([] : List ByteArray), (⟨#[]⟩ : ByteArray), (⟨#[]⟩ : ByteArray), (⟨#[]⟩ : ByteArray)⟩
def dl : Kd cg := Kd.iso (Kd.pair (Kd.slice 9 Kd.string) (Kd.pair Kd.string (Kd.pair Kd.string Kd.string))) (fun x : cg => (x.f0, x.f1, x.f2, x.f3))
theorem eX : Kd.Heap dl := Kd.heap_iso _ (Kd.heap_pair (Kd.heap_slice 9 Kd.heap_string) (Kd.heap_pair Kd.heap_string (Kd.heap_pair Kd.heap_string Kd.heap_string)))
theorem mi {w : World} {x : cg} {cs : List Value} (h : dl.K w x cs) : ∃ A0 c0, cs = [.slice A0 x.f0.length c0, .string x.f1, .string x.f2, .string x.f3] /\ x.f0.length <= c0 /\ Kd.string.C w A0 x.f0.length x.f0 := by
  obtain ⟨_, _, rfl, ⟨A0, c0, rfl, l0, g0⟩, ⟨_, _, rfl, rfl, ⟨_, _, rfl, rfl, rfl⟩⟩⟩ := h;exact ⟨A0, c0, rfl, l0, g0⟩
theorem fZ {w : World} {base : Nat} {ok : Nat -> Prop} {x : cg} {cs : List Value} (h : dl.M w base ok x cs) : ∃ v0, cs = [v0, .string x.f1, .string x.f2, .string x.f3] /\ Kd.string.R 9 w base ok v0 x.f0 := by
  obtain ⟨_, _, rfl, ⟨v0, rfl, g0⟩, ⟨_, _, rfl, rfl, ⟨_, _, rfl, rfl, rfl⟩⟩⟩ := h;exact ⟨v0, rfl, g0⟩
theorem i1 (w : World) (base : Nat) (ok : Nat -> Prop) (x : cg) {v0 : Value} (g0 : Kd.string.R 9 w base ok v0 x.f0) : dl.M w base ok x [v0, .string x.f1, .string x.f2, .string x.f3] := ⟨[v0], [.string x.f1, .string x.f2, .string x.f3], rfl, ⟨v0, rfl, g0⟩, ⟨[.string x.f1], [.string x.f2, .string x.f3], rfl, rfl, ⟨[.string x.f2], [.string x.f3], rfl, rfl, rfl⟩⟩⟩
def ah (xs : List cg) (i : Int) : cg := xs.getD i.toNat z105
theorem fe {w : World} {A : Option Addr} {n : Nat} {xs : List cg} (h : Kd.C dl w A n xs) (i : Int) (h0 : 0 <= i) (h1 : i < n) : ∃ ad A0 c0, A = some ad /\ w.cell? (ad.add (i.toNat * 4)) = some (.slice A0 (ah xs i).f0.length c0) /\ w.cell? ⟨(ad.add (i.toNat * 4)).block, (ad.add (i.toNat * 4)).off + 1, none⟩ = some (.string (ah xs i).f1) /\ w.cell? ⟨(ad.add (i.toNat * 4)).block, (ad.add (i.toNat * 4)).off + 2, none⟩ = some (.string (ah xs i).f2) /\ w.cell? ⟨(ad.add (i.toNat * 4)).block, (ad.add (i.toNat * 4)).off + 3, none⟩ = some (.string (ah xs i).f3) /\ (ah xs i).f0.length <= c0 /\ Kd.string.C w A0 (ah xs i).f0.length (ah xs i).f0 := by
  obtain ⟨ad, c, e, _, hK, hc0⟩ := Kd.C_get h z105 i h0 h1;have hc : ∀ j u, c[j]? = some u -> w.cell? (ad.add (i.toNat * 4 + j)) = some u := hc0;obtain ⟨A0, c0, rfl, l0, g0⟩ := mi hK;exact ⟨ad, A0, c0, e, hc 0 _ rfl, by rw [<- bV _ _ 1 (by omega)]; exact hc 1 _ rfl, by rw [<- bV _ _ 2 (by omega)]; exact hc 2 _ rfl, by rw [<- bV _ _ 3 (by omega)]; exact hc 3 _ rfl, l0, g0⟩
/-! #### struct type 48 -/
structure S48 where
  f0 : Int
  f1 : Int
  f2 : Int
  f3 : Bool
def z48 : S48 := ⟨(0 : Int), (0 : Int), (0 : Int), false⟩
def k48 : Kd S48 := Kd.iso (Kd.pair (Kd.int .i64) (Kd.pair (Kd.int .i64) (Kd.pair (Kd.int .i64) Kd.bool))) (fun x : S48 => (x.f0, x.f1, x.f2, x.f3))
theorem mP {w : World} {x : S48} {cs : List Value} (h : k48.K w x cs) : cs = [.int .i64 x.f0, .int .i64 x.f1, .int .i64 x.f2, .bool x.f3] := by
  obtain ⟨_, _, rfl, rfl, ⟨_, _, rfl, rfl, ⟨_, _, rfl, rfl, rfl⟩⟩⟩ := h;exact rfl
theorem mq {w : World} {base : Nat} {ok : Nat -> Prop} {x : S48} {cs : List Value} (h : k48.M w base ok x cs) : cs = [.int .i64 x.f0, .int .i64 x.f1, .int .i64 x.f2, .bool x.f3] := by
  obtain ⟨_, _, rfl, rfl, ⟨_, _, rfl, rfl, ⟨_, _, rfl, rfl, rfl⟩⟩⟩ := h;exact rfl
theorem k48_mkM (w : World) (base : Nat) (ok : Nat -> Prop) (x : S48)  : k48.M w base ok x [.int .i64 x.f0, .int .i64 x.f1, .int .i64 x.f2, .bool x.f3] := ⟨[.int .i64 x.f0], [.int .i64 x.f1, .int .i64 x.f2, .bool x.f3], rfl, rfl, ⟨[.int .i64 x.f1], [.int .i64 x.f2, .bool x.f3], rfl, rfl, ⟨[.int .i64 x.f2], [.bool x.f3], rfl, rfl, rfl⟩⟩⟩
/-! #### struct type 51 -/
structure S51 where
  f0 : ByteArray
  f1 : Int
  f2 : (List cg)
  f3 : (List cg)
  f4 : ByteArray
  f5 : ByteArray
  f6 : ByteArray
  f7 : S48
  f8 : Int
  f9 : ByteArray
  f10 : ByteArray
def z51 : S51 := ⟨(⟨#[]⟩ : ByteArray), (0 : Int), ([] : List cg), ([] : List cg), (⟨#[]⟩ : ByteArray), (⟨#[]⟩ : ByteArray), (⟨#[]⟩ : ByteArray), z48, (0 : Int), (⟨#[]⟩ : ByteArray), (⟨#[]⟩ : ByteArray)⟩
def k51 : Kd S51 := Kd.iso (Kd.pair Kd.string (Kd.pair (Kd.int .i64) (Kd.pair (Kd.slice 105 dl) (Kd.pair (Kd.slice 105 dl) (Kd.pair Kd.string (Kd.pair Kd.string (Kd.pair Kd.string (Kd.pair k48 (Kd.pair (Kd.int .i64) (Kd.pair Kd.string Kd.string)))))))))) (fun x : S51 => (x.f0, x.f1, x.f2, x.f3, x.f4, x.f5, x.f6, x.f7, x.f8, x.f9, x.f10))
theorem nE {w : World} {x : S51} {cs : List Value} (h : k51.K w x cs) : ∃ A2 c2 A3 c3, cs = [.string x.f0, .int .i64 x.f1, .slice A2 x.f2.length c2, .slice A3 x.f3.length c3, .string x.f4, .string x.f5, .string x.f6, .int .i64 x.f7.f0, .int .i64 x.f7.f1, .int .i64 x.f7.f2, .bool x.f7.f3, .int .i64 x.f8, .string x.f9, .string x.f10] /\ x.f2.length <= c2 /\ dl.C w A2 x.f2.length x.f2 /\ x.f3.length <= c3 /\ dl.C w A3 x.f3.length x.f3 := by
  obtain ⟨_, _, rfl, rfl, ⟨_, _, rfl, rfl, ⟨_, _, rfl, ⟨A2, c2, rfl, l2, g2⟩, ⟨_, _, rfl, ⟨A3, c3, rfl, l3, g3⟩, ⟨_, _, rfl, rfl, ⟨_, _, rfl, rfl, ⟨_, _, rfl, rfl, ⟨_, _, rfl, s7, ⟨_, _, rfl, rfl, ⟨_, _, rfl, rfl, rfl⟩⟩⟩⟩⟩⟩⟩⟩⟩⟩ := h;obtain rfl := mP s7;exact ⟨A2, c2, A3, c3, rfl, l2, g2, l3, g3⟩
theorem gx {w : World} {base : Nat} {ok : Nat -> Prop} {x : S51} {cs : List Value} (h : k51.M w base ok x cs) : ∃ v2 v3, cs = [.string x.f0, .int .i64 x.f1, v2, v3, .string x.f4, .string x.f5, .string x.f6, .int .i64 x.f7.f0, .int .i64 x.f7.f1, .int .i64 x.f7.f2, .bool x.f7.f3, .int .i64 x.f8, .string x.f9, .string x.f10] /\ dl.R 105 w base ok v2 x.f2 /\ dl.R 105 w base ok v3 x.f3 := by
  obtain ⟨_, _, rfl, rfl, ⟨_, _, rfl, rfl, ⟨_, _, rfl, ⟨v2, rfl, g2⟩, ⟨_, _, rfl, ⟨v3, rfl, g3⟩, ⟨_, _, rfl, rfl, ⟨_, _, rfl, rfl, ⟨_, _, rfl, rfl, ⟨_, _, rfl, s7, ⟨_, _, rfl, rfl, ⟨_, _, rfl, rfl, rfl⟩⟩⟩⟩⟩⟩⟩⟩⟩⟩ := h;obtain rfl := mq s7;exact ⟨v2, v3, rfl, g2, g3⟩
theorem jH (w : World) (base : Nat) (ok : Nat -> Prop) (x : S51) {v2 : Value} (g2 : dl.R 105 w base ok v2 x.f2) {v3 : Value} (g3 : dl.R 105 w base ok v3 x.f3) : k51.M w base ok x [.string x.f0, .int .i64 x.f1, v2, v3, .string x.f4, .string x.f5, .string x.f6, .int .i64 x.f7.f0, .int .i64 x.f7.f1, .int .i64 x.f7.f2, .bool x.f7.f3, .int .i64 x.f8, .string x.f9, .string x.f10] := ⟨[.string x.f0], [.int .i64 x.f1, v2, v3, .string x.f4, .string x.f5, .string x.f6, .int .i64 x.f7.f0, .int .i64 x.f7.f1, .int .i64 x.f7.f2, .bool x.f7.f3, .int .i64 x.f8, .string x.f9, .string x.f10], rfl, rfl, ⟨[.int .i64 x.f1], [v2, v3, .string x.f4, .string x.f5, .string x.f6, .int .i64 x.f7.f0, .int .i64 x.f7.f1, .int .i64 x.f7.f2, .bool x.f7.f3, .int .i64 x.f8, .string x.f9, .string x.f10], rfl, rfl, ⟨[v2], [v3, .string x.f4, .string x.f5, .string x.f6, .int .i64 x.f7.f0, .int .i64 x.f7.f1, .int .i64 x.f7.f2, .bool x.f7.f3, .int .i64 x.f8, .string x.f9, .string x.f10], rfl, ⟨v2, rfl, g2⟩, ⟨[v3], [.string x.f4, .string x.f5, .string x.f6, .int .i64 x.f7.f0, .int .i64 x.f7.f1, .int .i64 x.f7.f2, .bool x.f7.f3, .int .i64 x.f8, .string x.f9, .string x.f10], rfl, ⟨v3, rfl, g3⟩, ⟨[.string x.f4], [.string x.f5, .string x.f6, .int .i64 x.f7.f0, .int .i64 x.f7.f1, .int .i64 x.f7.f2, .bool x.f7.f3, .int .i64 x.f8, .string x.f9, .string x.f10], rfl, rfl, ⟨[.string x.f5], [.string x.f6, .int .i64 x.f7.f0, .int .i64 x.f7.f1, .int .i64 x.f7.f2, .bool x.f7.f3, .int .i64 x.f8, .string x.f9, .string x.f10], rfl, rfl, ⟨[.string x.f6], [.int .i64 x.f7.f0, .int .i64 x.f7.f1, .int .i64 x.f7.f2, .bool x.f7.f3, .int .i64 x.f8, .string x.f9, .string x.f10], rfl, rfl, ⟨[.int .i64 x.f7.f0, .int .i64 x.f7.f1, .int .i64 x.f7.f2, .bool x.f7.f3], [.int .i64 x.f8, .string x.f9, .string x.f10], rfl, (k48_mkM w base ok x.f7 ), ⟨[.int .i64 x.f8], [.string x.f9, .string x.f10], rfl, rfl, ⟨[.string x.f9], [.string x.f10], rfl, rfl, rfl⟩⟩⟩⟩⟩⟩⟩⟩⟩⟩
def aa (xs : List S51) (i : Int) : S51 := xs.getD i.toNat z51
theorem ej {w : World} {A : Option Addr} {n : Nat} {xs : List S51} (h : Kd.C k51 w A n xs) (i : Int) (h0 : 0 <= i) (h1 : i < n) : ∃ ad A2 c2 A3 c3, A = some ad /\ w.cell? (ad.add (i.toNat * 14)) = some (.string (aa xs i).f0) /\ w.cell? ⟨(ad.add (i.toNat * 14)).block, (ad.add (i.toNat * 14)).off + 1, none⟩ = some (.int .i64 (aa xs i).f1) /\ w.cell? ⟨(ad.add (i.toNat * 14)).block, (ad.add (i.toNat * 14)).off + 2, none⟩ = some (.slice A2 (aa xs i).f2.length c2) /\ w.cell? ⟨(ad.add (i.toNat * 14)).block, (ad.add (i.toNat * 14)).off + 3, none⟩ = some (.slice A3 (aa xs i).f3.length c3) /\ w.cell? ⟨(ad.add (i.toNat * 14)).block, (ad.add (i.toNat * 14)).off + 4, none⟩ = some (.string (aa xs i).f4) /\ w.cell? ⟨(ad.add (i.toNat * 14)).block, (ad.add (i.toNat * 14)).off + 5, none⟩ = some (.string (aa xs i).f5) /\ w.cell? ⟨(ad.add (i.toNat * 14)).block, (ad.add (i.toNat * 14)).off + 6, none⟩ = some (.string (aa xs i).f6) /\ w.cell? ⟨(ad.add (i.toNat * 14)).block, (ad.add (i.toNat * 14)).off + 7, none⟩ = some (.int .i64 (aa xs i).f7.f0) /\ w.cell? ⟨(ad.add (i.toNat * 14)).block, (ad.add (i.toNat * 14)).off + 8, none⟩ = some (.int .i64 (aa xs i).f7.f1) /\ w.cell? ⟨(ad.add (i.toNat * 14)).block, (ad.add (i.toNat * 14)).off + 9, none⟩ = some (.int .i64 (aa xs i).f7.f2) /\ w.cell? ⟨(ad.add (i.toNat * 14)).block, (ad.add (i.toNat * 14)).off + 10, none⟩ = some (.bool (aa xs i).f7.f3) /\ w.cell? ⟨(ad.add (i.toNat * 14)).block, (ad.add (i.toNat * 14)).off + 11, none⟩ = some (.int .i64 (aa xs i).f8) /\ w.cell? ⟨(ad.add (i.toNat * 14)).block, (ad.add (i.toNat * 14)).off + 12, none⟩ = some (.string (aa xs i).f9) /\ w.cell? ⟨(ad.add (i.toNat * 14)).block, (ad.add (i.toNat * 14)).off + 13, none⟩ = some (.string (aa xs i).f10) /\ (aa xs i).f2.length <= c2 /\ dl.C w A2 (aa xs i).f2.length (aa xs i).f2 /\ (aa xs i).f3.length <= c3 /\ dl.C w A3 (aa xs i).f3.length (aa xs i).f3 := by
  obtain ⟨ad, c, e, _, hK, hc0⟩ := Kd.C_get h z51 i h0 h1;have hc : ∀ j u, c[j]? = some u -> w.cell? (ad.add (i.toNat * 14 + j)) = some u := hc0;obtain ⟨A2, c2, A3, c3, rfl, l2, g2, l3, g3⟩ := nE hK;exact ⟨ad, A2, c2, A3, c3, e, hc 0 _ rfl, by rw [<- bV _ _ 1 (by omega)]; exact hc 1 _ rfl, by rw [<- bV _ _ 2 (by omega)]; exact hc 2 _ rfl, by rw [<- bV _ _ 3 (by omega)]; exact hc 3 _ rfl, by rw [<- bV _ _ 4 (by omega)]; exact hc 4 _ rfl, by rw [<- bV _ _ 5 (by omega)]; exact hc 5 _ rfl, by rw [<- bV _ _ 6 (by omega)]; exact hc 6 _ rfl, by rw [<- bV _ _ 7 (by omega)]; exact hc 7 _ rfl, by rw [<- bV _ _ 8 (by omega)]; exact hc 8 _ rfl, by rw [<- bV _ _ 9 (by omega)]; exact hc 9 _ rfl, by rw [<- bV _ _ 10 (by omega)]; exact hc 10 _ rfl, by rw [<- bV _ _ 11 (by omega)]; exact hc 11 _ rfl, by rw [<- bV _ _ 12 (by omega)]; exact hc 12 _ rfl, by rw [<- bV _ _ 13 (by omega)]; exact hc 13 _ rfl, l2, g2, l3, g3⟩
/-! #### struct type 24 -/
structure S24 where
  f0 : (List S64)
def z24 : S24 := ⟨([] : List S64)⟩
def k24 : Kd S24 := Kd.iso (Kd.slice 64 k64) (fun x : S24 => x.f0)
theorem mB {w : World} {x : S24} {cs : List Value} (h : k24.K w x cs) : ∃ A0 c0, cs = [.slice A0 x.f0.length c0] /\ x.f0.length <= c0 /\ k64.C w A0 x.f0.length x.f0 := by
  obtain ⟨A0, c0, rfl, l0, g0⟩ := h;exact ⟨A0, c0, rfl, l0, g0⟩
def gS (x : eM) : Prop := (x.f0.length <= 9223372036854775807 /\ ∀ e700 ∈ x.f0, e700.size <= 9223372036854775807) /\ x.f1.size <= 9223372036854775807 /\ x.f2.size <= 9223372036854775807 /\ x.f3.size <= 9223372036854775807
def Wf62 (x : S62) : Prop := (Lit.int .i64 x.f0).wf = true /\ (Lit.int .i64 x.f1).wf = true /\ (Lit.int .i64 x.f2).wf = true /\ True
def jP (x : S64) : Prop := x.f0.size <= 9223372036854775807 /\ (Lit.int .i64 x.f1).wf = true /\ (x.f2.length <= 9223372036854775807 /\ ∀ e700 ∈ x.f2, gS e700) /\ (x.f3.length <= 9223372036854775807 /\ ∀ e701 ∈ x.f3, gS e701) /\ x.f4.size <= 9223372036854775807 /\ x.f5.size <= 9223372036854775807 /\ x.f6.size <= 9223372036854775807 /\ Wf62 x.f7 /\ (Lit.int .i64 x.f8).wf = true /\ x.f9.size <= 9223372036854775807 /\ x.f10.size <= 9223372036854775807
def Wf24 (x : S24) : Prop := (x.f0.length <= 9223372036854775807 /\ ∀ e700 ∈ x.f0, jP e700)
theorem bb {B : Nat} {w w' : World} (h : Below B w w' := by with_reducible repeat first | exact HB.out | apply below_alloc | apply pw_below_drewN | apply below_drew1 | refine below_set ?_ (Aside0.out (by assumption))) : Below B w w' := h
theorem bH {w w1 w2 : World} (hb : Below w1.heap.size w1 w2) (h : Below w.heap.size w w1 := by with_reducible repeat first | exact HB.out | apply below_alloc | apply pw_below_drewN | apply below_drew1 | refine below_set ?_ (Aside0.out (by assumption))) : Aside0 (Below w.heap.size w w2) := ⟨below_step h hb⟩
theorem bG {w W : World} {g : Nat} (hg : g = W.heap.size) (h : Below w.heap.size w W := by with_reducible repeat first | exact HB.out | apply below_alloc | apply pw_below_drewN | apply below_drew1 | refine below_set ?_ (Aside0.out (by assumption))) : Aside0 (w.heap.size <= g) := ⟨by rw [hg]; exact below_size h⟩
theorem bK {w0 w w1 : World} {g : Nat} {o : Obj} (h0 : Aside0 (w0.heap[g]? = some o)) (hb : Below w.heap.size w w1) (h : w0.heap[g]? = some o -> w.heap[g]? = some o := by intro h_; (with_reducible repeat first | apply blk_drewN | apply blk_drew | apply blk_alloc); exact h_) : Aside0 (w1.heap[g]? = some o) := ⟨blk_below (h h0.out) hb⟩
theorem kk {w0 w : World} {g : Nat} {o : Obj} (h0 : Aside0 (w0.heap[g]? = some o)) (h : w0.heap[g]? = some o -> w.heap[g]? = some o := by intro h_; (with_reducible repeat first | apply blk_drewN | apply blk_drew | apply blk_alloc); exact h_) : w.heap[g]? = some o := h h0.out
theorem rf {α : Type} {a b : α} (h : a = b := by first | rfl | (simp; done) | (simp [*]; done)) : a = b := h
theorem rB {a b : Bool} (h : Value.bool a = Value.bool b := by first | rfl | (simp; done) | (simp [*]; done) | (refine congrArg Value.bool (Bool.eq_iff_iff.2 ?_); simp [List.isEmpty_iff])) : Value.bool a = Value.bool b := h
theorem lE {a b : Nat} (h : a <= b := by first | omega | exact Nat.le_refl _) : a <= b := h
theorem gX {P : Program} {ops : Array Oper} {Q : Exit -> Act -> World -> Prop} {rest : List Oper} {oi : Oper} {a : Act} {w : World} (N : Option Tmp) {f : FuncId} {fn : Func} {az : Array Operand} {ts : Array TypeId} (hf : P.funcs[f]? = some fn) (args : Array Value) (h : Calls P f args w fun e w' => ∃ v, e = .returned v /\ wpList P ops Q rest (a.put N v) w') (hd : oi.dst = N := by exact rfl) (hg : oi.guard = none := by exact rfl) (hname : (fn.name == "runtime.NumGoroutine") = false := by kernel_rfl) (hb : fn.body.isSome = true := by exact rfl) (hop : oi.op = .call { callee := .value (.func f), args := az, argTypes := ts } := by exact rfl) (hargs : az.map a.eval = args := by (try simp only [List.map_toArray, List.map_cons, List.map_nil]); try rfl) : wpList P ops Q (oi :: rest) a w := goesL_ N hd hg hf hname hb args hop hargs h
theorem pP {P : Program} {ops : Array Oper} {Q : Exit -> Act -> World -> Prop} {md : Region.Mode} {S : World -> Prop} {ds : List Nat} {T : Bool × List (List Nat × List Nat)} (i : Nat) (N : Option Tmp) {oi : Oper} {v : Value} {fuel : Nat} {l : Array Bool} {a : Act} {w : World} (l' : Array Bool) {a' : Act} (h : aM P md ops Q S ds fuel l' a' w) (HT : Aside0 (d8 md ops = T) := by assumption) (hi : ops[i]? = some oi := by exact rfl) (hN : oi.dst = N := by exact rfl) (hc : anyT T l.toList l'.toList i = true := by kernel_rfl) (hQ : ∀ c a w, Q (.panic c) (a.put oi.dst v) w -> Q (.panic c) a w := by exact fun _ _ _ h => h) (hy : Yields P ops oi v a := by refine Or.inl ⟨by rfl, ?_⟩; intro w'; go_simp; with_reducible rfl) (ha : a.put N v = a' := by (simp only [Act.put, List.setIfInBounds_toArray, List.set_cons_zero, List.set_cons_succ, aq, aA]; rfl)) : aM P md ops Q S ds (fuel + 1) l a w := fc l' hi hN (mZ HT.out hc) hQ hy ha h
theorem tP {P : Program} {ops : Array Oper} {Q : Exit -> Act -> World -> Prop} {md : Region.Mode} {S : World -> Prop} {ds : List Nat} {T : Bool × List (List Nat × List Nat)} {B : List Nat} (i : Nat) (N : Option Tmp) {oi : Oper} {v : Value} {fuel : Nat} {l : Array Bool} {a : Act} {w : World} (l' : Array Bool) {a' : Act} (h : aM P md ops Q S ds fuel l' a' w) (HT : Aside0 (d8 md ops = T) := by assumption) (HW : Aside0 (dz T.2 B = true) := by assumption) (hS : S w := by assumption) (hi : ops[i]? = some oi := by exact rfl) (hN : oi.dst = N := by exact rfl) (hc : nT T B ds l.toList l'.toList i = true := by kernel_rfl) (hQ : ∀ c a w, Q (.panic c) (a.put oi.dst v) w -> Q (.panic c) a w := by exact fun _ _ _ h => h) (hy : YieldsIf P ops S oi v a := by refine Or.inl ⟨by rfl, ?_⟩; intro w' hs_; (repeat (have := hs_.1; replace hs_ := hs_.2)); go_simp; with_reducible rfl) (ha : a.put N v = a' := by (simp only [Act.put, List.setIfInBounds_toArray, List.set_cons_zero, List.set_cons_succ, aq, aA]; rfl)) : aM P md ops Q S ds (fuel + 1) l a w := take_ l' hi hN (iL HT.out HW.out hc) hQ hy hS ha h
theorem bX {P : Program} {ops : Array Oper} {Q : Exit -> Act -> World -> Prop} {rest : List Oper} {o : Oper} {a : Act} {W : World} {N : Tmp} {cs : Array Value} {t : TypeId} (h : ∀ g, g = W.heap.size -> ∀ w1, w1.heap[g]? = some (.cells cs t (0, 0)) -> Below W.heap.size W w1 -> wpList P ops Q rest (a.put o.dst (.pointer (some ⟨g, 0, none⟩))) w1) (hgd : o.guard = none := by exact rfl) (hd : o.dst = some N := by exact rfl) (hrun : (execOp a.eval o).run P W = .ok (.value (.pointer (some ⟨W.heap.size, 0, none⟩))) (W.alloc (.cells cs t (0, 0))) := by first | (go_simp; done) | (go_simp; rfl)) : wpList P ops Q (o :: rest) a W := box_event hgd hd hrun h
theorem pU {P : Program} {ops : Array Oper} {Q : Exit -> Act -> World -> Prop} {md : Region.Mode} {S : World -> Prop} {ds : List Nat} {T : Bool × List (List Nat × List Nat)} (i : Nat) (N : Option Tmp) {oi : Oper} {fuel : Nat} {l : Array Bool} {a : Act} {w : World} (l' : Array Bool) {a' : Act} (h : aM P md ops Q S ds fuel l' a' w) (HT : Aside0 (d8 md ops = T) := by assumption) (hi : ops[i]? = some oi := by exact rfl) (hN : oi.dst = N := by exact rfl) (hc : anyT T l.toList l'.toList i = true := by kernel_rfl) (hQ : ∀ c a w, Q (.panic c) (a.put oi.dst undef) w -> Q (.panic c) a w := by exact fun _ _ _ h => h) (hy : Region.wanted oi (yielded ops a.tmps) = false := by rfl) (ha : a.put N undef = a' := by (simp only [Act.put, List.setIfInBounds_toArray, List.set_cons_zero, List.set_cons_succ, aq, aA]; rfl)) : aM P md ops Q S ds (fuel + 1) l a w := fc l' hi hN (mZ HT.out hc) hQ (Or.inr ⟨hy, rfl⟩) ha h
theorem nP {P : Program} {ops : Array Oper} {Q : Exit -> Act -> World -> Prop} {md : Region.Mode} {S : World -> Prop} {ds : List Nat} {fuel : Nat} {l : Array Bool} {a a' : Act} {w : World} (h : aM P md ops Q S ds fuel l a' w) (ha : a = a' := by (show Act.put _ (some _) _ = _; simp only [Act.put, List.setIfInBounds_toArray, List.set_cons_zero, List.set_cons_succ, aq, aA]; rfl)) : aM P md ops Q S ds fuel l a w := fJ ha h
theorem oP {P : Program} {ops : Array Oper} {Q : Exit -> Act -> World -> Prop} {md : Region.Mode} {S : World -> Prop} {ds : List Nat} {T : Bool × List (List Nat × List Nat)} (i : Nat) (N : Option Tmp) {oi : Oper} {fuel : Nat} {l : Array Bool} {a : Act} {w : World} (l' : Array Bool) (h : ∀ K : Act -> World -> Prop, Shut (∀ a' w', S w' -> (S w' -> aM P md ops Q S ds fuel l' a' w') -> K a' w') -> if Region.wanted oi (yielded ops a.tmps) = true then Oper.wp P oi a w K Q else K (a.put N undef) w) (HT : Aside0 (d8 md ops = T) := by assumption) (hi : ops[i]? = some oi := by exact rfl) (hN : oi.dst = N := by exact rfl) (hc : (gW T.2 l.toList == [i] && l.toList.set i true == l'.toList) = true := by kernel_rfl) (hd : i ∉ ds := by decide) : aM P md ops Q S ds (fuel + 1) l a w := gY l' hi hN (km HT.out hc) hd h
theorem gV {P : Program} {ops : Array Oper} {Q : Exit -> Act -> World -> Prop} {oi : Oper} {N : Option Tmp} {a : Act} {w : World} {K : Act -> World -> Prop} {f : FuncId} {fn : Func} {az : Array Operand} {ts : Array TypeId} (hf : P.funcs[f]? = some fn) (args : Array Value) (h : Calls P f args w fun e w' => ∃ v, e = .returned v /\ K (a.put N v) w') (hname : (fn.name == "runtime.NumGoroutine") = false := by kernel_rfl) (hb : fn.body.isSome = true := by exact rfl) (hw : Region.wanted oi (yielded ops a.tmps) = true := by rfl) (hN : oi.dst = N := by exact rfl) (hop : oi.op = .call { callee := .value (.func f), args := az, argTypes := ts } := by exact rfl) (hargs : az.map a.eval = args := by (try simp only [List.map_toArray, List.map_cons, List.map_nil]); try rfl) : if Region.wanted oi (yielded ops a.tmps) = true then Oper.wp P oi a w K Q else K (a.put N undef) w := goes_ hf hname hb args hw hN hop hargs h
theorem dR {w w' : World} (h : aT w w' := by repeat (first | exact aT.refl _ | apply aT.step)) : aT w w' := h
theorem cX {α : Type} {d : Kd α} {w W : World} {A : Option Addr} {n : Nat} {xs : List α} (h0 : Aside0 (d.C w A n xs)) (h : d.C w A n xs -> d.C W A n xs := by intro h_; repeat first | exact (Kd.C_below h_ HB.out) | with_reducible first | apply Kd.C_alloc | apply Kd.C_drewN | apply Kd.C_drew) : d.C W A n xs := h h0.out
theorem cU {w W : World} {a : Addr} {v : Value} (h : w.cell? a = some v) (hb : Below w.heap.size w W := by exact HB.out) : W.cell? a = some v := (hb.cell (World.block_lt_of_cell? w _ h)).trans h
theorem oA {α β : Type} {x : Option α} {f : α -> Option β} {r : β} (h : x.bind f = some r) : ∃ t, Aside0 (x = some t) /\ f t = some r := by
  obtain ⟨t, h1, h2⟩ := Option.bind_eq_some_iff.1 h;exact ⟨t, ⟨h1⟩, h2⟩
theorem qR {w1 w2 : World} {α : Type} {d : Kd α} {e : TypeId} {b : Nat} {ok : Nat -> Prop} {v : Value} {xs : List α} (h : Aside0 (d.R e w1 b ok v xs)) (f : d.R e w1 b ok v xs -> d.R e w2 b ok v xs := by intro h_; (with_reducible repeat (first | apply Kd.R_alloc | apply Kd.R_drewN | apply Kd.R_drew)); exact h_) : d.R e w2 b ok v xs := f h.out
theorem qM {w1 w2 : World} {α : Type} {d : Kd α} {e : TypeId} {b : Nat} {ok ok' : Nat -> Prop} {v : Value} {xs : List α} (h : Aside0 (d.R e w1 b ok v xs)) (hk : ∀ k, ok k -> ok' k) (f : d.R e w1 b ok' v xs -> d.R e w2 b ok' v xs := by intro h_; (with_reducible repeat (first | apply Kd.R_alloc | apply Kd.R_drewN | apply Kd.R_drew)); exact h_) : d.R e w2 b ok' v xs := f (Kd.R_mono h.out hk)
theorem qV {w1 w2 : World} {α : Type} {d : Kd α} {e : TypeId} {b : Nat} {ok : Nat -> Prop} {v : Value} {xs : List α} (h : Aside0 (d.V e w1 b ok v xs)) (f : d.V e w1 b ok v xs -> d.V e w2 b ok v xs := by intro h_; (with_reducible repeat (first | apply Kd.V_alloc | apply Kd.V_drewN | apply Kd.V_drew)); exact h_) : d.V e w2 b ok v xs := f h.out
theorem qC {w1 w2 : World} {α : Type} {d : Kd α} {A : Option Addr} {n : Nat} {xs : List α} (h : Aside0 (d.C w1 A n xs)) (f : d.C w1 A n xs -> d.C w2 A n xs := by intro h_; with_reducible repeat first | exact h_ | apply Kd.C_alloc | apply Kd.C_drewN | apply Kd.C_drew) : d.C w2 A n xs := f h.out
theorem nF {α : Type} {a b r : α} (h : (if false = true then a else b) = r) : b = r := (if_neg (by decide)).symm.trans h
theorem yB {α β : Type} {v : α} {f : α -> Option β} {r : β} (h : (some v).bind f = some r) : ∃ y, Aside0 (y = v) /\ f y = some r := ⟨v, ⟨rfl⟩, h⟩
theorem gZ {P : Program} {ops : Array Oper} {Q : Exit -> Act -> World -> Prop} {rest : List Oper} {oi : Oper} {a : Act} {W : World} {v : Value} (N : Option Tmp) {f : FuncId} {fn : Func} {az : Array Operand} {ts : Array TypeId} (hf : P.funcs[f]? = some fn) (args : Array Value) (hc : Calls P f args W fun e w' => e = .returned v /\ Below W.heap.size W w') (h : ∀ w', Below W.heap.size W w' -> wpList P ops Q rest (a.put N v) w') (hd : oi.dst = N := by exact rfl) (hg : oi.guard = none := by exact rfl) (hname : (fn.name == "runtime.NumGoroutine") = false := by kernel_rfl) (hb : fn.body.isSome = true := by exact rfl) (hop : oi.op = .call { callee := .value (.func f), args := az, argTypes := ts } := by exact rfl) (hargs : az.map a.eval = args := by (try simp only [List.map_toArray, List.map_cons, List.map_nil]); try rfl) : wpList P ops Q (oi :: rest) a W := goesL_ N hd hg hf hname hb args hop hargs (hc.mono (by rintro e w' ⟨rfl, hb⟩; exact ⟨_, rfl, h w' hb⟩))
theorem gN {P : Program} {ops : Array Oper} {Q : Exit -> Act -> World -> Prop} {rest : List Oper} {oi : Oper} {a : Act} {W : World} {v : Value} (N : Option Tmp) {f : FuncId} {fn : Func} {az : Array Operand} {ts : Array TypeId} (hf : P.funcs[f]? = some fn) (args : Array Value) (hc : Calls P f args W fun e w' => e = .returned v /\ aT W w') (h : ∀ nd, wpList P ops Q rest (a.put N v) (W.drewN nd)) (hd : oi.dst = N := by exact rfl) (hg : oi.guard = none := by exact rfl) (hname : (fn.name == "runtime.NumGoroutine") = false := by kernel_rfl) (hb : fn.body.isSome = true := by exact rfl) (hop : oi.op = .call { callee := .value (.func f), args := az, argTypes := ts } := by exact rfl) (hargs : az.map a.eval = args := by (try simp only [List.map_toArray, List.map_cons, List.map_nil]); try rfl) : wpList P ops Q (oi :: rest) a W := goesL_ N hd hg hf hname hb args hop hargs (hc.mono (by rintro e w' ⟨rfl, ⟨⟨n, rfl⟩⟩⟩; exact ⟨_, rfl, h n⟩))
theorem nI {p : Prop} [Decidable p] {α : Type} {x : Option α} {r : α} (H : (if p then x else none) = some r) : p /\ x = some r := by
 by_cases h : p;(·(rw [if_pos h] at H; exact ⟨h, H⟩));(·(rw [if_neg h] at H; cases H))
theorem bY {P : Program} {ops : Array Oper} {Q : Exit -> Act -> World -> Prop} {rest : List Oper} {o : Oper} {a : Act} {W : World} (w : World) (N : Tmp) (cs : Array Value) (t : TypeId) (h : ∀ g w1, Aside0 (w1.heap[g]? = some (.cells cs t (0, 0))) -> Aside0 (w.heap.size <= g) -> Aside0 (Below w.heap.size w w1) -> wpList P ops Q rest (a.put o.dst (.pointer (some ⟨g, 0, none⟩))) w1) (hB : Below w.heap.size w W := by with_reducible repeat first | exact HB.out | apply below_alloc | apply pw_below_drewN | apply below_drew1 | refine below_set ?_ (Aside0.out (by assumption))) (hgd : o.guard = none := by exact rfl) (hd : o.dst = some N := by exact rfl) (hrun : (execOp a.eval o).run P W = .ok (.value (.pointer (some ⟨W.heap.size, 0, none⟩))) (W.alloc (.cells cs t (0, 0))) := by first | (go_simp; done) | (go_simp; rfl)) : wpList P ops Q (o :: rest) a W := box_event hgd hd hrun fun g hg w1 hb hh => h g w1 ⟨hb⟩ ⟨by rw [hg]; exact below_size hB⟩ ⟨below_step hB hh⟩
theorem pz (x : Int) (h : decide (0 <= x) = true := by assumption) : 0 <= x := of_decide_eq_true h
theorem qz (x y : Int) (h : decide (x < y) = true := by assumption) : x < y := of_decide_eq_true h
abbrev B14 (w : World) (g : Nat) (v0 v1 v2 v3 v4 v5 v6 v7 v8 v9 v10 v11 v12 v13 : Value) (Q : Prop) : Prop := w.cell? ⟨g, 0, none⟩ = some v0 /\ w.cell? ⟨g, 1, none⟩ = some v1 /\ w.cell? ⟨g, 2, none⟩ = some v2 /\ w.cell? ⟨g, 3, none⟩ = some v3 /\ w.cell? ⟨g, 4, none⟩ = some v4 /\ w.cell? ⟨g, 5, none⟩ = some v5 /\ w.cell? ⟨g, 6, none⟩ = some v6 /\ w.cell? ⟨g, 7, none⟩ = some v7 /\ w.cell? ⟨g, 8, none⟩ = some v8 /\ w.cell? ⟨g, 9, none⟩ = some v9 /\ w.cell? ⟨g, 10, none⟩ = some v10 /\ w.cell? ⟨g, 11, none⟩ = some v11 /\ w.cell? ⟨g, 12, none⟩ = some v12 /\ w.cell? ⟨g, 13, none⟩ = some v13 /\ Q
abbrev B4 (w : World) (g : Nat) (v0 v1 v2 v3 : Value) (Q : Prop) : Prop := w.cell? ⟨g, 0, none⟩ = some v0 /\ w.cell? ⟨g, 1, none⟩ = some v1 /\ w.cell? ⟨g, 2, none⟩ = some v2 /\ w.cell? ⟨g, 3, none⟩ = some v3 /\ Q
abbrev E105 (w : World) (p : Addr) (x : cg) (A0 : Option Addr) (c0 : Nat) (Q : Prop) : Prop := w.cell? p = some (.slice A0 x.f0.length c0) /\ w.cell? ⟨p.block, p.off + 1, none⟩ = some (.string x.f1) /\ w.cell? ⟨p.block, p.off + 2, none⟩ = some (.string x.f2) /\ w.cell? ⟨p.block, p.off + 3, none⟩ = some (.string x.f3) /\ Q
abbrev E51 (w : World) (p : Addr) (x : S51) (A2 : Option Addr) (c2 : Nat) (A3 : Option Addr) (c3 : Nat) (Q : Prop) : Prop := w.cell? p = some (.string x.f0) /\ w.cell? ⟨p.block, p.off + 1, none⟩ = some (.int .i64 x.f1) /\ w.cell? ⟨p.block, p.off + 2, none⟩ = some (.slice A2 x.f2.length c2) /\ w.cell? ⟨p.block, p.off + 3, none⟩ = some (.slice A3 x.f3.length c3) /\ w.cell? ⟨p.block, p.off + 4, none⟩ = some (.string x.f4) /\ w.cell? ⟨p.block, p.off + 5, none⟩ = some (.string x.f5) /\ w.cell? ⟨p.block, p.off + 6, none⟩ = some (.string x.f6) /\ w.cell? ⟨p.block, p.off + 7, none⟩ = some (.int .i64 x.f7.f0) /\ w.cell? ⟨p.block, p.off + 8, none⟩ = some (.int .i64 x.f7.f1) /\ w.cell? ⟨p.block, p.off + 9, none⟩ = some (.int .i64 x.f7.f2) /\ w.cell? ⟨p.block, p.off + 10, none⟩ = some (.bool x.f7.f3) /\ w.cell? ⟨p.block, p.off + 11, none⟩ = some (.int .i64 x.f8) /\ w.cell? ⟨p.block, p.off + 12, none⟩ = some (.string x.f9) /\ w.cell? ⟨p.block, p.off + 13, none⟩ = some (.string x.f10) /\ Q
abbrev b14 (w : World) (g : Nat) (v0 v1 v2 v3 v4 v5 v6 v7 v8 v9 v10 v11 v12 v13 : Value) : Prop := w.cell? ⟨g, 0, none⟩ = some v0 /\ w.cell? ⟨g, 1, none⟩ = some v1 /\ w.cell? ⟨g, 2, none⟩ = some v2 /\ w.cell? ⟨g, 3, none⟩ = some v3 /\ w.cell? ⟨g, 4, none⟩ = some v4 /\ w.cell? ⟨g, 5, none⟩ = some v5 /\ w.cell? ⟨g, 6, none⟩ = some v6 /\ w.cell? ⟨g, 7, none⟩ = some v7 /\ w.cell? ⟨g, 8, none⟩ = some v8 /\ w.cell? ⟨g, 9, none⟩ = some v9 /\ w.cell? ⟨g, 10, none⟩ = some v10 /\ w.cell? ⟨g, 11, none⟩ = some v11 /\ w.cell? ⟨g, 12, none⟩ = some v12 /\ w.cell? ⟨g, 13, none⟩ = some v13
abbrev b4 (w : World) (g : Nat) (v0 v1 v2 v3 : Value) : Prop := w.cell? ⟨g, 0, none⟩ = some v0 /\ w.cell? ⟨g, 1, none⟩ = some v1 /\ w.cell? ⟨g, 2, none⟩ = some v2 /\ w.cell? ⟨g, 3, none⟩ = some v3
abbrev e105 (w : World) (p : Addr) (x : cg) (A0 : Option Addr) (c0 : Nat) : Prop := w.cell? p = some (.slice A0 x.f0.length c0) /\ w.cell? ⟨p.block, p.off + 1, none⟩ = some (.string x.f1) /\ w.cell? ⟨p.block, p.off + 2, none⟩ = some (.string x.f2) /\ w.cell? ⟨p.block, p.off + 3, none⟩ = some (.string x.f3)
abbrev e51 (w : World) (p : Addr) (x : S51) (A2 : Option Addr) (c2 : Nat) (A3 : Option Addr) (c3 : Nat) : Prop := w.cell? p = some (.string x.f0) /\ w.cell? ⟨p.block, p.off + 1, none⟩ = some (.int .i64 x.f1) /\ w.cell? ⟨p.block, p.off + 2, none⟩ = some (.slice A2 x.f2.length c2) /\ w.cell? ⟨p.block, p.off + 3, none⟩ = some (.slice A3 x.f3.length c3) /\ w.cell? ⟨p.block, p.off + 4, none⟩ = some (.string x.f4) /\ w.cell? ⟨p.block, p.off + 5, none⟩ = some (.string x.f5) /\ w.cell? ⟨p.block, p.off + 6, none⟩ = some (.string x.f6) /\ w.cell? ⟨p.block, p.off + 7, none⟩ = some (.int .i64 x.f7.f0) /\ w.cell? ⟨p.block, p.off + 8, none⟩ = some (.int .i64 x.f7.f1) /\ w.cell? ⟨p.block, p.off + 9, none⟩ = some (.int .i64 x.f7.f2) /\ w.cell? ⟨p.block, p.off + 10, none⟩ = some (.bool x.f7.f3) /\ w.cell? ⟨p.block, p.off + 11, none⟩ = some (.int .i64 x.f8) /\ w.cell? ⟨p.block, p.off + 12, none⟩ = some (.string x.f9) /\ w.cell? ⟨p.block, p.off + 13, none⟩ = some (.string x.f10)
theorem mL {α : Type} {d : Kd α} {e : Nat} {w : World} {base : Nat} {ok : Nat -> Prop} {v : Value} {xs : List α} {g : Nat} (h : d.S e w base ok v xs) (hk : ∀ k : Nat, ok k -> k ≠ g) (u0 u1 u2 u3 u4 u5 u6 u7 u8 u9 u10 u11 u12 u13 : Value) : d.S e ((((((((((((((w.setCell ⟨g, 0, none⟩ u0).setCell ⟨g, 1, none⟩ u1).setCell ⟨g, 2, none⟩ u2).setCell ⟨g, 3, none⟩ u3).setCell ⟨g, 4, none⟩ u4).setCell ⟨g, 5, none⟩ u5).setCell ⟨g, 6, none⟩ u6).setCell ⟨g, 7, none⟩ u7).setCell ⟨g, 8, none⟩ u8).setCell ⟨g, 9, none⟩ u9).setCell ⟨g, 10, none⟩ u10).setCell ⟨g, 11, none⟩ u11).setCell ⟨g, 12, none⟩ u12).setCell ⟨g, 13, none⟩ u13) base ok v xs :=
 (Kd.S_far (p := ⟨g, 13, none⟩) (Kd.S_far (p := ⟨g, 12, none⟩) (Kd.S_far (p := ⟨g, 11, none⟩) (Kd.S_far (p := ⟨g, 10, none⟩) (Kd.S_far (p := ⟨g, 9, none⟩) (Kd.S_far (p := ⟨g, 8, none⟩) (Kd.S_far (p := ⟨g, 7, none⟩) (Kd.S_far (p := ⟨g, 6, none⟩) (Kd.S_far (p := ⟨g, 5, none⟩) (Kd.S_far (p := ⟨g, 4, none⟩) (Kd.S_far (p := ⟨g, 3, none⟩) (Kd.S_far (p := ⟨g, 2, none⟩) (Kd.S_far (p := ⟨g, 1, none⟩) (Kd.S_far (p := ⟨g, 0, none⟩) h hk u0) hk u1) hk u2) hk u3) hk u4) hk u5) hk u6) hk u7) hk u8) hk u9) hk u10) hk u11) hk u12) hk u13)
theorem bP4 {w : World} {g : Nat} {t : TypeId} (z0 z1 z2 z3 : Value) (h : w.heap[g]? = some (.cells #[z0, z1, z2, z3] t (0, 0))) (u0 u1 u2 u3 : Value) : ((((w.setCell ⟨g, 0, none⟩ u0).setCell ⟨g, 1, none⟩ u1).setCell ⟨g, 2, none⟩ u2).setCell ⟨g, 3, none⟩ u3).heap[g]? = some (.cells #[u0, u1, u2, u3] t (0, 0)) := by
 refine blk_put (cs := #[u0, u1, u2, z3]) ?_ 3 u3 rfl; refine blk_put (cs := #[u0, u1, z2, z3]) ?_ 2 u2 rfl; refine blk_put (cs := #[u0, z1, z2, z3]) ?_ 1 u1 rfl; refine blk_put (cs := #[z0, z1, z2, z3]) ?_ 0 u0 rfl; exact h
theorem mf {w : World} {g : Nat} {t : TypeId} (z0 z1 z2 z3 z4 z5 z6 z7 z8 z9 z10 z11 z12 z13 : Value) (h : w.heap[g]? = some (.cells #[z0, z1, z2, z3, z4, z5, z6, z7, z8, z9, z10, z11, z12, z13] t (0, 0))) (u0 u1 u2 u3 u4 u5 u6 u7 u8 u9 u10 u11 u12 u13 : Value) : ((((((((((((((w.setCell ⟨g, 0, none⟩ u0).setCell ⟨g, 1, none⟩ u1).setCell ⟨g, 2, none⟩ u2).setCell ⟨g, 3, none⟩ u3).setCell ⟨g, 4, none⟩ u4).setCell ⟨g, 5, none⟩ u5).setCell ⟨g, 6, none⟩ u6).setCell ⟨g, 7, none⟩ u7).setCell ⟨g, 8, none⟩ u8).setCell ⟨g, 9, none⟩ u9).setCell ⟨g, 10, none⟩ u10).setCell ⟨g, 11, none⟩ u11).setCell ⟨g, 12, none⟩ u12).setCell ⟨g, 13, none⟩ u13).heap[g]? = some (.cells #[u0, u1, u2, u3, u4, u5, u6, u7, u8, u9, u10, u11, u12, u13] t (0, 0)) := by
 refine blk_put (cs := #[u0, u1, u2, u3, u4, u5, u6, u7, u8, u9, u10, u11, u12, z13]) ?_ 13 u13 rfl; refine blk_put (cs := #[u0, u1, u2, u3, u4, u5, u6, u7, u8, u9, u10, u11, z12, z13]) ?_ 12 u12 rfl; refine blk_put (cs := #[u0, u1, u2, u3, u4, u5, u6, u7, u8, u9, u10, z11, z12, z13]) ?_ 11 u11 rfl; refine blk_put (cs := #[u0, u1, u2, u3, u4, u5, u6, u7, u8, u9, z10, z11, z12, z13]) ?_ 10 u10 rfl; refine blk_put (cs := #[u0, u1, u2, u3, u4, u5, u6, u7, u8, z9, z10, z11, z12, z13]) ?_ 9 u9 rfl; refine blk_put (cs := #[u0, u1, u2, u3, u4, u5, u6, u7, z8, z9, z10, z11, z12, z13]) ?_ 8 u8 rfl; refine blk_put (cs := #[u0, u1, u2, u3, u4, u5, u6, z7, z8, z9, z10, z11, z12, z13]) ?_ 7 u7 rfl; refine blk_put (cs := #[u0, u1, u2, u3, u4, u5, z6, z7, z8, z9, z10, z11, z12, z13]) ?_ 6 u6 rfl; refine blk_put (cs := #[u0, u1, u2, u3, u4, z5, z6, z7, z8, z9, z10, z11, z12, z13]) ?_ 5 u5 rfl; refine blk_put (cs := #[u0, u1, u2, u3, z4, z5, z6, z7, z8, z9, z10, z11, z12, z13]) ?_ 4 u4 rfl; refine blk_put (cs := #[u0, u1, u2, z3, z4, z5, z6, z7, z8, z9, z10, z11, z12, z13]) ?_ 3 u3 rfl; refine blk_put (cs := #[u0, u1, z2, z3, z4, z5, z6, z7, z8, z9, z10, z11, z12, z13]) ?_ 2 u2 rfl; refine blk_put (cs := #[u0, z1, z2, z3, z4, z5, z6, z7, z8, z9, z10, z11, z12, z13]) ?_ 1 u1 rfl; refine blk_put (cs := #[z0, z1, z2, z3, z4, z5, z6, z7, z8, z9, z10, z11, z12, z13]) ?_ 0 u0 rfl; exact h
theorem oD {p : Prop} [Decidable p] (h : decide p = true) : p := of_decide_eq_true h
theorem dT {p : Prop} [Decidable p] (h : p) : decide p = true := decide_eq_true h
theorem dF {p : Prop} [Decidable p] (h : ¬p) : decide p = false := decide_eq_false h
theorem kp {w W : World} {S : Nat -> Prop} (h : Kept w W S := by repeat (first | (with_reducible first | exact HK.out | apply Kept.alloc | apply Kept.drewN | apply Kept.drew) | exact HK.out)) : Kept w W S := h
theorem kq {w W : World} (h : w.heap.size <= W.heap.size := by first | exact HK.out.1 | exact (show Kept _ _ _ from by repeat (first | (with_reducible first | exact HK.out | apply Kept.alloc | apply Kept.drewN | apply Kept.drew) | exact HK.out)).1) : w.heap.size <= W.heap.size := h
theorem dd {p : Prop} (h : p := by first | exact ⟨rfl, _, World.drewN_drewN _ _ _⟩ | exact ⟨rfl, _, Eq.trans (World.drewN_drewN _ _ _) (congrArg (World.drewN _) (Nat.add_assoc _ _ _))⟩) : p := h
theorem rL {P : Program} {ops : Array Oper} {o : Oper} {a : Act} {Q : Exit -> Act -> World -> Prop} {Kc : Act -> World -> Prop} {W : World} {α : Type} (d : Kd α) (e : Nat) (N : Tmp) (xs : List α) (inner : List Value) (hrep : aZ (d.M W W.heap.size fun _ => True) d.sz xs inner) (h : ∀ v1 w1, d.R e w1 W.heap.size (fun _ => True) v1 xs -> Below W.heap.size W w1 -> W.grownBy w1 none -> (∃ b, v1.ownBlock = some b /\ W.heap.size <= b) -> Kc (a.put o.dst v1) w1) (hw : Region.wanted o (yielded ops a.tmps) = true := by exact rfl) (hd : o.dst = some N := by exact rfl) (hrun : (execOp a.eval o).run P W = .ok (.value (.slice (some ⟨W.heap.size, 0, none⟩) xs.length xs.length)) (W.alloc (.cells inner.toArray e)) := by first | (go_simp; done) | (go_simp; rfl)) (hm : xs.length <= 9223372036854775807 := by simp) : if Region.wanted o (yielded ops a.tmps) = true then Oper.wp P o a W Kc Q else Kc (a.put o.dst undef) W := Kd.R_lit_step d _ e hw hd hrun hrep (fun _ hk => hk) trivial (Below.refl _ _) (Nat.le_refl _) hm h
theorem rK {P : Program} {ops : Array Oper} {rest : List Oper} {o : Oper} {a : Act} {Q : Exit -> Act -> World -> Prop} {W : World} {α : Type} (d : Kd α) (e : Nat) (N : Tmp) (xs : List α) (inner : List Value) (hrep : aZ (d.M W W.heap.size fun _ => True) d.sz xs inner) (h : ∀ v1 w1, d.R e w1 W.heap.size (fun _ => True) v1 xs -> Below W.heap.size W w1 -> W.grownBy w1 none -> (∃ b, v1.ownBlock = some b /\ W.heap.size <= b) -> wpList P ops Q rest (a.put o.dst v1) w1) (hg : o.guard = none := by exact rfl) (hd : o.dst = some N := by exact rfl) (hrun : (execOp a.eval o).run P W = .ok (.value (.slice (some ⟨W.heap.size, 0, none⟩) xs.length xs.length)) (W.alloc (.cells inner.toArray e)) := by first | (go_simp; done) | (go_simp; rfl)) (hm : xs.length <= 9223372036854775807 := by simp) : wpList P ops Q (o :: rest) a W := Kd.R_lit d _ e hg hd hrun hrep (fun _ hk => hk) trivial (Below.refl _ _) (Nat.le_refl _) hm h
theorem jh {α : Type} {d : Kd α} {e : Nat} {w : World} {base : Nat} {ok : Nat -> Prop} {v : Value} {xs : List α} {g : Nat} (h : d.R e w base ok v xs) (hk : ∀ k : Nat, ok k -> k ≠ g) (u0 u1 u2 u3 u4 u5 u6 u7 u8 u9 u10 u11 u12 u13 : Value) : d.R e ((((((((((((((w.setCell ⟨g, 0, none⟩ u0).setCell ⟨g, 1, none⟩ u1).setCell ⟨g, 2, none⟩ u2).setCell ⟨g, 3, none⟩ u3).setCell ⟨g, 4, none⟩ u4).setCell ⟨g, 5, none⟩ u5).setCell ⟨g, 6, none⟩ u6).setCell ⟨g, 7, none⟩ u7).setCell ⟨g, 8, none⟩ u8).setCell ⟨g, 9, none⟩ u9).setCell ⟨g, 10, none⟩ u10).setCell ⟨g, 11, none⟩ u11).setCell ⟨g, 12, none⟩ u12).setCell ⟨g, 13, none⟩ u13) base ok v xs :=
 (Kd.R_far (p := ⟨g, 13, none⟩) (Kd.R_far (p := ⟨g, 12, none⟩) (Kd.R_far (p := ⟨g, 11, none⟩) (Kd.R_far (p := ⟨g, 10, none⟩) (Kd.R_far (p := ⟨g, 9, none⟩) (Kd.R_far (p := ⟨g, 8, none⟩) (Kd.R_far (p := ⟨g, 7, none⟩) (Kd.R_far (p := ⟨g, 6, none⟩) (Kd.R_far (p := ⟨g, 5, none⟩) (Kd.R_far (p := ⟨g, 4, none⟩) (Kd.R_far (p := ⟨g, 3, none⟩) (Kd.R_far (p := ⟨g, 2, none⟩) (Kd.R_far (p := ⟨g, 1, none⟩) (Kd.R_far (p := ⟨g, 0, none⟩) h hk u0) hk u1) hk u2) hk u3) hk u4) hk u5) hk u6) hk u7) hk u8) hk u9) hk u10) hk u11) hk u12) hk u13)
end Go.Proofs.YtiaelacjjbdolaaGreatDoor.Px
