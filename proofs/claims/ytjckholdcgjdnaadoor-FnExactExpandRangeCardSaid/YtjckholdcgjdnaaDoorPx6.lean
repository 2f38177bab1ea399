/- That calls of Go functions come to what the Lean functions beside them say; written by a program of this session (wip/xprint) over the printed words; no conditions. -/
import Derived.Test.YtjckholdcgjdnaaDoorPx0
import Derived.Test.YtjckholdcgjdnaaDoorPx1
import Derived.Test.YtjckholdcgjdnaaDoorPx3
import Derived.Test.YtjckholdcgjdnaaDoorPx4
import Derived.Test.YtjckholdcgjdnaaDoorPx5
namespace Go.Proofs.YtjckholdcgjdnaaDoor.Px
open Go.RowKit Go.Proofs.YtjckholdcgjdnaaDoorW.PrintWords Go.Proofs.YtjckholdcgjdnaaDoorW.PrintLast Go.Proofs.YtjckholdcgjdnaaDoorW.PrintMore
attribute [local go_sem] max2_int min2_int max_two min_two max_three min_three max_four min_four   -- for this text's walks alone
set_option linter.unusedVariables false
set_option linter.unusedSimpArgs false

/-! ### spec_ExpandRange: function 18 -/
mutual
def spec_ExpandRange.j2 : Nat → ByteArray → ByteArray → Int → Int → Option (ByteArray × Int × Int × Bool)
 | 0, _, _, _, _ => none
 | k + 1, x0, x130000, x130001, x130002 => (spec_l7Range.f x130000 x130001 x130002).bind fun t137 => (if t137 = true then (spec_ExpandRange.l0 k x0 1 x130000 x130001 x130002) else (some ((⟨#[]⟩ : ByteArray), 0, 0, false)))
def spec_ExpandRange.l0 : Nat → ByteArray → Int → ByteArray → Int → Int → Option (ByteArray × Int × Int × Bool)
 | 0, _, _, _, _, _ => none
 | k + 1, x0, x16, x130000, x130001, x130002 => if x16 ≤ 3 then ((spec_l7Collapse.f k x130000 x130001 x130002 x16).bind fun t138 => (if t138.toList = x0.toList then (some (x130000, x130001, x130002, true)) else (spec_ExpandRange.l0 k x0 (wrap64 (x16 + 1)) x130000 x130001 x130002))) else (some ((⟨#[]⟩ : ByteArray), 0, 0, false))
def spec_ExpandRange.j0 : Nat → ByteArray → ByteArray → ByteArray → ByteArray → Bool → ByteArray → Int → Int → Option (ByteArray × Int × Int × Bool)
 | 0, _, _, _, _, _, _, _, _ => none
 | k + 1, x0, x5, x11, x12, x52, x130000, x130001, x130002 => if x52 = true then (if 1 ≤ (x5.size : Int) then (spec_ExpandRange.j1 k x0 x11 (x5.extract 1 x5.size) x130000 x130001 x130002) else (none)) else (spec_ExpandRange.j1 k x0 x11 x12 x130000 x130001 x130002)
def spec_ExpandRange.j1 : Nat → ByteArray → ByteArray → ByteArray → ByteArray → Int → Int → Option (ByteArray × Int × Int × Bool)
 | 0, _, _, _, _, _, _ => none
 | k + 1, x0, x11, x12, x130000, x130001, x130002 => if (x12.size : Int) < (x11.size : Int) then (if 0 ≤ (wrap64 ((x11.size : Int) - (x12.size : Int))) then (if (wrap64 ((x11.size : Int) - (x12.size : Int))) ≤ (x11.size : Int) then (if (x11.extract 0 ((wrap64 ((x11.size : Int) - (x12.size : Int))) : Int).toNat).size + x12.size ≤ 9223372036854775807 then ((spec_l7Page.f k ((x11.extract 0 ((wrap64 ((x11.size : Int) - (x12.size : Int))) : Int).toNat) ++ x12)).bind fun bt131 => (if bt131.2.2 = true then (spec_ExpandRange.j2 k x0 x130000 x130001 bt131.2.1) else (some ((⟨#[]⟩ : ByteArray), 0, 0, false)))) else (none)) else (none)) else (none)) else ((spec_l7Page.f k x12).bind fun bt134 => (if bt134.2.2 = true then (spec_ExpandRange.j2 k x0 x130000 x130001 bt134.2.1) else (some ((⟨#[]⟩ : ByteArray), 0, 0, false))))
end
def spec_ExpandRange.f (k : Nat) (a0 : ByteArray) : Option (ByteArray × Int × Int × Bool) := (spec_l7Cut.f k a0).bind fun bt123 => ((spec_l7Page.f k bt123.1).bind fun bt126 => (if bt126.2.2 = true then (if bt123.2.2 = true then ((spec_l1Num.f k bt126.2.1).bind fun t130 => (if bt126.1.toList = ([] : List UInt8) then (spec_ExpandRange.j0 k a0 bt123.2.1 t130 bt123.2.1 false bt126.1 bt126.2.1 bt126.2.1) else (if bt123.2.1.toList = ([] : List UInt8) then (spec_ExpandRange.j0 k a0 bt123.2.1 t130 bt123.2.1 false bt126.1 bt126.2.1 bt126.2.1) else (if 0 < (bt123.2.1.size : Int) then (if 0 < (bt126.1.size : Int) then (spec_ExpandRange.j0 k a0 bt123.2.1 t130 bt123.2.1 ((bt bt123.2.1 0) == (bt bt126.1 0)) bt126.1 bt126.2.1 bt126.2.1) else (none)) else (none))))) else (spec_ExpandRange.j2 k a0 bt126.1 bt126.2.1 bt126.2.1)) else (some ((⟨#[]⟩ : ByteArray), 0, 0, false))))
theorem spec_ExpandRange.mono_l : ∀ k, (∀ y0 y1 y2 y3, LeO (spec_ExpandRange.j2 k y0 y1 y2 y3) (spec_ExpandRange.j2 (k + 1) y0 y1 y2 y3)) ∧ (∀ y0 y1 y2 y3 y4, LeO (spec_ExpandRange.l0 k y0 y1 y2 y3 y4) (spec_ExpandRange.l0 (k + 1) y0 y1 y2 y3 y4)) ∧ (∀ y0 y1 y2 y3 y4 y5 y6 y7, LeO (spec_ExpandRange.j0 k y0 y1 y2 y3 y4 y5 y6 y7) (spec_ExpandRange.j0 (k + 1) y0 y1 y2 y3 y4 y5 y6 y7)) ∧ (∀ y0 y1 y2 y3 y4 y5, LeO (spec_ExpandRange.j1 k y0 y1 y2 y3 y4 y5) (spec_ExpandRange.j1 (k + 1) y0 y1 y2 y3 y4 y5))
 | 0 => ⟨fun _ _ _ _ r h => by simp [spec_ExpandRange.j2] at h, fun _ _ _ _ _ r h => by simp [spec_ExpandRange.l0] at h, fun _ _ _ _ _ _ _ _ r h => by simp [spec_ExpandRange.j0] at h, fun _ _ _ _ _ _ r h => by simp [spec_ExpandRange.j1] at h⟩
 | k + 1 => by
  obtain ⟨ih0, ih1, ih2, ih3⟩ := spec_ExpandRange.mono_l k
  refine ⟨?_, ?_, ?_, ?_⟩
  ·intro y0 y1 y2 y3
   unfold spec_ExpandRange.j2
   repeat' first
   | (with_reducible exact ih0 _ _ _ _)
   | (with_reducible exact ih1 _ _ _ _ _)
   | (with_reducible exact ih2 _ _ _ _ _ _ _ _)
   | (with_reducible exact ih3 _ _ _ _ _ _)
   | (with_reducible exact spec_l1Num.mono _ _)
   | (with_reducible exact spec_l7Collapse.mono _ _ _ _ _)
   | (with_reducible exact spec_l7Cut.mono _ _)
   | (with_reducible exact spec_l7Page.mono _ _)
   | (with_reducible exact LeO.refl _)
   | (with_reducible exact LeO.none _)
   | (with_reducible refine LeO.ite ?_ ?_)
   | (with_reducible refine LeO.bind ?_ (fun _ => ?_))
   | exact ih0 _ _ _ _
   | exact ih1 _ _ _ _ _
   | exact ih2 _ _ _ _ _ _ _ _
   | exact ih3 _ _ _ _ _ _
   | exact spec_l1Num.mono _ _
   | exact spec_l7Collapse.mono _ _ _ _ _
   | exact spec_l7Cut.mono _ _
   | exact spec_l7Page.mono _ _
   | exact LeO.none _
   | refine LeO.ite ?_ ?_
   | refine LeO.bind ?_ (fun _ => ?_)
  ·intro y0 y1 y2 y3 y4
   unfold spec_ExpandRange.l0
   repeat' first
   | (with_reducible exact ih0 _ _ _ _)
   | (with_reducible exact ih1 _ _ _ _ _)
   | (with_reducible exact ih2 _ _ _ _ _ _ _ _)
   | (with_reducible exact ih3 _ _ _ _ _ _)
   | (with_reducible exact spec_l1Num.mono _ _)
   | (with_reducible exact spec_l7Collapse.mono _ _ _ _ _)
   | (with_reducible exact spec_l7Cut.mono _ _)
   | (with_reducible exact spec_l7Page.mono _ _)
   | (with_reducible exact LeO.refl _)
   | (with_reducible exact LeO.none _)
   | (with_reducible refine LeO.ite ?_ ?_)
   | (with_reducible refine LeO.bind ?_ (fun _ => ?_))
   | exact ih0 _ _ _ _
   | exact ih1 _ _ _ _ _
   | exact ih2 _ _ _ _ _ _ _ _
   | exact ih3 _ _ _ _ _ _
   | exact spec_l1Num.mono _ _
   | exact spec_l7Collapse.mono _ _ _ _ _
   | exact spec_l7Cut.mono _ _
   | exact spec_l7Page.mono _ _
   | exact LeO.none _
   | refine LeO.ite ?_ ?_
   | refine LeO.bind ?_ (fun _ => ?_)
  ·intro y0 y1 y2 y3 y4 y5 y6 y7
   unfold spec_ExpandRange.j0
   repeat' first
   | (with_reducible exact ih0 _ _ _ _)
   | (with_reducible exact ih1 _ _ _ _ _)
   | (with_reducible exact ih2 _ _ _ _ _ _ _ _)
   | (with_reducible exact ih3 _ _ _ _ _ _)
   | (with_reducible exact spec_l1Num.mono _ _)
   | (with_reducible exact spec_l7Collapse.mono _ _ _ _ _)
   | (with_reducible exact spec_l7Cut.mono _ _)
   | (with_reducible exact spec_l7Page.mono _ _)
   | (with_reducible exact LeO.refl _)
   | (with_reducible exact LeO.none _)
   | (with_reducible refine LeO.ite ?_ ?_)
   | (with_reducible refine LeO.bind ?_ (fun _ => ?_))
   | exact ih0 _ _ _ _
   | exact ih1 _ _ _ _ _
   | exact ih2 _ _ _ _ _ _ _ _
   | exact ih3 _ _ _ _ _ _
   | exact spec_l1Num.mono _ _
   | exact spec_l7Collapse.mono _ _ _ _ _
   | exact spec_l7Cut.mono _ _
   | exact spec_l7Page.mono _ _
   | exact LeO.none _
   | refine LeO.ite ?_ ?_
   | refine LeO.bind ?_ (fun _ => ?_)
  ·intro y0 y1 y2 y3 y4 y5
   unfold spec_ExpandRange.j1
   repeat' first
   | (with_reducible exact ih0 _ _ _ _)
   | (with_reducible exact ih1 _ _ _ _ _)
   | (with_reducible exact ih2 _ _ _ _ _ _ _ _)
   | (with_reducible exact ih3 _ _ _ _ _ _)
   | (with_reducible exact spec_l1Num.mono _ _)
   | (with_reducible exact spec_l7Collapse.mono _ _ _ _ _)
   | (with_reducible exact spec_l7Cut.mono _ _)
   | (with_reducible exact spec_l7Page.mono _ _)
   | (with_reducible exact LeO.refl _)
   | (with_reducible exact LeO.none _)
   | (with_reducible refine LeO.ite ?_ ?_)
   | (with_reducible refine LeO.bind ?_ (fun _ => ?_))
   | exact ih0 _ _ _ _
   | exact ih1 _ _ _ _ _
   | exact ih2 _ _ _ _ _ _ _ _
   | exact ih3 _ _ _ _ _ _
   | exact spec_l1Num.mono _ _
   | exact spec_l7Collapse.mono _ _ _ _ _
   | exact spec_l7Cut.mono _ _
   | exact spec_l7Page.mono _ _
   | exact LeO.none _
   | refine LeO.ite ?_ ?_
   | refine LeO.bind ?_ (fun _ => ?_)
theorem spec_ExpandRange.mono : ∀ a0 k, LeO (spec_ExpandRange.f k a0) (spec_ExpandRange.f (k + 1) a0) := by
 intro a0 k
 obtain ⟨ih0, ih1, ih2, ih3⟩ := spec_ExpandRange.mono_l k
 unfold spec_ExpandRange.f
 repeat' first
   | (with_reducible exact ih0 _ _ _ _)
   | (with_reducible exact ih1 _ _ _ _ _)
   | (with_reducible exact ih2 _ _ _ _ _ _ _ _)
   | (with_reducible exact ih3 _ _ _ _ _ _)
   | (with_reducible exact spec_l1Num.mono _ _)
   | (with_reducible exact spec_l7Collapse.mono _ _ _ _ _)
   | (with_reducible exact spec_l7Cut.mono _ _)
   | (with_reducible exact spec_l7Page.mono _ _)
   | (with_reducible exact LeO.refl _)
   | (with_reducible exact LeO.none _)
   | (with_reducible refine LeO.ite ?_ ?_)
   | (with_reducible refine LeO.bind ?_ (fun _ => ?_))
   | exact ih0 _ _ _ _
   | exact ih1 _ _ _ _ _
   | exact ih2 _ _ _ _ _ _ _ _
   | exact ih3 _ _ _ _ _ _
   | exact spec_l1Num.mono _ _
   | exact spec_l7Collapse.mono _ _ _ _ _
   | exact spec_l7Cut.mono _ _
   | exact spec_l7Page.mono _ _
   | exact LeO.none _
   | refine LeO.ite ?_ ?_
   | refine LeO.bind ?_ (fun _ => ?_)
set_option maxHeartbeats 8000000 in
set_option maxRecDepth 100000 in
theorem spec_ExpandRange.calls (k : Nat) (a0 : ByteArray) (r1 : ByteArray) (r2 : Int) (r3 : Int) (r4 : Bool) (w : World) (h : spec_ExpandRange.f k a0 = some (r1, r2, r3, r4)) :
  Calls Tryd.prog 18 #[.string a0] w fun e w' => e = .returned (.tuple #[.agg #[.string r1, .int .i64 r2, .int .i64 r3], .bool r4]) ∧ Below w.heap.size w w' := by
 have hu27 := Tryd.underlying27
 have HB := AM (Below.refl w.heap.size w)
 have H : ((spec_l7Cut.f k a0).bind fun bt123 => ((spec_l7Page.f k bt123.1).bind fun bt126 => (if bt126.2.2 = true then (if bt123.2.2 = true then ((spec_l1Num.f k bt126.2.1).bind fun t130 => (if bt126.1.toList = ([] : List UInt8) then (spec_ExpandRange.j0 k a0 bt123.2.1 t130 bt123.2.1 false bt126.1 bt126.2.1 bt126.2.1) else (if bt123.2.1.toList = ([] : List UInt8) then (spec_ExpandRange.j0 k a0 bt123.2.1 t130 bt123.2.1 false bt126.1 bt126.2.1 bt126.2.1) else (if 0 < (bt123.2.1.size : Int) then (if 0 < (bt126.1.size : Int) then (spec_ExpandRange.j0 k a0 bt123.2.1 t130 bt123.2.1 ((bt bt123.2.1 0) == (bt bt126.1 0)) bt126.1 bt126.2.1 bt126.2.1) else (none)) else (none))))) else (spec_ExpandRange.j2 k a0 bt126.1 bt126.2.1 bt126.2.1)) else (some ((⟨#[]⟩ : ByteArray), 0, 0, false))))) = some (r1, r2, r3, r4) := h
 clear h
 replace H := Option.bind_eq_some_iff.mp H
 obtain ⟨⟨t123, t124, t125⟩, A20, H⟩ := H
 replace H : ((spec_l7Page.f k t123).bind fun bt126 => (if bt126.2.2 = true then (if t125 = true then ((spec_l1Num.f k bt126.2.1).bind fun t130 => (if bt126.1.toList = ([] : List UInt8) then (spec_ExpandRange.j0 k a0 t124 t130 t124 false bt126.1 bt126.2.1 bt126.2.1) else (if t124.toList = ([] : List UInt8) then (spec_ExpandRange.j0 k a0 t124 t130 t124 false bt126.1 bt126.2.1 bt126.2.1) else (if 0 < (t124.size : Int) then (if 0 < (bt126.1.size : Int) then (spec_ExpandRange.j0 k a0 t124 t130 t124 ((bt t124 0) == (bt bt126.1 0)) bt126.1 bt126.2.1 bt126.2.1) else (none)) else (none))))) else (spec_ExpandRange.j2 k a0 bt126.1 bt126.2.1 bt126.2.1)) else (some ((⟨#[]⟩ : ByteArray), 0, 0, false)))) = some (r1, r2, r3, r4) := H
 have A2 := AM A20
 clear A20
 replace H := Option.bind_eq_some_iff.mp H
 obtain ⟨⟨t126, t127, t128⟩, A30, H⟩ := H
 replace H : (if t128 = true then (if t125 = true then ((spec_l1Num.f k t127).bind fun t130 => (if t126.toList = ([] : List UInt8) then (spec_ExpandRange.j0 k a0 t124 t130 t124 false t126 t127 t127) else (if t124.toList = ([] : List UInt8) then (spec_ExpandRange.j0 k a0 t124 t130 t124 false t126 t127 t127) else (if 0 < (t124.size : Int) then (if 0 < (t126.size : Int) then (spec_ExpandRange.j0 k a0 t124 t130 t124 ((bt t124 0) == (bt t126 0)) t126 t127 t127) else (none)) else (none))))) else (spec_ExpandRange.j2 k a0 t126 t127 t127)) else (some ((⟨#[]⟩ : ByteArray), 0, 0, false))) = some (r1, r2, r3, r4) := H
 have A3 := AM A30
 clear A30
 by_cases c4 : t128 = true
 ·subst c4
  have H1 : (if t125 = true then ((spec_l1Num.f k t127).bind fun t130 => (if t126.toList = ([] : List UInt8) then (spec_ExpandRange.j0 k a0 t124 t130 t124 false t126 t127 t127) else (if t124.toList = ([] : List UInt8) then (spec_ExpandRange.j0 k a0 t124 t130 t124 false t126 t127 t127) else (if 0 < (t124.size : Int) then (if 0 < (t126.size : Int) then (spec_ExpandRange.j0 k a0 t124 t130 t124 ((bt t124 0) == (bt t126 0)) t126 t127 t127) else (none)) else (none))))) else (spec_ExpandRange.j2 k a0 t126 t127 t127)) = some (r1, r2, r3, r4) := by rw [if_pos rfl] at H; exact H
  clear H
  have H := H1
  clear H1
  have HC5 := AM H
  clear H
  go_enter Tryd.func18, Tryd.ntmps18
  go_upto_if 36 with (first | ((with_reducible refine gate_dst (N := 2) rfl ?_); refine box_event ?hg (N := 2) ?hd (cs := #[.string (⟨#[]⟩ : ByteArray), .int .i64 0, .int .i64 0]) (t := 27) ?hr ?_; (case hd => rfl); (case hg => rfl); (case hr => first | (go_simp; done) | (go_simp; rfl)); intro gb122 hg w6 hbox hb; have n0_ := AM (below_step (by repeat (first | (with_reducible first | exact HB.out | apply below_alloc | apply pw_below_drewN | apply below_drew1) | exact HB.out)) hb); have n1_ := AM (hbox); have n2_ := AM ((by rw [hg]; exact (below_size (by repeat (first | (with_reducible first | exact HB.out | apply below_alloc | apply pw_below_drewN | apply below_drew1) | exact HB.out))) : w.heap.size ≤ gb122)); have n3_ := AM ((by rw [hg]; exact (below_size (by repeat (first | (with_reducible first | exact HB.out | apply below_alloc | apply pw_below_drewN | apply below_drew1) | exact HB.out))) : w.heap.size ≤ gb122)); clear HB; have HB := n0_; have BK122 := n1_; have GW122 := n2_; have GE122 := n3_; clear n0_ n1_ n2_ n3_; clear hb hbox hg) | (go_at_call 45; (with_reducible refine (spec_l7Cut.calls k a0 t123 t124 t125 _ A2.out).mono ?_); rintro e w' ⟨rfl, ⟨nd, rfl⟩⟩; (try first | exact ⟨rfl, _, World.drewN_drewN _ _ _⟩ | exact ⟨rfl, _, Eq.trans (World.drewN_drewN _ _ _) (congrArg (World.drewN _) (Nat.add_assoc _ _ _))⟩)) | (go_at_call 46; (with_reducible refine (spec_l7Page.calls k t123 t126 t127 true _ A3.out).mono ?_); rintro e w7 ⟨rfl, hb⟩; have n0_ := AM (blk_below (g := gb122) (o := .cells #[.string (⟨#[]⟩ : ByteArray), .int .i64 0, .int .i64 0] 27 (0, 0)) (by (with_reducible repeat (first | refine blk_drewN ?_ _ | refine blk_drew ?_ | refine blk_alloc ?_ _)); exact BK122.out) hb); have n1_ := AM (below_step (by repeat (first | (with_reducible first | exact HB.out | apply below_alloc | apply pw_below_drewN | apply below_drew1 | refine below_set ?_ GE122.out) | exact HB.out)) hb); clear BK122; clear HB; have BK122 := n0_; have HB := n1_; clear n0_ n1_; (try clear hb); (try clear hb2); (try clear hk); (try clear hi)) | ((with_reducible refine gate_dst (N := 10) rfl ?_); refine box_event ?hg (N := 10) ?hd (cs := #[.string (⟨#[]⟩ : ByteArray), .int .i64 0, .int .i64 0]) (t := 27) ?hr ?_; (case hd => rfl); (case hg => rfl); (case hr => first | (go_simp; done) | (go_simp; rfl)); intro gb129 hg w8 hbox hb; have n0_ := AM (blk_below (g := gb122) (o := .cells #[.string (⟨#[]⟩ : ByteArray), .int .i64 0, .int .i64 0] 27 (0, 0)) (by (with_reducible repeat (first | refine blk_drewN ?_ _ | refine blk_drew ?_ | refine blk_alloc ?_ _)); exact BK122.out) hb); have n1_ := AM (below_step (by repeat (first | (with_reducible first | exact HB.out | apply below_alloc | apply pw_below_drewN | apply below_drew1 | refine below_set ?_ GE122.out) | exact HB.out)) hb); have n2_ := AM (hbox); have n3_ := AM ((by rw [hg]; exact (below_size (by repeat (first | (with_reducible first | exact HB.out | apply below_alloc | apply pw_below_drewN | apply below_drew1 | refine below_set ?_ GE122.out) | exact HB.out))) : w.heap.size ≤ gb129)); have n4_ := AM ((by rw [hg]; exact (below_size (by repeat (first | (with_reducible first | exact HB.out | apply below_alloc | apply pw_below_drewN | apply below_drew1 | refine below_set ?_ GE122.out) | exact HB.out))) : w.heap.size ≤ gb129)); have n5_ := AM ((by rw [hg]; exact Nat.ne_of_lt (blk_lt (g := gb122) (o := .cells #[.string (⟨#[]⟩ : ByteArray), .int .i64 0, .int .i64 0] 27 (0, 0)) (by (with_reducible repeat (first | refine blk_drewN ?_ _ | refine blk_drew ?_ | refine blk_alloc ?_ _)); exact BK122.out)) : gb122 ≠ gb129)); have n6_ := AM ((by rw [hg]; exact Nat.ne_of_gt (blk_lt (g := gb122) (o := .cells #[.string (⟨#[]⟩ : ByteArray), .int .i64 0, .int .i64 0] 27 (0, 0)) (by (with_reducible repeat (first | refine blk_drewN ?_ _ | refine blk_drew ?_ | refine blk_alloc ?_ _)); exact BK122.out)) : gb129 ≠ gb122)); clear BK122; clear HB; have BK122 := n0_; have HB := n1_; have BK129 := n2_; have GW129 := n3_; have GE129 := n4_; have NB122_129 := n5_; have NB129_122 := n6_; clear n0_ n1_ n2_ n3_ n4_ n5_ n6_; clear hb hbox hg; have hnb9 := NB129_122.out; have hnc9 := NB122_129.out; have hcz10_0 : w8.cell? ⟨gb129, 0, none⟩ = some (.string (⟨#[]⟩ : ByteArray)) := (blk_cell BK129.out 0).trans rfl; have hcz10_1 : w8.cell? ⟨gb129, 1, none⟩ = some (.int .i64 0) := (blk_cell BK129.out 1).trans rfl; have hcz10_2 : w8.cell? ⟨gb129, 2, none⟩ = some (.int .i64 0) := (blk_cell BK129.out 2).trans rfl; have hfz10_0 := blk_frozen BK129.out 0; have hfz10_1 := blk_frozen BK129.out 1; have hfz10_2 := blk_frozen BK129.out 2))
  repeat (go_quiet (first | ((with_reducible refine gate_dst (N := 2) rfl ?_); refine box_event ?hg (N := 2) ?hd (cs := #[.string (⟨#[]⟩ : ByteArray), .int .i64 0, .int .i64 0]) (t := 27) ?hr ?_; (case hd => rfl); (case hg => rfl); (case hr => first | (go_simp; done) | (go_simp; rfl)); intro gb122 hg w6 hbox hb; have n0_ := AM (below_step (by repeat (first | (with_reducible first | exact HB.out | apply below_alloc | apply pw_below_drewN | apply below_drew1) | exact HB.out)) hb); have n1_ := AM (hbox); have n2_ := AM ((by rw [hg]; exact (below_size (by repeat (first | (with_reducible first | exact HB.out | apply below_alloc | apply pw_below_drewN | apply below_drew1) | exact HB.out))) : w.heap.size ≤ gb122)); have n3_ := AM ((by rw [hg]; exact (below_size (by repeat (first | (with_reducible first | exact HB.out | apply below_alloc | apply pw_below_drewN | apply below_drew1) | exact HB.out))) : w.heap.size ≤ gb122)); clear HB; have HB := n0_; have BK122 := n1_; have GW122 := n2_; have GE122 := n3_; clear n0_ n1_ n2_ n3_; clear hb hbox hg) | (go_at_call 45; (with_reducible refine (spec_l7Cut.calls k a0 t123 t124 t125 _ A2.out).mono ?_); rintro e w' ⟨rfl, ⟨nd, rfl⟩⟩; (try first | exact ⟨rfl, _, World.drewN_drewN _ _ _⟩ | exact ⟨rfl, _, Eq.trans (World.drewN_drewN _ _ _) (congrArg (World.drewN _) (Nat.add_assoc _ _ _))⟩)) | (go_at_call 46; (with_reducible refine (spec_l7Page.calls k t123 t126 t127 true _ A3.out).mono ?_); rintro e w7 ⟨rfl, hb⟩; have n0_ := AM (blk_below (g := gb122) (o := .cells #[.string (⟨#[]⟩ : ByteArray), .int .i64 0, .int .i64 0] 27 (0, 0)) (by (with_reducible repeat (first | refine blk_drewN ?_ _ | refine blk_drew ?_ | refine blk_alloc ?_ _)); exact BK122.out) hb); have n1_ := AM (below_step (by repeat (first | (with_reducible first | exact HB.out | apply below_alloc | apply pw_below_drewN | apply below_drew1 | refine below_set ?_ GE122.out) | exact HB.out)) hb); clear BK122; clear HB; have BK122 := n0_; have HB := n1_; clear n0_ n1_; (try clear hb); (try clear hb2); (try clear hk); (try clear hi)) | ((with_reducible refine gate_dst (N := 10) rfl ?_); refine box_event ?hg (N := 10) ?hd (cs := #[.string (⟨#[]⟩ : ByteArray), .int .i64 0, .int .i64 0]) (t := 27) ?hr ?_; (case hd => rfl); (case hg => rfl); (case hr => first | (go_simp; done) | (go_simp; rfl)); intro gb129 hg w8 hbox hb; have n0_ := AM (blk_below (g := gb122) (o := .cells #[.string (⟨#[]⟩ : ByteArray), .int .i64 0, .int .i64 0] 27 (0, 0)) (by (with_reducible repeat (first | refine blk_drewN ?_ _ | refine blk_drew ?_ | refine blk_alloc ?_ _)); exact BK122.out) hb); have n1_ := AM (below_step (by repeat (first | (with_reducible first | exact HB.out | apply below_alloc | apply pw_below_drewN | apply below_drew1 | refine below_set ?_ GE122.out) | exact HB.out)) hb); have n2_ := AM (hbox); have n3_ := AM ((by rw [hg]; exact (below_size (by repeat (first | (with_reducible first | exact HB.out | apply below_alloc | apply pw_below_drewN | apply below_drew1 | refine below_set ?_ GE122.out) | exact HB.out))) : w.heap.size ≤ gb129)); have n4_ := AM ((by rw [hg]; exact (below_size (by repeat (first | (with_reducible first | exact HB.out | apply below_alloc | apply pw_below_drewN | apply below_drew1 | refine below_set ?_ GE122.out) | exact HB.out))) : w.heap.size ≤ gb129)); have n5_ := AM ((by rw [hg]; exact Nat.ne_of_lt (blk_lt (g := gb122) (o := .cells #[.string (⟨#[]⟩ : ByteArray), .int .i64 0, .int .i64 0] 27 (0, 0)) (by (with_reducible repeat (first | refine blk_drewN ?_ _ | refine blk_drew ?_ | refine blk_alloc ?_ _)); exact BK122.out)) : gb122 ≠ gb129)); have n6_ := AM ((by rw [hg]; exact Nat.ne_of_gt (blk_lt (g := gb122) (o := .cells #[.string (⟨#[]⟩ : ByteArray), .int .i64 0, .int .i64 0] 27 (0, 0)) (by (with_reducible repeat (first | refine blk_drewN ?_ _ | refine blk_drew ?_ | refine blk_alloc ?_ _)); exact BK122.out)) : gb129 ≠ gb122)); clear BK122; clear HB; have BK122 := n0_; have HB := n1_; have BK129 := n2_; have GW129 := n3_; have GE129 := n4_; have NB122_129 := n5_; have NB129_122 := n6_; clear n0_ n1_ n2_ n3_ n4_ n5_ n6_; clear hb hbox hg; have hnb9 := NB129_122.out; have hnc9 := NB122_129.out; have hcz10_0 : w8.cell? ⟨gb129, 0, none⟩ = some (.string (⟨#[]⟩ : ByteArray)) := (blk_cell BK129.out 0).trans rfl; have hcz10_1 : w8.cell? ⟨gb129, 1, none⟩ = some (.int .i64 0) := (blk_cell BK129.out 1).trans rfl; have hcz10_2 : w8.cell? ⟨gb129, 2, none⟩ = some (.int .i64 0) := (blk_cell BK129.out 2).trans rfl; have hfz10_0 := blk_frozen BK129.out 0; have hfz10_1 := blk_frozen BK129.out 1; have hfz10_2 := blk_frozen BK129.out 2)); go_upto_if 36 with (first | ((with_reducible refine gate_dst (N := 2) rfl ?_); refine box_event ?hg (N := 2) ?hd (cs := #[.string (⟨#[]⟩ : ByteArray), .int .i64 0, .int .i64 0]) (t := 27) ?hr ?_; (case hd => rfl); (case hg => rfl); (case hr => first | (go_simp; done) | (go_simp; rfl)); intro gb122 hg w6 hbox hb; have n0_ := AM (below_step (by repeat (first | (with_reducible first | exact HB.out | apply below_alloc | apply pw_below_drewN | apply below_drew1) | exact HB.out)) hb); have n1_ := AM (hbox); have n2_ := AM ((by rw [hg]; exact (below_size (by repeat (first | (with_reducible first | exact HB.out | apply below_alloc | apply pw_below_drewN | apply below_drew1) | exact HB.out))) : w.heap.size ≤ gb122)); have n3_ := AM ((by rw [hg]; exact (below_size (by repeat (first | (with_reducible first | exact HB.out | apply below_alloc | apply pw_below_drewN | apply below_drew1) | exact HB.out))) : w.heap.size ≤ gb122)); clear HB; have HB := n0_; have BK122 := n1_; have GW122 := n2_; have GE122 := n3_; clear n0_ n1_ n2_ n3_; clear hb hbox hg) | (go_at_call 45; (with_reducible refine (spec_l7Cut.calls k a0 t123 t124 t125 _ A2.out).mono ?_); rintro e w' ⟨rfl, ⟨nd, rfl⟩⟩; (try first | exact ⟨rfl, _, World.drewN_drewN _ _ _⟩ | exact ⟨rfl, _, Eq.trans (World.drewN_drewN _ _ _) (congrArg (World.drewN _) (Nat.add_assoc _ _ _))⟩)) | (go_at_call 46; (with_reducible refine (spec_l7Page.calls k t123 t126 t127 true _ A3.out).mono ?_); rintro e w7 ⟨rfl, hb⟩; have n0_ := AM (blk_below (g := gb122) (o := .cells #[.string (⟨#[]⟩ : ByteArray), .int .i64 0, .int .i64 0] 27 (0, 0)) (by (with_reducible repeat (first | refine blk_drewN ?_ _ | refine blk_drew ?_ | refine blk_alloc ?_ _)); exact BK122.out) hb); have n1_ := AM (below_step (by repeat (first | (with_reducible first | exact HB.out | apply below_alloc | apply pw_below_drewN | apply below_drew1 | refine below_set ?_ GE122.out) | exact HB.out)) hb); clear BK122; clear HB; have BK122 := n0_; have HB := n1_; clear n0_ n1_; (try clear hb); (try clear hb2); (try clear hk); (try clear hi)) | ((with_reducible refine gate_dst (N := 10) rfl ?_); refine box_event ?hg (N := 10) ?hd (cs := #[.string (⟨#[]⟩ : ByteArray), .int .i64 0, .int .i64 0]) (t := 27) ?hr ?_; (case hd => rfl); (case hg => rfl); (case hr => first | (go_simp; done) | (go_simp; rfl)); intro gb129 hg w8 hbox hb; have n0_ := AM (blk_below (g := gb122) (o := .cells #[.string (⟨#[]⟩ : ByteArray), .int .i64 0, .int .i64 0] 27 (0, 0)) (by (with_reducible repeat (first | refine blk_drewN ?_ _ | refine blk_drew ?_ | refine blk_alloc ?_ _)); exact BK122.out) hb); have n1_ := AM (below_step (by repeat (first | (with_reducible first | exact HB.out | apply below_alloc | apply pw_below_drewN | apply below_drew1 | refine below_set ?_ GE122.out) | exact HB.out)) hb); have n2_ := AM (hbox); have n3_ := AM ((by rw [hg]; exact (below_size (by repeat (first | (with_reducible first | exact HB.out | apply below_alloc | apply pw_below_drewN | apply below_drew1 | refine below_set ?_ GE122.out) | exact HB.out))) : w.heap.size ≤ gb129)); have n4_ := AM ((by rw [hg]; exact (below_size (by repeat (first | (with_reducible first | exact HB.out | apply below_alloc | apply pw_below_drewN | apply below_drew1 | refine below_set ?_ GE122.out) | exact HB.out))) : w.heap.size ≤ gb129)); have n5_ := AM ((by rw [hg]; exact Nat.ne_of_lt (blk_lt (g := gb122) (o := .cells #[.string (⟨#[]⟩ : ByteArray), .int .i64 0, .int .i64 0] 27 (0, 0)) (by (with_reducible repeat (first | refine blk_drewN ?_ _ | refine blk_drew ?_ | refine blk_alloc ?_ _)); exact BK122.out)) : gb122 ≠ gb129)); have n6_ := AM ((by rw [hg]; exact Nat.ne_of_gt (blk_lt (g := gb122) (o := .cells #[.string (⟨#[]⟩ : ByteArray), .int .i64 0, .int .i64 0] 27 (0, 0)) (by (with_reducible repeat (first | refine blk_drewN ?_ _ | refine blk_drew ?_ | refine blk_alloc ?_ _)); exact BK122.out)) : gb129 ≠ gb122)); clear BK122; clear HB; have BK122 := n0_; have HB := n1_; have BK129 := n2_; have GW129 := n3_; have GE129 := n4_; have NB122_129 := n5_; have NB129_122 := n6_; clear n0_ n1_ n2_ n3_ n4_ n5_ n6_; clear hb hbox hg; have hnb9 := NB129_122.out; have hnc9 := NB122_129.out; have hcz10_0 : w8.cell? ⟨gb129, 0, none⟩ = some (.string (⟨#[]⟩ : ByteArray)) := (blk_cell BK129.out 0).trans rfl; have hcz10_1 : w8.cell? ⟨gb129, 1, none⟩ = some (.int .i64 0) := (blk_cell BK129.out 1).trans rfl; have hcz10_2 : w8.cell? ⟨gb129, 2, none⟩ = some (.int .i64 0) := (blk_cell BK129.out 2).trans rfl; have hfz10_0 := blk_frozen BK129.out 0; have hfz10_1 := blk_frozen BK129.out 1; have hfz10_2 := blk_frozen BK129.out 2)))
  (try simp only [Act.put, sT, sZ, sS])
  go_cut [] (fun wc => ∃ (kq : Nat) (x123000_4 : ByteArray) (x123001_4 : Int) (x123002_4 : Int) (x130002_4 : Int), Aside0 (spec_ExpandRange.j2 kq a0 t126 t127 x130002_4 = some (r1, r2, r3, r4)) ∧ Aside0 (kq ≤ k) ∧ Aside0 (wc.heap[gb122]? = some (.cells #[.string x123000_4, .int .i64 x123001_4, .int .i64 x123002_4] 27 (0, 0))) ∧ Aside0 (wc.heap[gb129]? = some (.cells #[.string t126, .int .i64 t127, .int .i64 x130002_4] 27 (0, 0))) ∧ Aside0 (Below w.heap.size w wc))
  case first =>
   have H := HC5.out
   clear HC5
   by_cases c11 : t125 = true
   ·subst c11
    have H1 : ((spec_l1Num.f k t127).bind fun t130 => (if t126.toList = ([] : List UInt8) then (spec_ExpandRange.j0 k a0 t124 t130 t124 false t126 t127 t127) else (if t124.toList = ([] : List UInt8) then (spec_ExpandRange.j0 k a0 t124 t130 t124 false t126 t127 t127) else (if 0 < (t124.size : Int) then (if 0 < (t126.size : Int) then (spec_ExpandRange.j0 k a0 t124 t130 t124 ((bt t124 0) == (bt t126 0)) t126 t127 t127) else (none)) else (none))))) = some (r1, r2, r3, r4) := by rw [if_pos rfl] at H; exact H
    clear H
    have H := H1
    clear H1
    replace H := Option.bind_eq_some_iff.mp H
    obtain ⟨t130, A120, H⟩ := H
    replace H : (if t126.toList = ([] : List UInt8) then (spec_ExpandRange.j0 k a0 t124 t130 t124 false t126 t127 t127) else (if t124.toList = ([] : List UInt8) then (spec_ExpandRange.j0 k a0 t124 t130 t124 false t126 t127 t127) else (if 0 < (t124.size : Int) then (if 0 < (t126.size : Int) then (spec_ExpandRange.j0 k a0 t124 t130 t124 ((bt t124 0) == (bt t126 0)) t126 t127 t127) else (none)) else (none)))) = some (r1, r2, r3, r4) := H
    have A12 := AM A120
    clear A120
    have HC13 := AM H
    clear H
    go_upto_region 9 with (first | (go_at_call 47; (with_reducible refine (spec_l1Num.calls k t127 t130 _ A12.out).mono ?_); rintro e w14 ⟨rfl, hb⟩; have n0_ := AM (blk_below (g := gb122) (o := .cells #[.string (⟨#[]⟩ : ByteArray), .int .i64 0, .int .i64 0] 27 (0, 0)) (by (with_reducible repeat (first | refine blk_drewN ?_ _ | refine blk_drew ?_ | refine blk_alloc ?_ _)); refine blk_far ?_ NB122_129.out _; (with_reducible repeat (first | refine blk_drewN ?_ _ | refine blk_drew ?_ | refine blk_alloc ?_ _)); refine blk_far ?_ NB122_129.out _; (with_reducible repeat (first | refine blk_drewN ?_ _ | refine blk_drew ?_ | refine blk_alloc ?_ _)); refine blk_far ?_ NB122_129.out _; (with_reducible repeat (first | refine blk_drewN ?_ _ | refine blk_drew ?_ | refine blk_alloc ?_ _)); exact BK122.out) hb); have n1_ := AM (blk_below (g := gb129) (o := .cells #[.string t126, .int .i64 t127, .int .i64 t127] 27 (0, 0)) (by (with_reducible repeat (first | refine blk_drewN ?_ _ | refine blk_drew ?_ | refine blk_alloc ?_ _)); refine blk_put (cs := #[.string t126, .int .i64 t127, .int .i64 0]) ?_ 2 _ rfl; (with_reducible repeat (first | refine blk_drewN ?_ _ | refine blk_drew ?_ | refine blk_alloc ?_ _)); refine blk_put (cs := #[.string t126, .int .i64 0, .int .i64 0]) ?_ 1 _ rfl; (with_reducible repeat (first | refine blk_drewN ?_ _ | refine blk_drew ?_ | refine blk_alloc ?_ _)); refine blk_put (cs := #[.string (⟨#[]⟩ : ByteArray), .int .i64 0, .int .i64 0]) ?_ 0 _ rfl; (with_reducible repeat (first | refine blk_drewN ?_ _ | refine blk_drew ?_ | refine blk_alloc ?_ _)); exact BK129.out) hb); have n2_ := AM (below_step (by repeat (first | (with_reducible first | exact HB.out | apply below_alloc | apply pw_below_drewN | apply below_drew1 | refine below_set ?_ GE122.out | refine below_set ?_ GE129.out) | exact HB.out)) hb); clear BK122; clear BK129; clear HB; have BK122 := n0_; have BK129 := n1_; have HB := n2_; clear n0_ n1_ n2_; (try clear hb); (try clear hb2); (try clear hk); (try clear hi)))
    repeat (go_quiet (first | (go_at_call 47; (with_reducible refine (spec_l1Num.calls k t127 t130 _ A12.out).mono ?_); rintro e w14 ⟨rfl, hb⟩; have n0_ := AM (blk_below (g := gb122) (o := .cells #[.string (⟨#[]⟩ : ByteArray), .int .i64 0, .int .i64 0] 27 (0, 0)) (by (with_reducible repeat (first | refine blk_drewN ?_ _ | refine blk_drew ?_ | refine blk_alloc ?_ _)); refine blk_far ?_ NB122_129.out _; (with_reducible repeat (first | refine blk_drewN ?_ _ | refine blk_drew ?_ | refine blk_alloc ?_ _)); refine blk_far ?_ NB122_129.out _; (with_reducible repeat (first | refine blk_drewN ?_ _ | refine blk_drew ?_ | refine blk_alloc ?_ _)); refine blk_far ?_ NB122_129.out _; (with_reducible repeat (first | refine blk_drewN ?_ _ | refine blk_drew ?_ | refine blk_alloc ?_ _)); exact BK122.out) hb); have n1_ := AM (blk_below (g := gb129) (o := .cells #[.string t126, .int .i64 t127, .int .i64 t127] 27 (0, 0)) (by (with_reducible repeat (first | refine blk_drewN ?_ _ | refine blk_drew ?_ | refine blk_alloc ?_ _)); refine blk_put (cs := #[.string t126, .int .i64 t127, .int .i64 0]) ?_ 2 _ rfl; (with_reducible repeat (first | refine blk_drewN ?_ _ | refine blk_drew ?_ | refine blk_alloc ?_ _)); refine blk_put (cs := #[.string t126, .int .i64 0, .int .i64 0]) ?_ 1 _ rfl; (with_reducible repeat (first | refine blk_drewN ?_ _ | refine blk_drew ?_ | refine blk_alloc ?_ _)); refine blk_put (cs := #[.string (⟨#[]⟩ : ByteArray), .int .i64 0, .int .i64 0]) ?_ 0 _ rfl; (with_reducible repeat (first | refine blk_drewN ?_ _ | refine blk_drew ?_ | refine blk_alloc ?_ _)); exact BK129.out) hb); have n2_ := AM (below_step (by repeat (first | (with_reducible first | exact HB.out | apply below_alloc | apply pw_below_drewN | apply below_drew1 | refine below_set ?_ GE122.out | refine below_set ?_ GE129.out) | exact HB.out)) hb); clear BK122; clear BK129; clear HB; have BK122 := n0_; have BK129 := n1_; have HB := n2_; clear n0_ n1_ n2_; (try clear hb); (try clear hb2); (try clear hk); (try clear hi))); go_upto_region 9 with (first | (go_at_call 47; (with_reducible refine (spec_l1Num.calls k t127 t130 _ A12.out).mono ?_); rintro e w14 ⟨rfl, hb⟩; have n0_ := AM (blk_below (g := gb122) (o := .cells #[.string (⟨#[]⟩ : ByteArray), .int .i64 0, .int .i64 0] 27 (0, 0)) (by (with_reducible repeat (first | refine blk_drewN ?_ _ | refine blk_drew ?_ | refine blk_alloc ?_ _)); refine blk_far ?_ NB122_129.out _; (with_reducible repeat (first | refine blk_drewN ?_ _ | refine blk_drew ?_ | refine blk_alloc ?_ _)); refine blk_far ?_ NB122_129.out _; (with_reducible repeat (first | refine blk_drewN ?_ _ | refine blk_drew ?_ | refine blk_alloc ?_ _)); refine blk_far ?_ NB122_129.out _; (with_reducible repeat (first | refine blk_drewN ?_ _ | refine blk_drew ?_ | refine blk_alloc ?_ _)); exact BK122.out) hb); have n1_ := AM (blk_below (g := gb129) (o := .cells #[.string t126, .int .i64 t127, .int .i64 t127] 27 (0, 0)) (by (with_reducible repeat (first | refine blk_drewN ?_ _ | refine blk_drew ?_ | refine blk_alloc ?_ _)); refine blk_put (cs := #[.string t126, .int .i64 t127, .int .i64 0]) ?_ 2 _ rfl; (with_reducible repeat (first | refine blk_drewN ?_ _ | refine blk_drew ?_ | refine blk_alloc ?_ _)); refine blk_put (cs := #[.string t126, .int .i64 0, .int .i64 0]) ?_ 1 _ rfl; (with_reducible repeat (first | refine blk_drewN ?_ _ | refine blk_drew ?_ | refine blk_alloc ?_ _)); refine blk_put (cs := #[.string (⟨#[]⟩ : ByteArray), .int .i64 0, .int .i64 0]) ?_ 0 _ rfl; (with_reducible repeat (first | refine blk_drewN ?_ _ | refine blk_drew ?_ | refine blk_alloc ?_ _)); exact BK129.out) hb); have n2_ := AM (below_step (by repeat (first | (with_reducible first | exact HB.out | apply below_alloc | apply pw_below_drewN | apply below_drew1 | refine below_set ?_ GE122.out | refine below_set ?_ GE129.out) | exact HB.out)) hb); clear BK122; clear BK129; clear HB; have BK122 := n0_; have BK129 := n1_; have HB := n2_; clear n0_ n1_ n2_; (try clear hb); (try clear hb2); (try clear hk); (try clear hi))))
    (try simp only [Act.put, sT, sZ, sS])
    go_cut [52] (fun v52 wc => ∃ (kq : Nat) (x52_12 : Bool), v52 = .bool x52_12 ∧ Aside0 (spec_ExpandRange.j0 kq a0 t124 t130 t124 x52_12 t126 t127 t127 = some (r1, r2, r3, r4)) ∧ Aside0 (kq ≤ k) ∧ Aside0 (wc.heap[gb122]? = some (.cells #[.string (⟨#[]⟩ : ByteArray), .int .i64 0, .int .i64 0] 27 (0, 0))) ∧ Aside0 (wc.heap[gb129]? = some (.cells #[.string t126, .int .i64 t127, .int .i64 t127] 27 (0, 0))) ∧ Aside0 (Below w.heap.size w wc))
    case first =>
     have H := HC13.out
     clear HC13
     by_cases c15 : t126.toList = ([] : List UInt8)
     ·rw [if_pos c15] at H
      have c15b0 : (t126.toList == ([] : List UInt8)) = true := beq_iff_eq.mpr c15
      have c15b1 : (t126.toList != ([] : List UInt8)) = false := bne_eq_false_iff_eq.mpr c15
      clear c15
      (first | rw [c15b0] | rw [c15b1] | rw [c15b2] | (simp only [i64_w, i32_w]; rw [c15b0]) | skip)
      have H' := AM H
      clear H
      go_wp2
      repeat (go_quiet (fail); try go_wp2)
      go_meet
      case rel => exact ⟨_, (false), (by first | rfl | (simp; done) | (simp [*]; done)), H', ⟨by first | omega | exact Nat.le_refl _⟩, ⟨by (with_reducible repeat (first | refine blk_drewN ?_ _ | refine blk_drew ?_ | refine blk_alloc ?_ _)); exact BK122.out⟩, ⟨by (with_reducible repeat (first | refine blk_drewN ?_ _ | refine blk_drew ?_ | refine blk_alloc ?_ _)); exact BK129.out⟩, ⟨by repeat (first | (with_reducible first | exact HB.out | apply below_alloc | apply pw_below_drewN | apply below_drew1 | refine below_set ?_ GE122.out | refine below_set ?_ GE129.out) | exact HB.out)⟩⟩
     ·rw [if_neg c15] at H
      have c15b0 : (t126.toList == ([] : List UInt8)) = false := beq_eq_false_iff_ne.mpr c15
      have c15b1 : (t126.toList != ([] : List UInt8)) = true := bne_iff_ne.mpr c15
      (first | rw [c15b0] | rw [c15b1] | rw [c15b2] | (simp only [i64_w, i32_w]; rw [c15b0]) | skip)
      by_cases c16 : t124.toList = ([] : List UInt8)
      ·rw [if_pos c16] at H
       have c16b0 : (t124.toList == ([] : List UInt8)) = true := beq_iff_eq.mpr c16
       have c16b1 : (t124.toList != ([] : List UInt8)) = false := bne_eq_false_iff_eq.mpr c16
       clear c16
       have H' := AM H
       clear H
       go_wp2
       repeat (go_quiet (fail); try go_wp2)
       go_meet
       case rel => exact ⟨_, (false), (by first | rfl | (simp; done) | (simp [*]; done)), H', ⟨by first | omega | exact Nat.le_refl _⟩, ⟨by (with_reducible repeat (first | refine blk_drewN ?_ _ | refine blk_drew ?_ | refine blk_alloc ?_ _)); exact BK122.out⟩, ⟨by (with_reducible repeat (first | refine blk_drewN ?_ _ | refine blk_drew ?_ | refine blk_alloc ?_ _)); exact BK129.out⟩, ⟨by repeat (first | (with_reducible first | exact HB.out | apply below_alloc | apply pw_below_drewN | apply below_drew1 | refine below_set ?_ GE122.out | refine below_set ?_ GE129.out) | exact HB.out)⟩⟩
      ·rw [if_neg c16] at H
       have c16b0 : (t124.toList == ([] : List UInt8)) = false := beq_eq_false_iff_ne.mpr c16
       have c16b1 : (t124.toList != ([] : List UInt8)) = true := bne_iff_ne.mpr c16
       by_cases c17 : 0 < (t124.size : Int)
       ·rw [if_pos c17] at H
        have c17b0 : decide (0 < (t124.size : Int)) = true := decide_eq_true c17
        have c17b1 : decide (0 < t124.size) = true := decide_eq_true (by omega)
        clear c17
        by_cases c19 : 0 < (t126.size : Int)
        ·rw [if_pos c19] at H
         have c19b0 : decide (0 < (t126.size : Int)) = true := decide_eq_true c19
         have c19b1 : decide (0 < t126.size) = true := decide_eq_true (by omega)
         clear c19
         have H' := AM H
         clear H
         have p18 : 0 ≤ (0 : Int) := (by omega)
         have q18 : 0 < t124.size := (by have : (0 : Int) < (t124.size : Int) := of_decide_eq_true (by first | (with_reducible assumption) | assumption); omega)
         have hx18 : ∀ h : 0 < t124.size, ((t124[0]'h).toNat : Int) = bt t124 0 := bt_at t124 0
         clear p18
         have qi18 : (0 < (t124.size : Int)) = True := eq_true (of_decide_eq_true (by first | (with_reducible assumption) | assumption))
         replace q18 := eq_true q18
         have p20 : 0 ≤ (0 : Int) := (by omega)
         have q20 : 0 < t126.size := (by have : (0 : Int) < (t126.size : Int) := of_decide_eq_true (by first | (with_reducible assumption) | assumption); omega)
         have hx20 : ∀ h : 0 < t126.size, ((t126[0]'h).toNat : Int) = bt t126 0 := bt_at t126 0
         clear p20
         have qi20 : (0 < (t126.size : Int)) = True := eq_true (of_decide_eq_true (by first | (with_reducible assumption) | assumption))
         replace q20 := eq_true q20
         go_wp2
         repeat (go_quiet (fail); try go_wp2)
         go_meet
         case rel => exact ⟨_, (((bt t124 0) == (bt t126 0))), (by first | rfl | (simp; done) | (simp [*]; done)), H', ⟨by first | omega | exact Nat.le_refl _⟩, ⟨by (with_reducible repeat (first | refine blk_drewN ?_ _ | refine blk_drew ?_ | refine blk_alloc ?_ _)); exact BK122.out⟩, ⟨by (with_reducible repeat (first | refine blk_drewN ?_ _ | refine blk_drew ?_ | refine blk_alloc ?_ _)); exact BK129.out⟩, ⟨by repeat (first | (with_reducible first | exact HB.out | apply below_alloc | apply pw_below_drewN | apply below_drew1 | refine below_set ?_ GE122.out | refine below_set ?_ GE129.out) | exact HB.out)⟩⟩
        ·rw [if_neg c19] at H
         exact absurd H (by simp)
       ·rw [if_neg c17] at H
        exact absurd H (by simp)
    case rest =>
     clear HC13
     try clear c1
     try clear p1
     try clear q1
     try clear hx1
     try clear qi1
     try clear p2
     try clear q2
     try clear hx2
     try clear qi2
     try clear c4
     try clear c9
     try clear c11
     try clear c15
     try clear c15b0
     try clear c15b1
     try clear c15b2
     try clear c16
     try clear c16b0
     try clear c16b1
     try clear c17
     try clear c17b0
     try clear c17b1
     try clear c18
     try clear p18
     try clear q18
     try clear hx18
     try clear qi18
     try clear c19
     try clear c19b0
     try clear c19b1
     try clear p20
     try clear q20
     try clear hx20
     try clear qi20
     try clear hcz10_0
     try clear hcz10_1
     try clear hcz10_2
     try clear hfz10_0
     try clear hfz10_1
     try clear hfz10_2
     try clear p18
     try clear p20
     try clear q18
     try clear q20
     obtain ⟨kq, x52_12, rfl, HA, HJ12, BK122, BK129, HB⟩ := hcut
     cases kq with
     | zero => exact absurd HA.out (by simp [spec_ExpandRange.j0])
     | succ kj12 =>
      have H := HA.out
      clear HA
      simp only [spec_ExpandRange.j0] at H
      have HC21 := AM H
      clear H
      go_upto_if 52 with (fail)
      repeat (go_quiet (fail); go_upto_if 52 with (fail))
      go_cut [12] (fun v12 wc => ∃ (kq : Nat) (x12_20 : ByteArray), v12 = .string x12_20 ∧ Aside0 (spec_ExpandRange.j1 kq a0 t130 x12_20 t126 t127 t127 = some (r1, r2, r3, r4)) ∧ Aside0 (kq ≤ kj12) ∧ Aside0 (wc.heap[gb122]? = some (.cells #[.string (⟨#[]⟩ : ByteArray), .int .i64 0, .int .i64 0] 27 (0, 0))) ∧ Aside0 (wc.heap[gb129]? = some (.cells #[.string t126, .int .i64 t127, .int .i64 t127] 27 (0, 0))) ∧ Aside0 (Below w.heap.size w wc))
      case first =>
       have H := HC21.out
       clear HC21
       by_cases c22 : x52_12 = true
       ·subst c22
        have H1 : (if 1 ≤ (t124.size : Int) then (spec_ExpandRange.j1 kj12 a0 t130 (t124.extract 1 t124.size) t126 t127 t127) else (none)) = some (r1, r2, r3, r4) := by rw [if_pos rfl] at H; exact H
        clear H
        have H := H1
        clear H1
        by_cases c23 : 1 ≤ (t124.size : Int)
        ·rw [if_pos c23] at H
         have c23b0 := eq_true c23
         have c23b1 : decide (1 ≤ (t124.size : Int)) = true := decide_eq_true c23
         clear c23
         have H' := AM H
         clear H
         go_wp2
         repeat (go_quiet (fail); try go_wp2)
         go_meet
         case rel => exact ⟨_, (t124.extract 1 t124.size), (by first | rfl | (simp; done) | (simp [*]; done)), H', ⟨by have := HJ12.out; first | omega | exact Nat.le_refl _⟩, ⟨by (with_reducible repeat (first | refine blk_drewN ?_ _ | refine blk_drew ?_ | refine blk_alloc ?_ _)); exact BK122.out⟩, ⟨by (with_reducible repeat (first | refine blk_drewN ?_ _ | refine blk_drew ?_ | refine blk_alloc ?_ _)); exact BK129.out⟩, ⟨by repeat (first | (with_reducible first | exact HB.out | apply below_alloc | apply pw_below_drewN | apply below_drew1 | refine below_set ?_ GE122.out | refine below_set ?_ GE129.out) | exact HB.out)⟩⟩
        ·rw [if_neg c23] at H
         exact absurd H (by simp)
       ·replace c22 := Bool.eq_false_iff.mpr c22
        subst c22
        have H1 : (spec_ExpandRange.j1 kj12 a0 t130 t124 t126 t127 t127) = some (r1, r2, r3, r4) := by rw [if_neg (show ¬ (false = true) by decide)] at H; exact H
        clear H
        have H := H1
        clear H1
        have H' := AM H
        clear H
        go_wp2
        repeat (go_quiet (fail); try go_wp2)
        go_meet
        case rel => exact ⟨_, (t124), (by first | rfl | (simp; done) | (simp [*]; done)), H', ⟨by have := HJ12.out; first | omega | exact Nat.le_refl _⟩, ⟨by (with_reducible repeat (first | refine blk_drewN ?_ _ | refine blk_drew ?_ | refine blk_alloc ?_ _)); exact BK122.out⟩, ⟨by (with_reducible repeat (first | refine blk_drewN ?_ _ | refine blk_drew ?_ | refine blk_alloc ?_ _)); exact BK129.out⟩, ⟨by repeat (first | (with_reducible first | exact HB.out | apply below_alloc | apply pw_below_drewN | apply below_drew1 | refine below_set ?_ GE122.out | refine below_set ?_ GE129.out) | exact HB.out)⟩⟩
      case rest =>
       clear HC21
       try clear c1
       try clear p1
       try clear q1
       try clear hx1
       try clear qi1
       try clear c2
       try clear p2
       try clear q2
       try clear hx2
       try clear qi2
       try clear c4
       try clear c9
       try clear c11
       try clear c15
       try clear c15b0
       try clear c15b1
       try clear c15b2
       try clear c16
       try clear c16b0
       try clear c16b1
       try clear c17
       try clear c17b0
       try clear c17b1
       try clear c18
       try clear p18
       try clear q18
       try clear hx18
       try clear qi18
       try clear c19
       try clear c19b0
       try clear c19b1
       try clear p20
       try clear q20
       try clear hx20
       try clear qi20
       try clear c22
       try clear c23
       try clear c23b0
       try clear c23b1
       try clear hcz10_0
       try clear hcz10_1
       try clear hcz10_2
       try clear hfz10_0
       try clear hfz10_1
       try clear hfz10_2
       try clear p1
       try clear p18
       try clear p2
       try clear p20
       try clear q1
       try clear q18
       try clear q2
       try clear q20
       obtain ⟨kq, x12_20, rfl, HA, HJ20, BK122, BK129, HB⟩ := hcut
       cases kq with
       | zero => exact absurd HA.out (by simp [spec_ExpandRange.j1])
       | succ kj20 =>
        have H := HA.out
        clear HA
        simp only [spec_ExpandRange.j1] at H
        by_cases c24 : (x12_20.size : Int) < (t130.size : Int)
        ·rw [if_pos c24] at H
         have c24b0 : decide ((x12_20.size : Int) < (t130.size : Int)) = true := decide_eq_true c24
         have c24b1 : decide (x12_20.size < t130.size) = true := decide_eq_true (Int.ofNat_lt.mp c24)
         clear c24
         obtain ⟨ji25, hji25⟩ : ∃ j_ : Int, (wrap64 ((t130.size : Int) - (x12_20.size : Int))) = j_ := ⟨_, rfl⟩
         replace H : (if 0 ≤ (ji25) then (if (ji25) ≤ (t130.size : Int) then (if (t130.extract 0 ((ji25) : Int).toNat).size + x12_20.size ≤ 9223372036854775807 then ((spec_l7Page.f kj20 ((t130.extract 0 ((ji25) : Int).toNat) ++ x12_20)).bind fun bt131 => (if bt131.2.2 = true then (spec_ExpandRange.j2 kj20 a0 t126 t127 bt131.2.1) else (some ((⟨#[]⟩ : ByteArray), 0, 0, false)))) else (none)) else (none)) else (none)) = some (r1, r2, r3, r4) := by first | (rw [hji25] at H; exact H) | (simp only [hji25] at H ⊢; exact H)
         have hji25w : (IntKind.i64.wrap ((t130.size : Int) - (x12_20.size : Int))) = ji25 := (i64_w _).trans hji25
         by_cases c26 : 0 ≤ (ji25)
         ·rw [if_pos c26] at H
          have c26b0 := eq_true c26
          have c26b1 : decide (0 ≤ (ji25)) = true := decide_eq_true c26
          clear c26
          by_cases c27 : (ji25) ≤ (t130.size : Int)
          ·rw [if_pos c27] at H
           have c27b0 := eq_true c27
           have c27b1 : decide ((ji25) ≤ (t130.size : Int)) = true := decide_eq_true c27
           clear c27
           by_cases c28 : (t130.extract 0 ((ji25) : Int).toNat).size + x12_20.size ≤ 9223372036854775807
           ·rw [if_pos c28] at H
            have c28b0 := eq_true c28
            have c28b1 : decide ((t130.extract 0 ((ji25) : Int).toNat).size + x12_20.size ≤ 9223372036854775807) = true := decide_eq_true c28
            try have c28b2 : (9223372036854775807 < (t130.extract 0 ((ji25) : Int).toNat).size + x12_20.size) = False := eq_false (Nat.not_lt.2 c28)
            try have c28b3 : (9223372036854775807 < ((ji25) : Int).toNat + x12_20.size) = False := eq_false (by have h_ := c28; simp only [ByteArray.size_append, ByteArray.size_extract] at h_; (try have q0_ := of_eq_true c24b0); (try have q2_ := of_eq_true c26b0); (try have q4_ := of_eq_true c27b0); omega)
            replace H := Option.bind_eq_some_iff.mp H
            obtain ⟨⟨t131, t132, t133⟩, A290, H⟩ := H
            replace H : (if t133 = true then (spec_ExpandRange.j2 kj20 a0 t126 t127 t132) else (some ((⟨#[]⟩ : ByteArray), 0, 0, false))) = some (r1, r2, r3, r4) := H
            have A29 := AM A290
            clear A290
            by_cases c30 : t133 = true
            ·subst c30
             have H1 : (spec_ExpandRange.j2 kj20 a0 t126 t127 t132) = some (r1, r2, r3, r4) := by rw [if_pos rfl] at H; exact H
             clear H
             have H := H1
             clear H1
             have H' := AM H
             clear H
             go_wp2_with (first | (go_at_call 46; (with_reducible refine (spec_l7Page.calls kj20 ((t130.extract 0 ((ji25) : Int).toNat) ++ x12_20) t131 t132 true _ A29.out).mono ?_); rintro e w31 ⟨rfl, hb⟩; have n0_ := AM (blk_below (g := gb122) (o := .cells #[.string (⟨#[]⟩ : ByteArray), .int .i64 0, .int .i64 0] 27 (0, 0)) (by (with_reducible repeat (first | refine blk_drewN ?_ _ | refine blk_drew ?_ | refine blk_alloc ?_ _)); exact BK122.out) hb); have n1_ := AM (blk_below (g := gb129) (o := .cells #[.string t126, .int .i64 t127, .int .i64 t127] 27 (0, 0)) (by (with_reducible repeat (first | refine blk_drewN ?_ _ | refine blk_drew ?_ | refine blk_alloc ?_ _)); exact BK129.out) hb); have n2_ := AM (below_step (by repeat (first | (with_reducible first | exact HB.out | apply below_alloc | apply pw_below_drewN | apply below_drew1 | refine below_set ?_ GE122.out | refine below_set ?_ GE129.out) | exact HB.out)) hb); clear BK122; clear BK129; clear HB; have BK122 := n0_; have BK129 := n1_; have HB := n2_; clear n0_ n1_ n2_; (try clear hb); (try clear hb2); (try clear hk); (try clear hi); have hnb32 := NB129_122.out; have hnc32 := NB122_129.out; have hcz33_0 : w31.cell? ⟨gb129, 0, none⟩ = some (.string t126) := (blk_cell BK129.out 0).trans rfl; have hcz33_1 : w31.cell? ⟨gb129, 1, none⟩ = some (.int .i64 t127) := (blk_cell BK129.out 1).trans rfl; have hcz33_2 : w31.cell? ⟨gb129, 2, none⟩ = some (.int .i64 t127) := (blk_cell BK129.out 2).trans rfl; have hfz33_0 := blk_frozen BK129.out 0; have hfz33_1 := blk_frozen BK129.out 1; have hfz33_2 := blk_frozen BK129.out 2))
             repeat (go_quiet (first | (go_at_call 46; (with_reducible refine (spec_l7Page.calls kj20 ((t130.extract 0 ((ji25) : Int).toNat) ++ x12_20) t131 t132 true _ A29.out).mono ?_); rintro e w31 ⟨rfl, hb⟩; have n0_ := AM (blk_below (g := gb122) (o := .cells #[.string (⟨#[]⟩ : ByteArray), .int .i64 0, .int .i64 0] 27 (0, 0)) (by (with_reducible repeat (first | refine blk_drewN ?_ _ | refine blk_drew ?_ | refine blk_alloc ?_ _)); exact BK122.out) hb); have n1_ := AM (blk_below (g := gb129) (o := .cells #[.string t126, .int .i64 t127, .int .i64 t127] 27 (0, 0)) (by (with_reducible repeat (first | refine blk_drewN ?_ _ | refine blk_drew ?_ | refine blk_alloc ?_ _)); exact BK129.out) hb); have n2_ := AM (below_step (by repeat (first | (with_reducible first | exact HB.out | apply below_alloc | apply pw_below_drewN | apply below_drew1 | refine below_set ?_ GE122.out | refine below_set ?_ GE129.out) | exact HB.out)) hb); clear BK122; clear BK129; clear HB; have BK122 := n0_; have BK129 := n1_; have HB := n2_; clear n0_ n1_ n2_; (try clear hb); (try clear hb2); (try clear hk); (try clear hi); have hnb32 := NB129_122.out; have hnc32 := NB122_129.out; have hcz33_0 : w31.cell? ⟨gb129, 0, none⟩ = some (.string t126) := (blk_cell BK129.out 0).trans rfl; have hcz33_1 : w31.cell? ⟨gb129, 1, none⟩ = some (.int .i64 t127) := (blk_cell BK129.out 1).trans rfl; have hcz33_2 : w31.cell? ⟨gb129, 2, none⟩ = some (.int .i64 t127) := (blk_cell BK129.out 2).trans rfl; have hfz33_0 := blk_frozen BK129.out 0; have hfz33_1 := blk_frozen BK129.out 1; have hfz33_2 := blk_frozen BK129.out 2)); try go_wp2_with (first | (go_at_call 46; (with_reducible refine (spec_l7Page.calls kj20 ((t130.extract 0 ((ji25) : Int).toNat) ++ x12_20) t131 t132 true _ A29.out).mono ?_); rintro e w31 ⟨rfl, hb⟩; have n0_ := AM (blk_below (g := gb122) (o := .cells #[.string (⟨#[]⟩ : ByteArray), .int .i64 0, .int .i64 0] 27 (0, 0)) (by (with_reducible repeat (first | refine blk_drewN ?_ _ | refine blk_drew ?_ | refine blk_alloc ?_ _)); exact BK122.out) hb); have n1_ := AM (blk_below (g := gb129) (o := .cells #[.string t126, .int .i64 t127, .int .i64 t127] 27 (0, 0)) (by (with_reducible repeat (first | refine blk_drewN ?_ _ | refine blk_drew ?_ | refine blk_alloc ?_ _)); exact BK129.out) hb); have n2_ := AM (below_step (by repeat (first | (with_reducible first | exact HB.out | apply below_alloc | apply pw_below_drewN | apply below_drew1 | refine below_set ?_ GE122.out | refine below_set ?_ GE129.out) | exact HB.out)) hb); clear BK122; clear BK129; clear HB; have BK122 := n0_; have BK129 := n1_; have HB := n2_; clear n0_ n1_ n2_; (try clear hb); (try clear hb2); (try clear hk); (try clear hi); have hnb32 := NB129_122.out; have hnc32 := NB122_129.out; have hcz33_0 : w31.cell? ⟨gb129, 0, none⟩ = some (.string t126) := (blk_cell BK129.out 0).trans rfl; have hcz33_1 : w31.cell? ⟨gb129, 1, none⟩ = some (.int .i64 t127) := (blk_cell BK129.out 1).trans rfl; have hcz33_2 : w31.cell? ⟨gb129, 2, none⟩ = some (.int .i64 t127) := (blk_cell BK129.out 2).trans rfl; have hfz33_0 := blk_frozen BK129.out 0; have hfz33_1 := blk_frozen BK129.out 1; have hfz33_2 := blk_frozen BK129.out 2)))
             go_meet
             case rel => exact ⟨_, ((⟨#[]⟩ : ByteArray)), (0), (0), (t132), H', ⟨by have := HJ12.out; have := HJ20.out; first | omega | exact Nat.le_refl _⟩, ⟨by (with_reducible repeat (first | refine blk_drewN ?_ _ | refine blk_drew ?_ | refine blk_alloc ?_ _)); refine blk_far ?_ NB122_129.out _; (with_reducible repeat (first | refine blk_drewN ?_ _ | refine blk_drew ?_ | refine blk_alloc ?_ _)); exact BK122.out⟩, ⟨by (with_reducible repeat (first | refine blk_drewN ?_ _ | refine blk_drew ?_ | refine blk_alloc ?_ _)); refine blk_put (cs := #[.string t126, .int .i64 t127, .int .i64 t127]) ?_ 2 _ rfl; (with_reducible repeat (first | refine blk_drewN ?_ _ | refine blk_drew ?_ | refine blk_alloc ?_ _)); exact BK129.out⟩, ⟨by repeat (first | (with_reducible first | exact HB.out | apply below_alloc | apply pw_below_drewN | apply below_drew1 | refine below_set ?_ GE122.out | refine below_set ?_ GE129.out) | exact HB.out)⟩⟩
            ·replace c30 := Bool.eq_false_iff.mpr c30
             subst c30
             have H1 : (some ((⟨#[]⟩ : ByteArray), 0, 0, false)) = some (r1, r2, r3, r4) := by rw [if_neg (show ¬ (false = true) by decide)] at H; exact H
             clear H
             have H := H1
             clear H1
             simp only [Option.some.injEq, Prod.mk.injEq] at H
             obtain ⟨rfl, rfl, rfl, rfl⟩ := H
             go_wp2_with (first | (go_at_call 46; (with_reducible refine (spec_l7Page.calls kj20 ((t130.extract 0 ((ji25) : Int).toNat) ++ x12_20) t131 t132 false _ A29.out).mono ?_); rintro e w34 ⟨rfl, hb⟩; have n0_ := AM (blk_below (g := gb122) (o := .cells #[.string (⟨#[]⟩ : ByteArray), .int .i64 0, .int .i64 0] 27 (0, 0)) (by (with_reducible repeat (first | refine blk_drewN ?_ _ | refine blk_drew ?_ | refine blk_alloc ?_ _)); exact BK122.out) hb); have n1_ := AM (blk_below (g := gb129) (o := .cells #[.string t126, .int .i64 t127, .int .i64 t127] 27 (0, 0)) (by (with_reducible repeat (first | refine blk_drewN ?_ _ | refine blk_drew ?_ | refine blk_alloc ?_ _)); exact BK129.out) hb); have n2_ := AM (below_step (by repeat (first | (with_reducible first | exact HB.out | apply below_alloc | apply pw_below_drewN | apply below_drew1 | refine below_set ?_ GE122.out | refine below_set ?_ GE129.out) | exact HB.out)) hb); clear BK122; clear BK129; clear HB; have BK122 := n0_; have BK129 := n1_; have HB := n2_; clear n0_ n1_ n2_; (try clear hb); (try clear hb2); (try clear hk); (try clear hi); have hnb35 := NB129_122.out; have hnc35 := NB122_129.out; have hcz36_0 : w34.cell? ⟨gb129, 0, none⟩ = some (.string t126) := (blk_cell BK129.out 0).trans rfl; have hcz36_1 : w34.cell? ⟨gb129, 1, none⟩ = some (.int .i64 t127) := (blk_cell BK129.out 1).trans rfl; have hcz36_2 : w34.cell? ⟨gb129, 2, none⟩ = some (.int .i64 t127) := (blk_cell BK129.out 2).trans rfl; have hfz36_0 := blk_frozen BK129.out 0; have hfz36_1 := blk_frozen BK129.out 1; have hfz36_2 := blk_frozen BK129.out 2; have hcz37_0 : w34.cell? ⟨gb122, 0, none⟩ = some (.string (⟨#[]⟩ : ByteArray)) := (blk_cell BK122.out 0).trans rfl; have hcz37_1 : w34.cell? ⟨gb122, 1, none⟩ = some (.int .i64 0) := (blk_cell BK122.out 1).trans rfl; have hcz37_2 : w34.cell? ⟨gb122, 2, none⟩ = some (.int .i64 0) := (blk_cell BK122.out 2).trans rfl; have hfz37_0 := blk_frozen BK122.out 0; have hfz37_1 := blk_frozen BK122.out 1; have hfz37_2 := blk_frozen BK122.out 2))
             repeat (go_quiet (first | (go_at_call 46; (with_reducible refine (spec_l7Page.calls kj20 ((t130.extract 0 ((ji25) : Int).toNat) ++ x12_20) t131 t132 false _ A29.out).mono ?_); rintro e w34 ⟨rfl, hb⟩; have n0_ := AM (blk_below (g := gb122) (o := .cells #[.string (⟨#[]⟩ : ByteArray), .int .i64 0, .int .i64 0] 27 (0, 0)) (by (with_reducible repeat (first | refine blk_drewN ?_ _ | refine blk_drew ?_ | refine blk_alloc ?_ _)); exact BK122.out) hb); have n1_ := AM (blk_below (g := gb129) (o := .cells #[.string t126, .int .i64 t127, .int .i64 t127] 27 (0, 0)) (by (with_reducible repeat (first | refine blk_drewN ?_ _ | refine blk_drew ?_ | refine blk_alloc ?_ _)); exact BK129.out) hb); have n2_ := AM (below_step (by repeat (first | (with_reducible first | exact HB.out | apply below_alloc | apply pw_below_drewN | apply below_drew1 | refine below_set ?_ GE122.out | refine below_set ?_ GE129.out) | exact HB.out)) hb); clear BK122; clear BK129; clear HB; have BK122 := n0_; have BK129 := n1_; have HB := n2_; clear n0_ n1_ n2_; (try clear hb); (try clear hb2); (try clear hk); (try clear hi); have hnb35 := NB129_122.out; have hnc35 := NB122_129.out; have hcz36_0 : w34.cell? ⟨gb129, 0, none⟩ = some (.string t126) := (blk_cell BK129.out 0).trans rfl; have hcz36_1 : w34.cell? ⟨gb129, 1, none⟩ = some (.int .i64 t127) := (blk_cell BK129.out 1).trans rfl; have hcz36_2 : w34.cell? ⟨gb129, 2, none⟩ = some (.int .i64 t127) := (blk_cell BK129.out 2).trans rfl; have hfz36_0 := blk_frozen BK129.out 0; have hfz36_1 := blk_frozen BK129.out 1; have hfz36_2 := blk_frozen BK129.out 2; have hcz37_0 : w34.cell? ⟨gb122, 0, none⟩ = some (.string (⟨#[]⟩ : ByteArray)) := (blk_cell BK122.out 0).trans rfl; have hcz37_1 : w34.cell? ⟨gb122, 1, none⟩ = some (.int .i64 0) := (blk_cell BK122.out 1).trans rfl; have hcz37_2 : w34.cell? ⟨gb122, 2, none⟩ = some (.int .i64 0) := (blk_cell BK122.out 2).trans rfl; have hfz37_0 := blk_frozen BK122.out 0; have hfz37_1 := blk_frozen BK122.out 1; have hfz37_2 := blk_frozen BK122.out 2)); try go_wp2_with (first | (go_at_call 46; (with_reducible refine (spec_l7Page.calls kj20 ((t130.extract 0 ((ji25) : Int).toNat) ++ x12_20) t131 t132 false _ A29.out).mono ?_); rintro e w34 ⟨rfl, hb⟩; have n0_ := AM (blk_below (g := gb122) (o := .cells #[.string (⟨#[]⟩ : ByteArray), .int .i64 0, .int .i64 0] 27 (0, 0)) (by (with_reducible repeat (first | refine blk_drewN ?_ _ | refine blk_drew ?_ | refine blk_alloc ?_ _)); exact BK122.out) hb); have n1_ := AM (blk_below (g := gb129) (o := .cells #[.string t126, .int .i64 t127, .int .i64 t127] 27 (0, 0)) (by (with_reducible repeat (first | refine blk_drewN ?_ _ | refine blk_drew ?_ | refine blk_alloc ?_ _)); exact BK129.out) hb); have n2_ := AM (below_step (by repeat (first | (with_reducible first | exact HB.out | apply below_alloc | apply pw_below_drewN | apply below_drew1 | refine below_set ?_ GE122.out | refine below_set ?_ GE129.out) | exact HB.out)) hb); clear BK122; clear BK129; clear HB; have BK122 := n0_; have BK129 := n1_; have HB := n2_; clear n0_ n1_ n2_; (try clear hb); (try clear hb2); (try clear hk); (try clear hi); have hnb35 := NB129_122.out; have hnc35 := NB122_129.out; have hcz36_0 : w34.cell? ⟨gb129, 0, none⟩ = some (.string t126) := (blk_cell BK129.out 0).trans rfl; have hcz36_1 : w34.cell? ⟨gb129, 1, none⟩ = some (.int .i64 t127) := (blk_cell BK129.out 1).trans rfl; have hcz36_2 : w34.cell? ⟨gb129, 2, none⟩ = some (.int .i64 t127) := (blk_cell BK129.out 2).trans rfl; have hfz36_0 := blk_frozen BK129.out 0; have hfz36_1 := blk_frozen BK129.out 1; have hfz36_2 := blk_frozen BK129.out 2; have hcz37_0 : w34.cell? ⟨gb122, 0, none⟩ = some (.string (⟨#[]⟩ : ByteArray)) := (blk_cell BK122.out 0).trans rfl; have hcz37_1 : w34.cell? ⟨gb122, 1, none⟩ = some (.int .i64 0) := (blk_cell BK122.out 1).trans rfl; have hcz37_2 : w34.cell? ⟨gb122, 2, none⟩ = some (.int .i64 0) := (blk_cell BK122.out 2).trans rfl; have hfz37_0 := blk_frozen BK122.out 0; have hfz37_1 := blk_frozen BK122.out 1; have hfz37_2 := blk_frozen BK122.out 2)))
             refine bodyPost_ret (results_ct rfl _ _ gb122 27 #[.string (⟨#[]⟩ : ByteArray), .int .i64 0, .int .i64 0] (0, 0) _ rfl (by (with_reducible repeat (first | refine blk_drewN ?_ _ | refine blk_drew ?_ | refine blk_alloc ?_ _)); refine blk_put (cs := #[.string (⟨#[]⟩ : ByteArray), .int .i64 0, .int .i64 0]) ?_ 2 _ rfl; (with_reducible repeat (first | refine blk_drewN ?_ _ | refine blk_drew ?_ | refine blk_alloc ?_ _)); refine blk_put (cs := #[.string (⟨#[]⟩ : ByteArray), .int .i64 0, .int .i64 0]) ?_ 1 _ rfl; (with_reducible repeat (first | refine blk_drewN ?_ _ | refine blk_drew ?_ | refine blk_alloc ?_ _)); refine blk_put (cs := #[.string (⟨#[]⟩ : ByteArray), .int .i64 0, .int .i64 0]) ?_ 0 _ rfl; (with_reducible repeat (first | refine blk_drewN ?_ _ | refine blk_drew ?_ | refine blk_alloc ?_ _)); refine blk_far ?_ NB122_129.out _; (with_reducible repeat (first | refine blk_drewN ?_ _ | refine blk_drew ?_ | refine blk_alloc ?_ _)); exact BK122.out) Tryd.underlying27 rfl (by kernel_rfl)) rfl ?_
             exact ⟨by first | rfl | (simp [errW_none, errW_some] <;> rfl) | (simp only [← hji25]; first | rfl | (simp [errW_none, errW_some] <;> rfl)) | (simp [*, errW_none, errW_some] <;> rfl) | (simp [errW_none, errW_some] <;> (apply Bool.eq_iff_iff.2; simp [List.isEmpty_iff])), by repeat (first | (with_reducible first | exact HB.out | apply below_alloc | apply pw_below_drewN | apply below_drew1 | refine below_set ?_ GE122.out | refine below_set ?_ GE129.out) | exact HB.out)⟩
           ·rw [if_neg c28] at H
            exact absurd H (by simp)
          ·rw [if_neg c27] at H
           exact absurd H (by simp)
         ·rw [if_neg c26] at H
          exact absurd H (by simp)
        ·rw [if_neg c24] at H
         have c24b0 : decide ((x12_20.size : Int) < (t130.size : Int)) = false := decide_eq_false c24
         have c24b1 : decide (x12_20.size < t130.size) = false := decide_eq_false (fun h => c24 (Int.ofNat_lt.mpr h))
         clear c24
         replace H := Option.bind_eq_some_iff.mp H
         obtain ⟨⟨t134, t135, t136⟩, A380, H⟩ := H
         replace H : (if t136 = true then (spec_ExpandRange.j2 kj20 a0 t126 t127 t135) else (some ((⟨#[]⟩ : ByteArray), 0, 0, false))) = some (r1, r2, r3, r4) := H
         have A38 := AM A380
         clear A380
         by_cases c39 : t136 = true
         ·subst c39
          have H1 : (spec_ExpandRange.j2 kj20 a0 t126 t127 t135) = some (r1, r2, r3, r4) := by rw [if_pos rfl] at H; exact H
          clear H
          have H := H1
          clear H1
          have H' := AM H
          clear H
          go_wp2_with (first | (go_at_call 46; (with_reducible refine (spec_l7Page.calls kj20 x12_20 t134 t135 true _ A38.out).mono ?_); rintro e w40 ⟨rfl, hb⟩; have n0_ := AM (blk_below (g := gb122) (o := .cells #[.string (⟨#[]⟩ : ByteArray), .int .i64 0, .int .i64 0] 27 (0, 0)) (by (with_reducible repeat (first | refine blk_drewN ?_ _ | refine blk_drew ?_ | refine blk_alloc ?_ _)); exact BK122.out) hb); have n1_ := AM (blk_below (g := gb129) (o := .cells #[.string t126, .int .i64 t127, .int .i64 t127] 27 (0, 0)) (by (with_reducible repeat (first | refine blk_drewN ?_ _ | refine blk_drew ?_ | refine blk_alloc ?_ _)); exact BK129.out) hb); have n2_ := AM (below_step (by repeat (first | (with_reducible first | exact HB.out | apply below_alloc | apply pw_below_drewN | apply below_drew1 | refine below_set ?_ GE122.out | refine below_set ?_ GE129.out) | exact HB.out)) hb); clear BK122; clear BK129; clear HB; have BK122 := n0_; have BK129 := n1_; have HB := n2_; clear n0_ n1_ n2_; (try clear hb); (try clear hb2); (try clear hk); (try clear hi); have hnb41 := NB129_122.out; have hnc41 := NB122_129.out; have hcz42_0 : w40.cell? ⟨gb129, 0, none⟩ = some (.string t126) := (blk_cell BK129.out 0).trans rfl; have hcz42_1 : w40.cell? ⟨gb129, 1, none⟩ = some (.int .i64 t127) := (blk_cell BK129.out 1).trans rfl; have hcz42_2 : w40.cell? ⟨gb129, 2, none⟩ = some (.int .i64 t127) := (blk_cell BK129.out 2).trans rfl; have hfz42_0 := blk_frozen BK129.out 0; have hfz42_1 := blk_frozen BK129.out 1; have hfz42_2 := blk_frozen BK129.out 2))
          repeat (go_quiet (first | (go_at_call 46; (with_reducible refine (spec_l7Page.calls kj20 x12_20 t134 t135 true _ A38.out).mono ?_); rintro e w40 ⟨rfl, hb⟩; have n0_ := AM (blk_below (g := gb122) (o := .cells #[.string (⟨#[]⟩ : ByteArray), .int .i64 0, .int .i64 0] 27 (0, 0)) (by (with_reducible repeat (first | refine blk_drewN ?_ _ | refine blk_drew ?_ | refine blk_alloc ?_ _)); exact BK122.out) hb); have n1_ := AM (blk_below (g := gb129) (o := .cells #[.string t126, .int .i64 t127, .int .i64 t127] 27 (0, 0)) (by (with_reducible repeat (first | refine blk_drewN ?_ _ | refine blk_drew ?_ | refine blk_alloc ?_ _)); exact BK129.out) hb); have n2_ := AM (below_step (by repeat (first | (with_reducible first | exact HB.out | apply below_alloc | apply pw_below_drewN | apply below_drew1 | refine below_set ?_ GE122.out | refine below_set ?_ GE129.out) | exact HB.out)) hb); clear BK122; clear BK129; clear HB; have BK122 := n0_; have BK129 := n1_; have HB := n2_; clear n0_ n1_ n2_; (try clear hb); (try clear hb2); (try clear hk); (try clear hi); have hnb41 := NB129_122.out; have hnc41 := NB122_129.out; have hcz42_0 : w40.cell? ⟨gb129, 0, none⟩ = some (.string t126) := (blk_cell BK129.out 0).trans rfl; have hcz42_1 : w40.cell? ⟨gb129, 1, none⟩ = some (.int .i64 t127) := (blk_cell BK129.out 1).trans rfl; have hcz42_2 : w40.cell? ⟨gb129, 2, none⟩ = some (.int .i64 t127) := (blk_cell BK129.out 2).trans rfl; have hfz42_0 := blk_frozen BK129.out 0; have hfz42_1 := blk_frozen BK129.out 1; have hfz42_2 := blk_frozen BK129.out 2)); try go_wp2_with (first | (go_at_call 46; (with_reducible refine (spec_l7Page.calls kj20 x12_20 t134 t135 true _ A38.out).mono ?_); rintro e w40 ⟨rfl, hb⟩; have n0_ := AM (blk_below (g := gb122) (o := .cells #[.string (⟨#[]⟩ : ByteArray), .int .i64 0, .int .i64 0] 27 (0, 0)) (by (with_reducible repeat (first | refine blk_drewN ?_ _ | refine blk_drew ?_ | refine blk_alloc ?_ _)); exact BK122.out) hb); have n1_ := AM (blk_below (g := gb129) (o := .cells #[.string t126, .int .i64 t127, .int .i64 t127] 27 (0, 0)) (by (with_reducible repeat (first | refine blk_drewN ?_ _ | refine blk_drew ?_ | refine blk_alloc ?_ _)); exact BK129.out) hb); have n2_ := AM (below_step (by repeat (first | (with_reducible first | exact HB.out | apply below_alloc | apply pw_below_drewN | apply below_drew1 | refine below_set ?_ GE122.out | refine below_set ?_ GE129.out) | exact HB.out)) hb); clear BK122; clear BK129; clear HB; have BK122 := n0_; have BK129 := n1_; have HB := n2_; clear n0_ n1_ n2_; (try clear hb); (try clear hb2); (try clear hk); (try clear hi); have hnb41 := NB129_122.out; have hnc41 := NB122_129.out; have hcz42_0 : w40.cell? ⟨gb129, 0, none⟩ = some (.string t126) := (blk_cell BK129.out 0).trans rfl; have hcz42_1 : w40.cell? ⟨gb129, 1, none⟩ = some (.int .i64 t127) := (blk_cell BK129.out 1).trans rfl; have hcz42_2 : w40.cell? ⟨gb129, 2, none⟩ = some (.int .i64 t127) := (blk_cell BK129.out 2).trans rfl; have hfz42_0 := blk_frozen BK129.out 0; have hfz42_1 := blk_frozen BK129.out 1; have hfz42_2 := blk_frozen BK129.out 2)))
          go_meet
          case rel => exact ⟨_, ((⟨#[]⟩ : ByteArray)), (0), (0), (t135), H', ⟨by have := HJ12.out; have := HJ20.out; first | omega | exact Nat.le_refl _⟩, ⟨by (with_reducible repeat (first | refine blk_drewN ?_ _ | refine blk_drew ?_ | refine blk_alloc ?_ _)); refine blk_far ?_ NB122_129.out _; (with_reducible repeat (first | refine blk_drewN ?_ _ | refine blk_drew ?_ | refine blk_alloc ?_ _)); exact BK122.out⟩, ⟨by (with_reducible repeat (first | refine blk_drewN ?_ _ | refine blk_drew ?_ | refine blk_alloc ?_ _)); refine blk_put (cs := #[.string t126, .int .i64 t127, .int .i64 t127]) ?_ 2 _ rfl; (with_reducible repeat (first | refine blk_drewN ?_ _ | refine blk_drew ?_ | refine blk_alloc ?_ _)); exact BK129.out⟩, ⟨by repeat (first | (with_reducible first | exact HB.out | apply below_alloc | apply pw_below_drewN | apply below_drew1 | refine below_set ?_ GE122.out | refine below_set ?_ GE129.out) | exact HB.out)⟩⟩
         ·replace c39 := Bool.eq_false_iff.mpr c39
          subst c39
          have H1 : (some ((⟨#[]⟩ : ByteArray), 0, 0, false)) = some (r1, r2, r3, r4) := by rw [if_neg (show ¬ (false = true) by decide)] at H; exact H
          clear H
          have H := H1
          clear H1
          simp only [Option.some.injEq, Prod.mk.injEq] at H
          obtain ⟨rfl, rfl, rfl, rfl⟩ := H
          go_wp2_with (first | (go_at_call 46; (with_reducible refine (spec_l7Page.calls kj20 x12_20 t134 t135 false _ A38.out).mono ?_); rintro e w43 ⟨rfl, hb⟩; have n0_ := AM (blk_below (g := gb122) (o := .cells #[.string (⟨#[]⟩ : ByteArray), .int .i64 0, .int .i64 0] 27 (0, 0)) (by (with_reducible repeat (first | refine blk_drewN ?_ _ | refine blk_drew ?_ | refine blk_alloc ?_ _)); exact BK122.out) hb); have n1_ := AM (blk_below (g := gb129) (o := .cells #[.string t126, .int .i64 t127, .int .i64 t127] 27 (0, 0)) (by (with_reducible repeat (first | refine blk_drewN ?_ _ | refine blk_drew ?_ | refine blk_alloc ?_ _)); exact BK129.out) hb); have n2_ := AM (below_step (by repeat (first | (with_reducible first | exact HB.out | apply below_alloc | apply pw_below_drewN | apply below_drew1 | refine below_set ?_ GE122.out | refine below_set ?_ GE129.out) | exact HB.out)) hb); clear BK122; clear BK129; clear HB; have BK122 := n0_; have BK129 := n1_; have HB := n2_; clear n0_ n1_ n2_; (try clear hb); (try clear hb2); (try clear hk); (try clear hi); have hnb44 := NB129_122.out; have hnc44 := NB122_129.out; have hcz45_0 : w43.cell? ⟨gb129, 0, none⟩ = some (.string t126) := (blk_cell BK129.out 0).trans rfl; have hcz45_1 : w43.cell? ⟨gb129, 1, none⟩ = some (.int .i64 t127) := (blk_cell BK129.out 1).trans rfl; have hcz45_2 : w43.cell? ⟨gb129, 2, none⟩ = some (.int .i64 t127) := (blk_cell BK129.out 2).trans rfl; have hfz45_0 := blk_frozen BK129.out 0; have hfz45_1 := blk_frozen BK129.out 1; have hfz45_2 := blk_frozen BK129.out 2; have hcz46_0 : w43.cell? ⟨gb122, 0, none⟩ = some (.string (⟨#[]⟩ : ByteArray)) := (blk_cell BK122.out 0).trans rfl; have hcz46_1 : w43.cell? ⟨gb122, 1, none⟩ = some (.int .i64 0) := (blk_cell BK122.out 1).trans rfl; have hcz46_2 : w43.cell? ⟨gb122, 2, none⟩ = some (.int .i64 0) := (blk_cell BK122.out 2).trans rfl; have hfz46_0 := blk_frozen BK122.out 0; have hfz46_1 := blk_frozen BK122.out 1; have hfz46_2 := blk_frozen BK122.out 2))
          repeat (go_quiet (first | (go_at_call 46; (with_reducible refine (spec_l7Page.calls kj20 x12_20 t134 t135 false _ A38.out).mono ?_); rintro e w43 ⟨rfl, hb⟩; have n0_ := AM (blk_below (g := gb122) (o := .cells #[.string (⟨#[]⟩ : ByteArray), .int .i64 0, .int .i64 0] 27 (0, 0)) (by (with_reducible repeat (first | refine blk_drewN ?_ _ | refine blk_drew ?_ | refine blk_alloc ?_ _)); exact BK122.out) hb); have n1_ := AM (blk_below (g := gb129) (o := .cells #[.string t126, .int .i64 t127, .int .i64 t127] 27 (0, 0)) (by (with_reducible repeat (first | refine blk_drewN ?_ _ | refine blk_drew ?_ | refine blk_alloc ?_ _)); exact BK129.out) hb); have n2_ := AM (below_step (by repeat (first | (with_reducible first | exact HB.out | apply below_alloc | apply pw_below_drewN | apply below_drew1 | refine below_set ?_ GE122.out | refine below_set ?_ GE129.out) | exact HB.out)) hb); clear BK122; clear BK129; clear HB; have BK122 := n0_; have BK129 := n1_; have HB := n2_; clear n0_ n1_ n2_; (try clear hb); (try clear hb2); (try clear hk); (try clear hi); have hnb44 := NB129_122.out; have hnc44 := NB122_129.out; have hcz45_0 : w43.cell? ⟨gb129, 0, none⟩ = some (.string t126) := (blk_cell BK129.out 0).trans rfl; have hcz45_1 : w43.cell? ⟨gb129, 1, none⟩ = some (.int .i64 t127) := (blk_cell BK129.out 1).trans rfl; have hcz45_2 : w43.cell? ⟨gb129, 2, none⟩ = some (.int .i64 t127) := (blk_cell BK129.out 2).trans rfl; have hfz45_0 := blk_frozen BK129.out 0; have hfz45_1 := blk_frozen BK129.out 1; have hfz45_2 := blk_frozen BK129.out 2; have hcz46_0 : w43.cell? ⟨gb122, 0, none⟩ = some (.string (⟨#[]⟩ : ByteArray)) := (blk_cell BK122.out 0).trans rfl; have hcz46_1 : w43.cell? ⟨gb122, 1, none⟩ = some (.int .i64 0) := (blk_cell BK122.out 1).trans rfl; have hcz46_2 : w43.cell? ⟨gb122, 2, none⟩ = some (.int .i64 0) := (blk_cell BK122.out 2).trans rfl; have hfz46_0 := blk_frozen BK122.out 0; have hfz46_1 := blk_frozen BK122.out 1; have hfz46_2 := blk_frozen BK122.out 2)); try go_wp2_with (first | (go_at_call 46; (with_reducible refine (spec_l7Page.calls kj20 x12_20 t134 t135 false _ A38.out).mono ?_); rintro e w43 ⟨rfl, hb⟩; have n0_ := AM (blk_below (g := gb122) (o := .cells #[.string (⟨#[]⟩ : ByteArray), .int .i64 0, .int .i64 0] 27 (0, 0)) (by (with_reducible repeat (first | refine blk_drewN ?_ _ | refine blk_drew ?_ | refine blk_alloc ?_ _)); exact BK122.out) hb); have n1_ := AM (blk_below (g := gb129) (o := .cells #[.string t126, .int .i64 t127, .int .i64 t127] 27 (0, 0)) (by (with_reducible repeat (first | refine blk_drewN ?_ _ | refine blk_drew ?_ | refine blk_alloc ?_ _)); exact BK129.out) hb); have n2_ := AM (below_step (by repeat (first | (with_reducible first | exact HB.out | apply below_alloc | apply pw_below_drewN | apply below_drew1 | refine below_set ?_ GE122.out | refine below_set ?_ GE129.out) | exact HB.out)) hb); clear BK122; clear BK129; clear HB; have BK122 := n0_; have BK129 := n1_; have HB := n2_; clear n0_ n1_ n2_; (try clear hb); (try clear hb2); (try clear hk); (try clear hi); have hnb44 := NB129_122.out; have hnc44 := NB122_129.out; have hcz45_0 : w43.cell? ⟨gb129, 0, none⟩ = some (.string t126) := (blk_cell BK129.out 0).trans rfl; have hcz45_1 : w43.cell? ⟨gb129, 1, none⟩ = some (.int .i64 t127) := (blk_cell BK129.out 1).trans rfl; have hcz45_2 : w43.cell? ⟨gb129, 2, none⟩ = some (.int .i64 t127) := (blk_cell BK129.out 2).trans rfl; have hfz45_0 := blk_frozen BK129.out 0; have hfz45_1 := blk_frozen BK129.out 1; have hfz45_2 := blk_frozen BK129.out 2; have hcz46_0 : w43.cell? ⟨gb122, 0, none⟩ = some (.string (⟨#[]⟩ : ByteArray)) := (blk_cell BK122.out 0).trans rfl; have hcz46_1 : w43.cell? ⟨gb122, 1, none⟩ = some (.int .i64 0) := (blk_cell BK122.out 1).trans rfl; have hcz46_2 : w43.cell? ⟨gb122, 2, none⟩ = some (.int .i64 0) := (blk_cell BK122.out 2).trans rfl; have hfz46_0 := blk_frozen BK122.out 0; have hfz46_1 := blk_frozen BK122.out 1; have hfz46_2 := blk_frozen BK122.out 2)))
          refine bodyPost_ret (results_ct rfl _ _ gb122 27 #[.string (⟨#[]⟩ : ByteArray), .int .i64 0, .int .i64 0] (0, 0) _ rfl (by (with_reducible repeat (first | refine blk_drewN ?_ _ | refine blk_drew ?_ | refine blk_alloc ?_ _)); refine blk_put (cs := #[.string (⟨#[]⟩ : ByteArray), .int .i64 0, .int .i64 0]) ?_ 2 _ rfl; (with_reducible repeat (first | refine blk_drewN ?_ _ | refine blk_drew ?_ | refine blk_alloc ?_ _)); refine blk_put (cs := #[.string (⟨#[]⟩ : ByteArray), .int .i64 0, .int .i64 0]) ?_ 1 _ rfl; (with_reducible repeat (first | refine blk_drewN ?_ _ | refine blk_drew ?_ | refine blk_alloc ?_ _)); refine blk_put (cs := #[.string (⟨#[]⟩ : ByteArray), .int .i64 0, .int .i64 0]) ?_ 0 _ rfl; (with_reducible repeat (first | refine blk_drewN ?_ _ | refine blk_drew ?_ | refine blk_alloc ?_ _)); refine blk_far ?_ NB122_129.out _; (with_reducible repeat (first | refine blk_drewN ?_ _ | refine blk_drew ?_ | refine blk_alloc ?_ _)); exact BK122.out) Tryd.underlying27 rfl (by kernel_rfl)) rfl ?_
          exact ⟨by first | rfl | (simp [errW_none, errW_some] <;> rfl) | (simp [*, errW_none, errW_some] <;> rfl) | (simp [errW_none, errW_some] <;> (apply Bool.eq_iff_iff.2; simp [List.isEmpty_iff])), by repeat (first | (with_reducible first | exact HB.out | apply below_alloc | apply pw_below_drewN | apply below_drew1 | refine below_set ?_ GE122.out | refine below_set ?_ GE129.out) | exact HB.out)⟩
   ·replace c11 := Bool.eq_false_iff.mpr c11
    subst c11
    have H1 : (spec_ExpandRange.j2 k a0 t126 t127 t127) = some (r1, r2, r3, r4) := by rw [if_neg (show ¬ (false = true) by decide)] at H; exact H
    clear H
    have H := H1
    clear H1
    have H' := AM H
    clear H
    go_wp2
    repeat (go_quiet (fail); try go_wp2)
    go_meet
    case rel => exact ⟨_, ((⟨#[]⟩ : ByteArray)), (0), (0), (t127), H', ⟨by first | omega | exact Nat.le_refl _⟩, ⟨by (with_reducible repeat (first | refine blk_drewN ?_ _ | refine blk_drew ?_ | refine blk_alloc ?_ _)); refine blk_far ?_ NB122_129.out _; (with_reducible repeat (first | refine blk_drewN ?_ _ | refine blk_drew ?_ | refine blk_alloc ?_ _)); refine blk_far ?_ NB122_129.out _; (with_reducible repeat (first | refine blk_drewN ?_ _ | refine blk_drew ?_ | refine blk_alloc ?_ _)); refine blk_far ?_ NB122_129.out _; (with_reducible repeat (first | refine blk_drewN ?_ _ | refine blk_drew ?_ | refine blk_alloc ?_ _)); exact BK122.out⟩, ⟨by (with_reducible repeat (first | refine blk_drewN ?_ _ | refine blk_drew ?_ | refine blk_alloc ?_ _)); refine blk_put (cs := #[.string t126, .int .i64 t127, .int .i64 0]) ?_ 2 _ rfl; (with_reducible repeat (first | refine blk_drewN ?_ _ | refine blk_drew ?_ | refine blk_alloc ?_ _)); refine blk_put (cs := #[.string t126, .int .i64 0, .int .i64 0]) ?_ 1 _ rfl; (with_reducible repeat (first | refine blk_drewN ?_ _ | refine blk_drew ?_ | refine blk_alloc ?_ _)); refine blk_put (cs := #[.string (⟨#[]⟩ : ByteArray), .int .i64 0, .int .i64 0]) ?_ 0 _ rfl; (with_reducible repeat (first | refine blk_drewN ?_ _ | refine blk_drew ?_ | refine blk_alloc ?_ _)); exact BK129.out⟩, ⟨by repeat (first | (with_reducible first | exact HB.out | apply below_alloc | apply pw_below_drewN | apply below_drew1 | refine below_set ?_ GE122.out | refine below_set ?_ GE129.out) | exact HB.out)⟩⟩
  case rest =>
   clear HC5
   try clear c1
   try clear p1
   try clear q1
   try clear hx1
   try clear qi1
   try clear c2
   try clear p2
   try clear q2
   try clear hx2
   try clear qi2
   try clear c3
   try clear c4
   try clear q4
   try clear p6
   try clear c9
   try clear c11
   try clear c15
   try clear c15b0
   try clear c15b1
   try clear c15b2
   try clear c16
   try clear c16b0
   try clear c16b1
   try clear c17
   try clear c17b0
   try clear c17b1
   try clear c18
   try clear p18
   try clear q18
   try clear hx18
   try clear qi18
   try clear c19
   try clear c19b0
   try clear c19b1
   try clear p20
   try clear q20
   try clear hx20
   try clear qi20
   try clear c22
   try clear c23
   try clear c23b0
   try clear c23b1
   try clear c24
   try clear c24b0
   try clear c24b1
   try clear c26
   try clear c26b0
   try clear c26b1
   try clear c27
   try clear c27b0
   try clear c27b1
   try clear c28
   try clear c28b0
   try clear c28b1
   try clear c28b2
   try clear c30
   try clear c32
   try clear c35
   try clear c39
   try clear c41
   try clear c44
   try clear hcz10_0
   try clear hcz10_1
   try clear hcz10_2
   try clear hcz33_0
   try clear hcz33_1
   try clear hcz33_2
   try clear hcz36_0
   try clear hcz36_1
   try clear hcz36_2
   try clear hcz37_0
   try clear hcz37_1
   try clear hcz37_2
   try clear hcz42_0
   try clear hcz42_1
   try clear hcz42_2
   try clear hcz45_0
   try clear hcz45_1
   try clear hcz45_2
   try clear hcz46_0
   try clear hcz46_1
   try clear hcz46_2
   try clear hfz10_0
   try clear hfz10_1
   try clear hfz10_2
   try clear hfz33_0
   try clear hfz33_1
   try clear hfz33_2
   try clear hfz36_0
   try clear hfz36_1
   try clear hfz36_2
   try clear hfz37_0
   try clear hfz37_1
   try clear hfz37_2
   try clear hfz42_0
   try clear hfz42_1
   try clear hfz42_2
   try clear hfz45_0
   try clear hfz45_1
   try clear hfz45_2
   try clear hfz46_0
   try clear hfz46_1
   try clear hfz46_2
   try clear p1
   try clear p18
   try clear p2
   try clear p20
   try clear q1
   try clear q18
   try clear q2
   try clear q20
   obtain ⟨kq, x123000_4, x123001_4, x123002_4, x130002_4, HA, HJ4, BK122, BK129, HB⟩ := hcut
   cases kq with
   | zero => exact absurd HA.out (by simp [spec_ExpandRange.j2])
   | succ kj4 =>
    have H := HA.out
    clear HA
    simp only [spec_ExpandRange.j2] at H
    replace H := Option.bind_eq_some_iff.mp H
    obtain ⟨t137, A470, H⟩ := H
    replace H : (if t137 = true then (spec_ExpandRange.l0 kj4 a0 1 t126 t127 x130002_4) else (some ((⟨#[]⟩ : ByteArray), 0, 0, false))) = some (r1, r2, r3, r4) := H
    have A47 := AM A470
    clear A470
    by_cases c48 : t137 = true
    ·subst c48
     have H1 : (spec_ExpandRange.l0 kj4 a0 1 t126 t127 x130002_4) = some (r1, r2, r3, r4) := by rw [if_pos rfl] at H; exact H
     clear H
     have H := H1
     clear H1
     have H' := AM H
     clear H
     have hnb49 := NB129_122.out
     have hnc49 := NB122_129.out
     have hcz50_0 : wc.cell? ⟨gb129, 0, none⟩ = some (.string t126) := (blk_cell BK129.out 0).trans rfl
     have hcz50_1 : wc.cell? ⟨gb129, 1, none⟩ = some (.int .i64 t127) := (blk_cell BK129.out 1).trans rfl
     have hcz50_2 : wc.cell? ⟨gb129, 2, none⟩ = some (.int .i64 x130002_4) := (blk_cell BK129.out 2).trans rfl
     have hfz50_0 := blk_frozen BK129.out 0
     have hfz50_1 := blk_frozen BK129.out 1
     have hfz50_2 := blk_frozen BK129.out 2
     go_wp2_with (first | (go_at_call 35; (with_reducible refine (spec_l7Range.calls t126 t127 x130002_4 true _ A47.out).mono ?_); rintro e w51 ⟨rfl, hb⟩; have n0_ := AM (blk_below (g := gb122) (o := .cells #[.string x123000_4, .int .i64 x123001_4, .int .i64 x123002_4] 27 (0, 0)) (by (with_reducible repeat (first | refine blk_drewN ?_ _ | refine blk_drew ?_ | refine blk_alloc ?_ _)); exact BK122.out) hb); have n1_ := AM (blk_below (g := gb129) (o := .cells #[.string t126, .int .i64 t127, .int .i64 x130002_4] 27 (0, 0)) (by (with_reducible repeat (first | refine blk_drewN ?_ _ | refine blk_drew ?_ | refine blk_alloc ?_ _)); exact BK129.out) hb); have n2_ := AM (below_step (by repeat (first | (with_reducible first | exact HB.out | apply below_alloc | apply pw_below_drewN | apply below_drew1 | refine below_set ?_ GE122.out | refine below_set ?_ GE129.out) | exact HB.out)) hb); clear BK122; clear BK129; clear HB; have BK122 := n0_; have BK129 := n1_; have HB := n2_; clear n0_ n1_ n2_; (try clear hb); (try clear hb2); (try clear hk); (try clear hi)))
     repeat (go_quiet (first | (go_at_call 35; (with_reducible refine (spec_l7Range.calls t126 t127 x130002_4 true _ A47.out).mono ?_); rintro e w51 ⟨rfl, hb⟩; have n0_ := AM (blk_below (g := gb122) (o := .cells #[.string x123000_4, .int .i64 x123001_4, .int .i64 x123002_4] 27 (0, 0)) (by (with_reducible repeat (first | refine blk_drewN ?_ _ | refine blk_drew ?_ | refine blk_alloc ?_ _)); exact BK122.out) hb); have n1_ := AM (blk_below (g := gb129) (o := .cells #[.string t126, .int .i64 t127, .int .i64 x130002_4] 27 (0, 0)) (by (with_reducible repeat (first | refine blk_drewN ?_ _ | refine blk_drew ?_ | refine blk_alloc ?_ _)); exact BK129.out) hb); have n2_ := AM (below_step (by repeat (first | (with_reducible first | exact HB.out | apply below_alloc | apply pw_below_drewN | apply below_drew1 | refine below_set ?_ GE122.out | refine below_set ?_ GE129.out) | exact HB.out)) hb); clear BK122; clear BK129; clear HB; have BK122 := n0_; have BK129 := n1_; have HB := n2_; clear n0_ n1_ n2_; (try clear hb); (try clear hb2); (try clear hk); (try clear hi))); try go_wp2_with (first | (go_at_call 35; (with_reducible refine (spec_l7Range.calls t126 t127 x130002_4 true _ A47.out).mono ?_); rintro e w51 ⟨rfl, hb⟩; have n0_ := AM (blk_below (g := gb122) (o := .cells #[.string x123000_4, .int .i64 x123001_4, .int .i64 x123002_4] 27 (0, 0)) (by (with_reducible repeat (first | refine blk_drewN ?_ _ | refine blk_drew ?_ | refine blk_alloc ?_ _)); exact BK122.out) hb); have n1_ := AM (blk_below (g := gb129) (o := .cells #[.string t126, .int .i64 t127, .int .i64 x130002_4] 27 (0, 0)) (by (with_reducible repeat (first | refine blk_drewN ?_ _ | refine blk_drew ?_ | refine blk_alloc ?_ _)); exact BK129.out) hb); have n2_ := AM (below_step (by repeat (first | (with_reducible first | exact HB.out | apply below_alloc | apply pw_below_drewN | apply below_drew1 | refine below_set ?_ GE122.out | refine below_set ?_ GE129.out) | exact HB.out)) hb); clear BK122; clear BK129; clear HB; have BK122 := n0_; have BK129 := n1_; have HB := n2_; clear n0_ n1_ n2_; (try clear hb); (try clear hb2); (try clear hk); (try clear hi))))
     go_loopg [16] kj4 (fun kq v16 w' => ∃ (x16_2 : Int) (x123000_2 : ByteArray) (x123001_2 : Int) (x123002_2 : Int), v16 = .int .i64 x16_2 ∧ Aside0 (spec_ExpandRange.l0 kq a0 x16_2 t126 t127 x130002_4 = some (r1, r2, r3, r4)) ∧ Aside0 (kq ≤ kj4) ∧ Aside0 (w'.heap[gb122]? = some (.cells #[.string x123000_2, .int .i64 x123001_2, .int .i64 x123002_2] 27 (0, 0))) ∧ Aside0 (w'.heap[gb129]? = some (.cells #[.string t126, .int .i64 t127, .int .i64 x130002_4] 27 (0, 0))) ∧ Aside0 (Below w.heap.size w w'))
     case atStart => exact ⟨(1), (x123000_4), (x123001_4), (x123002_4), (by first | rfl | (simp; done) | (simp [*]; done)), H', ⟨Nat.le_refl _⟩, ⟨by (with_reducible repeat (first | refine blk_drewN ?_ _ | refine blk_drew ?_ | refine blk_alloc ?_ _)); exact BK122.out⟩, ⟨by (with_reducible repeat (first | refine blk_drewN ?_ _ | refine blk_drew ?_ | refine blk_alloc ?_ _)); exact BK129.out⟩, ⟨by repeat (first | (with_reducible first | exact HB.out | apply below_alloc | apply pw_below_drewN | apply below_drew1 | refine below_set ?_ GE122.out | refine below_set ?_ GE129.out) | exact HB.out)⟩⟩
     case round =>
      clear H'
      try clear c1
      try clear p1
      try clear q1
      try clear hx1
      try clear qi1
      try clear c2
      try clear p2
      try clear q2
      try clear hx2
      try clear qi2
      try clear c3
      try clear c4
      try clear q4
      try clear p6
      try clear c9
      try clear c11
      try clear c15
      try clear c15b0
      try clear c15b1
      try clear c15b2
      try clear c16
      try clear c16b0
      try clear c16b1
      try clear c17
      try clear c17b0
      try clear c17b1
      try clear c18
      try clear p18
      try clear q18
      try clear hx18
      try clear qi18
      try clear c19
      try clear c19b0
      try clear c19b1
      try clear p20
      try clear q20
      try clear hx20
      try clear qi20
      try clear c22
      try clear c23
      try clear c23b0
      try clear c23b1
      try clear c24
      try clear c24b0
      try clear c24b1
      try clear c26
      try clear c26b0
      try clear c26b1
      try clear c27
      try clear c27b0
      try clear c27b1
      try clear c28
      try clear c28b0
      try clear c28b1
      try clear c28b2
      try clear c30
      try clear c32
      try clear c35
      try clear c39
      try clear c41
      try clear c44
      try clear c48
      try clear c49
      try clear hcz10_0
      try clear hcz10_1
      try clear hcz10_2
      try clear hcz33_0
      try clear hcz33_1
      try clear hcz33_2
      try clear hcz36_0
      try clear hcz36_1
      try clear hcz36_2
      try clear hcz37_0
      try clear hcz37_1
      try clear hcz37_2
      try clear hcz42_0
      try clear hcz42_1
      try clear hcz42_2
      try clear hcz45_0
      try clear hcz45_1
      try clear hcz45_2
      try clear hcz46_0
      try clear hcz46_1
      try clear hcz46_2
      try clear hcz50_0
      try clear hcz50_1
      try clear hcz50_2
      try clear hfz10_0
      try clear hfz10_1
      try clear hfz10_2
      try clear hfz33_0
      try clear hfz33_1
      try clear hfz33_2
      try clear hfz36_0
      try clear hfz36_1
      try clear hfz36_2
      try clear hfz37_0
      try clear hfz37_1
      try clear hfz37_2
      try clear hfz42_0
      try clear hfz42_1
      try clear hfz42_2
      try clear hfz45_0
      try clear hfz45_1
      try clear hfz45_2
      try clear hfz46_0
      try clear hfz46_1
      try clear hfz46_2
      try clear hfz50_0
      try clear hfz50_1
      try clear hfz50_2
      try clear p1
      try clear p18
      try clear p2
      try clear p20
      try clear p6
      try clear q1
      try clear q18
      try clear q2
      try clear q20
      try clear q4
      obtain ⟨x16_2, x123000_2, x123001_2, x123002_2, rfl, HA, HK2, BK122, BK129, HB⟩ := hrel
      cases gk with
      | zero => exact absurd HA.out (by simp [spec_ExpandRange.l0])
      | succ k2 =>
       have H := HA.out
       clear HA
       simp only [spec_ExpandRange.l0] at H
       by_cases c52 : x16_2 ≤ 3
       ·rw [if_pos c52] at H
        have c52b0 : decide (x16_2 ≤ 3) = true := decide_eq_true c52
        clear c52
        replace H := Option.bind_eq_some_iff.mp H
        obtain ⟨t138, A530, H⟩ := H
        replace H : (if t138.toList = a0.toList then (some (t126, t127, x130002_4, true)) else (spec_ExpandRange.l0 k2 a0 (wrap64 (x16_2 + 1)) t126 t127 x130002_4)) = some (r1, r2, r3, r4) := H
        have A53 := AM A530
        clear A530
        by_cases c54 : t138.toList = a0.toList
        ·rw [if_pos c54] at H
         have c54b0 : (t138.toList == a0.toList) = true := beq_iff_eq.mpr c54
         have c54b1 : (t138.toList != a0.toList) = false := bne_eq_false_iff_eq.mpr c54
         clear c54
         simp only [Option.some.injEq, Prod.mk.injEq] at H
         obtain ⟨rfl, rfl, rfl, rfl⟩ := H
         have hnb55 := NB129_122.out
         have hnc55 := NB122_129.out
         have hcz56_0 : wr.cell? ⟨gb129, 0, none⟩ = some (.string t126) := (blk_cell BK129.out 0).trans rfl
         have hcz56_1 : wr.cell? ⟨gb129, 1, none⟩ = some (.int .i64 t127) := (blk_cell BK129.out 1).trans rfl
         have hcz56_2 : wr.cell? ⟨gb129, 2, none⟩ = some (.int .i64 x130002_4) := (blk_cell BK129.out 2).trans rfl
         have hfz56_0 := blk_frozen BK129.out 0
         have hfz56_1 := blk_frozen BK129.out 1
         have hfz56_2 := blk_frozen BK129.out 2
         go_wp2_with (first | (go_at_call 37; (with_reducible refine (spec_l7Collapse.calls k2 t126 t127 x130002_4 x16_2 t138 _ A53.out).mono ?_); rintro e w57 ⟨rfl, hb⟩; have n0_ := AM (blk_below (g := gb122) (o := .cells #[.string x123000_2, .int .i64 x123001_2, .int .i64 x123002_2] 27 (0, 0)) (by (with_reducible repeat (first | refine blk_drewN ?_ _ | refine blk_drew ?_ | refine blk_alloc ?_ _)); exact BK122.out) hb); have n1_ := AM (blk_below (g := gb129) (o := .cells #[.string t126, .int .i64 t127, .int .i64 x130002_4] 27 (0, 0)) (by (with_reducible repeat (first | refine blk_drewN ?_ _ | refine blk_drew ?_ | refine blk_alloc ?_ _)); exact BK129.out) hb); have n2_ := AM (below_step (by repeat (first | (with_reducible first | exact HB.out | apply below_alloc | apply pw_below_drewN | apply below_drew1 | refine below_set ?_ GE122.out | refine below_set ?_ GE129.out) | exact HB.out)) hb); clear BK122; clear BK129; clear HB; have BK122 := n0_; have BK129 := n1_; have HB := n2_; clear n0_ n1_ n2_; (try clear hb); (try clear hb2); (try clear hk); (try clear hi); have hcz58_0 : w57.cell? ⟨gb129, 0, none⟩ = some (.string t126) := (blk_cell BK129.out 0).trans rfl; have hcz58_1 : w57.cell? ⟨gb129, 1, none⟩ = some (.int .i64 t127) := (blk_cell BK129.out 1).trans rfl; have hcz58_2 : w57.cell? ⟨gb129, 2, none⟩ = some (.int .i64 x130002_4) := (blk_cell BK129.out 2).trans rfl; have hfz58_0 := blk_frozen BK129.out 0; have hfz58_1 := blk_frozen BK129.out 1; have hfz58_2 := blk_frozen BK129.out 2; have hcz59_0 : w57.cell? ⟨gb122, 0, none⟩ = some (.string x123000_2) := (blk_cell BK122.out 0).trans rfl; have hcz59_1 : w57.cell? ⟨gb122, 1, none⟩ = some (.int .i64 x123001_2) := (blk_cell BK122.out 1).trans rfl; have hcz59_2 : w57.cell? ⟨gb122, 2, none⟩ = some (.int .i64 x123002_2) := (blk_cell BK122.out 2).trans rfl; have hfz59_0 := blk_frozen BK122.out 0; have hfz59_1 := blk_frozen BK122.out 1; have hfz59_2 := blk_frozen BK122.out 2))
         repeat (go_quiet (first | (go_at_call 37; (with_reducible refine (spec_l7Collapse.calls k2 t126 t127 x130002_4 x16_2 t138 _ A53.out).mono ?_); rintro e w57 ⟨rfl, hb⟩; have n0_ := AM (blk_below (g := gb122) (o := .cells #[.string x123000_2, .int .i64 x123001_2, .int .i64 x123002_2] 27 (0, 0)) (by (with_reducible repeat (first | refine blk_drewN ?_ _ | refine blk_drew ?_ | refine blk_alloc ?_ _)); exact BK122.out) hb); have n1_ := AM (blk_below (g := gb129) (o := .cells #[.string t126, .int .i64 t127, .int .i64 x130002_4] 27 (0, 0)) (by (with_reducible repeat (first | refine blk_drewN ?_ _ | refine blk_drew ?_ | refine blk_alloc ?_ _)); exact BK129.out) hb); have n2_ := AM (below_step (by repeat (first | (with_reducible first | exact HB.out | apply below_alloc | apply pw_below_drewN | apply below_drew1 | refine below_set ?_ GE122.out | refine below_set ?_ GE129.out) | exact HB.out)) hb); clear BK122; clear BK129; clear HB; have BK122 := n0_; have BK129 := n1_; have HB := n2_; clear n0_ n1_ n2_; (try clear hb); (try clear hb2); (try clear hk); (try clear hi); have hcz58_0 : w57.cell? ⟨gb129, 0, none⟩ = some (.string t126) := (blk_cell BK129.out 0).trans rfl; have hcz58_1 : w57.cell? ⟨gb129, 1, none⟩ = some (.int .i64 t127) := (blk_cell BK129.out 1).trans rfl; have hcz58_2 : w57.cell? ⟨gb129, 2, none⟩ = some (.int .i64 x130002_4) := (blk_cell BK129.out 2).trans rfl; have hfz58_0 := blk_frozen BK129.out 0; have hfz58_1 := blk_frozen BK129.out 1; have hfz58_2 := blk_frozen BK129.out 2; have hcz59_0 : w57.cell? ⟨gb122, 0, none⟩ = some (.string x123000_2) := (blk_cell BK122.out 0).trans rfl; have hcz59_1 : w57.cell? ⟨gb122, 1, none⟩ = some (.int .i64 x123001_2) := (blk_cell BK122.out 1).trans rfl; have hcz59_2 : w57.cell? ⟨gb122, 2, none⟩ = some (.int .i64 x123002_2) := (blk_cell BK122.out 2).trans rfl; have hfz59_0 := blk_frozen BK122.out 0; have hfz59_1 := blk_frozen BK122.out 1; have hfz59_2 := blk_frozen BK122.out 2)); try go_wp2_with (first | (go_at_call 37; (with_reducible refine (spec_l7Collapse.calls k2 t126 t127 x130002_4 x16_2 t138 _ A53.out).mono ?_); rintro e w57 ⟨rfl, hb⟩; have n0_ := AM (blk_below (g := gb122) (o := .cells #[.string x123000_2, .int .i64 x123001_2, .int .i64 x123002_2] 27 (0, 0)) (by (with_reducible repeat (first | refine blk_drewN ?_ _ | refine blk_drew ?_ | refine blk_alloc ?_ _)); exact BK122.out) hb); have n1_ := AM (blk_below (g := gb129) (o := .cells #[.string t126, .int .i64 t127, .int .i64 x130002_4] 27 (0, 0)) (by (with_reducible repeat (first | refine blk_drewN ?_ _ | refine blk_drew ?_ | refine blk_alloc ?_ _)); exact BK129.out) hb); have n2_ := AM (below_step (by repeat (first | (with_reducible first | exact HB.out | apply below_alloc | apply pw_below_drewN | apply below_drew1 | refine below_set ?_ GE122.out | refine below_set ?_ GE129.out) | exact HB.out)) hb); clear BK122; clear BK129; clear HB; have BK122 := n0_; have BK129 := n1_; have HB := n2_; clear n0_ n1_ n2_; (try clear hb); (try clear hb2); (try clear hk); (try clear hi); have hcz58_0 : w57.cell? ⟨gb129, 0, none⟩ = some (.string t126) := (blk_cell BK129.out 0).trans rfl; have hcz58_1 : w57.cell? ⟨gb129, 1, none⟩ = some (.int .i64 t127) := (blk_cell BK129.out 1).trans rfl; have hcz58_2 : w57.cell? ⟨gb129, 2, none⟩ = some (.int .i64 x130002_4) := (blk_cell BK129.out 2).trans rfl; have hfz58_0 := blk_frozen BK129.out 0; have hfz58_1 := blk_frozen BK129.out 1; have hfz58_2 := blk_frozen BK129.out 2; have hcz59_0 : w57.cell? ⟨gb122, 0, none⟩ = some (.string x123000_2) := (blk_cell BK122.out 0).trans rfl; have hcz59_1 : w57.cell? ⟨gb122, 1, none⟩ = some (.int .i64 x123001_2) := (blk_cell BK122.out 1).trans rfl; have hcz59_2 : w57.cell? ⟨gb122, 2, none⟩ = some (.int .i64 x123002_2) := (blk_cell BK122.out 2).trans rfl; have hfz59_0 := blk_frozen BK122.out 0; have hfz59_1 := blk_frozen BK122.out 1; have hfz59_2 := blk_frozen BK122.out 2)))
         refine bodyPost_ret (results_ct rfl _ _ gb122 27 #[.string t126, .int .i64 t127, .int .i64 x130002_4] (0, 0) _ rfl (by (with_reducible repeat (first | refine blk_drewN ?_ _ | refine blk_drew ?_ | refine blk_alloc ?_ _)); refine blk_put (cs := #[.string t126, .int .i64 t127, .int .i64 x123002_2]) ?_ 2 _ rfl; (with_reducible repeat (first | refine blk_drewN ?_ _ | refine blk_drew ?_ | refine blk_alloc ?_ _)); refine blk_put (cs := #[.string t126, .int .i64 x123001_2, .int .i64 x123002_2]) ?_ 1 _ rfl; (with_reducible repeat (first | refine blk_drewN ?_ _ | refine blk_drew ?_ | refine blk_alloc ?_ _)); refine blk_put (cs := #[.string x123000_2, .int .i64 x123001_2, .int .i64 x123002_2]) ?_ 0 _ rfl; (with_reducible repeat (first | refine blk_drewN ?_ _ | refine blk_drew ?_ | refine blk_alloc ?_ _)); exact BK122.out) Tryd.underlying27 rfl (by kernel_rfl)) rfl ?_
         exact ⟨by first | rfl | (simp [errW_none, errW_some] <;> rfl) | (simp [*, errW_none, errW_some] <;> rfl) | (simp [errW_none, errW_some] <;> (apply Bool.eq_iff_iff.2; simp [List.isEmpty_iff])), by repeat (first | (with_reducible first | exact HB.out | apply below_alloc | apply pw_below_drewN | apply below_drew1 | refine below_set ?_ GE122.out | refine below_set ?_ GE129.out) | exact HB.out)⟩
        ·rw [if_neg c54] at H
         have c54b0 : (t138.toList == a0.toList) = false := beq_eq_false_iff_ne.mpr c54
         have c54b1 : (t138.toList != a0.toList) = true := bne_iff_ne.mpr c54
         have H' := AM H
         clear H
         have hnb60 := NB129_122.out
         have hnc60 := NB122_129.out
         have hcz61_0 : wr.cell? ⟨gb129, 0, none⟩ = some (.string t126) := (blk_cell BK129.out 0).trans rfl
         have hcz61_1 : wr.cell? ⟨gb129, 1, none⟩ = some (.int .i64 t127) := (blk_cell BK129.out 1).trans rfl
         have hcz61_2 : wr.cell? ⟨gb129, 2, none⟩ = some (.int .i64 x130002_4) := (blk_cell BK129.out 2).trans rfl
         have hfz61_0 := blk_frozen BK129.out 0
         have hfz61_1 := blk_frozen BK129.out 1
         have hfz61_2 := blk_frozen BK129.out 2
         go_wp2_with (first | (go_at_call 37; (with_reducible refine (spec_l7Collapse.calls k2 t126 t127 x130002_4 x16_2 t138 _ A53.out).mono ?_); rintro e w62 ⟨rfl, hb⟩; have n0_ := AM (blk_below (g := gb122) (o := .cells #[.string x123000_2, .int .i64 x123001_2, .int .i64 x123002_2] 27 (0, 0)) (by (with_reducible repeat (first | refine blk_drewN ?_ _ | refine blk_drew ?_ | refine blk_alloc ?_ _)); exact BK122.out) hb); have n1_ := AM (blk_below (g := gb129) (o := .cells #[.string t126, .int .i64 t127, .int .i64 x130002_4] 27 (0, 0)) (by (with_reducible repeat (first | refine blk_drewN ?_ _ | refine blk_drew ?_ | refine blk_alloc ?_ _)); exact BK129.out) hb); have n2_ := AM (below_step (by repeat (first | (with_reducible first | exact HB.out | apply below_alloc | apply pw_below_drewN | apply below_drew1 | refine below_set ?_ GE122.out | refine below_set ?_ GE129.out) | exact HB.out)) hb); clear BK122; clear BK129; clear HB; have BK122 := n0_; have BK129 := n1_; have HB := n2_; clear n0_ n1_ n2_; (try clear hb); (try clear hb2); (try clear hk); (try clear hi)))
         repeat (go_quiet (first | (go_at_call 37; (with_reducible refine (spec_l7Collapse.calls k2 t126 t127 x130002_4 x16_2 t138 _ A53.out).mono ?_); rintro e w62 ⟨rfl, hb⟩; have n0_ := AM (blk_below (g := gb122) (o := .cells #[.string x123000_2, .int .i64 x123001_2, .int .i64 x123002_2] 27 (0, 0)) (by (with_reducible repeat (first | refine blk_drewN ?_ _ | refine blk_drew ?_ | refine blk_alloc ?_ _)); exact BK122.out) hb); have n1_ := AM (blk_below (g := gb129) (o := .cells #[.string t126, .int .i64 t127, .int .i64 x130002_4] 27 (0, 0)) (by (with_reducible repeat (first | refine blk_drewN ?_ _ | refine blk_drew ?_ | refine blk_alloc ?_ _)); exact BK129.out) hb); have n2_ := AM (below_step (by repeat (first | (with_reducible first | exact HB.out | apply below_alloc | apply pw_below_drewN | apply below_drew1 | refine below_set ?_ GE122.out | refine below_set ?_ GE129.out) | exact HB.out)) hb); clear BK122; clear BK129; clear HB; have BK122 := n0_; have BK129 := n1_; have HB := n2_; clear n0_ n1_ n2_; (try clear hb); (try clear hb2); (try clear hk); (try clear hi))); try go_wp2_with (first | (go_at_call 37; (with_reducible refine (spec_l7Collapse.calls k2 t126 t127 x130002_4 x16_2 t138 _ A53.out).mono ?_); rintro e w62 ⟨rfl, hb⟩; have n0_ := AM (blk_below (g := gb122) (o := .cells #[.string x123000_2, .int .i64 x123001_2, .int .i64 x123002_2] 27 (0, 0)) (by (with_reducible repeat (first | refine blk_drewN ?_ _ | refine blk_drew ?_ | refine blk_alloc ?_ _)); exact BK122.out) hb); have n1_ := AM (blk_below (g := gb129) (o := .cells #[.string t126, .int .i64 t127, .int .i64 x130002_4] 27 (0, 0)) (by (with_reducible repeat (first | refine blk_drewN ?_ _ | refine blk_drew ?_ | refine blk_alloc ?_ _)); exact BK129.out) hb); have n2_ := AM (below_step (by repeat (first | (with_reducible first | exact HB.out | apply below_alloc | apply pw_below_drewN | apply below_drew1 | refine below_set ?_ GE122.out | refine below_set ?_ GE129.out) | exact HB.out)) hb); clear BK122; clear BK129; clear HB; have BK122 := n0_; have BK129 := n1_; have HB := n2_; clear n0_ n1_ n2_; (try clear hb); (try clear hb2); (try clear hk); (try clear hi))))
         go_roundg k2
         case measure => have := HJ4.out; have := HK2.out; omega
         case rel => exact ⟨(wrap64 (x16_2 + 1)), (x123000_2), (x123001_2), (x123002_2), (by first | rfl | (simp; done) | (simp [*]; done)), H', ⟨by have := HJ4.out; have := HK2.out; omega⟩, ⟨by (with_reducible repeat (first | refine blk_drewN ?_ _ | refine blk_drew ?_ | refine blk_alloc ?_ _)); exact BK122.out⟩, ⟨by (with_reducible repeat (first | refine blk_drewN ?_ _ | refine blk_drew ?_ | refine blk_alloc ?_ _)); exact BK129.out⟩, ⟨by repeat (first | (with_reducible first | exact HB.out | apply below_alloc | apply pw_below_drewN | apply below_drew1 | refine below_set ?_ GE122.out | refine below_set ?_ GE129.out) | exact HB.out)⟩⟩
       ·rw [if_neg c52] at H
        have c52b0 : decide (x16_2 ≤ 3) = false := decide_eq_false c52
        clear c52
        simp only [Option.some.injEq, Prod.mk.injEq] at H
        obtain ⟨rfl, rfl, rfl, rfl⟩ := H
        have hnb63 := NB122_129.out
        have hnc63 := NB129_122.out
        have hcz64_0 : wr.cell? ⟨gb122, 0, none⟩ = some (.string x123000_2) := (blk_cell BK122.out 0).trans rfl
        have hcz64_1 : wr.cell? ⟨gb122, 1, none⟩ = some (.int .i64 x123001_2) := (blk_cell BK122.out 1).trans rfl
        have hcz64_2 : wr.cell? ⟨gb122, 2, none⟩ = some (.int .i64 x123002_2) := (blk_cell BK122.out 2).trans rfl
        have hfz64_0 := blk_frozen BK122.out 0
        have hfz64_1 := blk_frozen BK122.out 1
        have hfz64_2 := blk_frozen BK122.out 2
        go_wp2
        repeat (go_quiet (fail); try go_wp2)
        refine bodyPost_ret (results_ct rfl _ _ gb122 27 #[.string (⟨#[]⟩ : ByteArray), .int .i64 0, .int .i64 0] (0, 0) _ rfl (by (with_reducible repeat (first | refine blk_drewN ?_ _ | refine blk_drew ?_ | refine blk_alloc ?_ _)); refine blk_put (cs := #[.string (⟨#[]⟩ : ByteArray), .int .i64 0, .int .i64 x123002_2]) ?_ 2 _ rfl; (with_reducible repeat (first | refine blk_drewN ?_ _ | refine blk_drew ?_ | refine blk_alloc ?_ _)); refine blk_put (cs := #[.string (⟨#[]⟩ : ByteArray), .int .i64 x123001_2, .int .i64 x123002_2]) ?_ 1 _ rfl; (with_reducible repeat (first | refine blk_drewN ?_ _ | refine blk_drew ?_ | refine blk_alloc ?_ _)); refine blk_put (cs := #[.string x123000_2, .int .i64 x123001_2, .int .i64 x123002_2]) ?_ 0 _ rfl; (with_reducible repeat (first | refine blk_drewN ?_ _ | refine blk_drew ?_ | refine blk_alloc ?_ _)); exact BK122.out) Tryd.underlying27 rfl (by kernel_rfl)) rfl ?_
        exact ⟨by first | rfl | (simp [errW_none, errW_some] <;> rfl) | (simp [*, errW_none, errW_some] <;> rfl) | (simp [errW_none, errW_some] <;> (apply Bool.eq_iff_iff.2; simp [List.isEmpty_iff])), by repeat (first | (with_reducible first | exact HB.out | apply below_alloc | apply pw_below_drewN | apply below_drew1 | refine below_set ?_ GE122.out | refine below_set ?_ GE129.out) | exact HB.out)⟩
    ·replace c48 := Bool.eq_false_iff.mpr c48
     subst c48
     have H1 : (some ((⟨#[]⟩ : ByteArray), 0, 0, false)) = some (r1, r2, r3, r4) := by rw [if_neg (show ¬ (false = true) by decide)] at H; exact H
     clear H
     have H := H1
     clear H1
     simp only [Option.some.injEq, Prod.mk.injEq] at H
     obtain ⟨rfl, rfl, rfl, rfl⟩ := H
     have hnb65 := NB129_122.out
     have hnc65 := NB122_129.out
     have hcz66_0 : wc.cell? ⟨gb129, 0, none⟩ = some (.string t126) := (blk_cell BK129.out 0).trans rfl
     have hcz66_1 : wc.cell? ⟨gb129, 1, none⟩ = some (.int .i64 t127) := (blk_cell BK129.out 1).trans rfl
     have hcz66_2 : wc.cell? ⟨gb129, 2, none⟩ = some (.int .i64 x130002_4) := (blk_cell BK129.out 2).trans rfl
     have hfz66_0 := blk_frozen BK129.out 0
     have hfz66_1 := blk_frozen BK129.out 1
     have hfz66_2 := blk_frozen BK129.out 2
     go_wp2_with (first | (go_at_call 35; (with_reducible refine (spec_l7Range.calls t126 t127 x130002_4 false _ A47.out).mono ?_); rintro e w67 ⟨rfl, hb⟩; have n0_ := AM (blk_below (g := gb122) (o := .cells #[.string x123000_4, .int .i64 x123001_4, .int .i64 x123002_4] 27 (0, 0)) (by (with_reducible repeat (first | refine blk_drewN ?_ _ | refine blk_drew ?_ | refine blk_alloc ?_ _)); exact BK122.out) hb); have n1_ := AM (blk_below (g := gb129) (o := .cells #[.string t126, .int .i64 t127, .int .i64 x130002_4] 27 (0, 0)) (by (with_reducible repeat (first | refine blk_drewN ?_ _ | refine blk_drew ?_ | refine blk_alloc ?_ _)); exact BK129.out) hb); have n2_ := AM (below_step (by repeat (first | (with_reducible first | exact HB.out | apply below_alloc | apply pw_below_drewN | apply below_drew1 | refine below_set ?_ GE122.out | refine below_set ?_ GE129.out) | exact HB.out)) hb); clear BK122; clear BK129; clear HB; have BK122 := n0_; have BK129 := n1_; have HB := n2_; clear n0_ n1_ n2_; (try clear hb); (try clear hb2); (try clear hk); (try clear hi); have hcz68_0 : w67.cell? ⟨gb122, 0, none⟩ = some (.string x123000_4) := (blk_cell BK122.out 0).trans rfl; have hcz68_1 : w67.cell? ⟨gb122, 1, none⟩ = some (.int .i64 x123001_4) := (blk_cell BK122.out 1).trans rfl; have hcz68_2 : w67.cell? ⟨gb122, 2, none⟩ = some (.int .i64 x123002_4) := (blk_cell BK122.out 2).trans rfl; have hfz68_0 := blk_frozen BK122.out 0; have hfz68_1 := blk_frozen BK122.out 1; have hfz68_2 := blk_frozen BK122.out 2))
     repeat (go_quiet (first | (go_at_call 35; (with_reducible refine (spec_l7Range.calls t126 t127 x130002_4 false _ A47.out).mono ?_); rintro e w67 ⟨rfl, hb⟩; have n0_ := AM (blk_below (g := gb122) (o := .cells #[.string x123000_4, .int .i64 x123001_4, .int .i64 x123002_4] 27 (0, 0)) (by (with_reducible repeat (first | refine blk_drewN ?_ _ | refine blk_drew ?_ | refine blk_alloc ?_ _)); exact BK122.out) hb); have n1_ := AM (blk_below (g := gb129) (o := .cells #[.string t126, .int .i64 t127, .int .i64 x130002_4] 27 (0, 0)) (by (with_reducible repeat (first | refine blk_drewN ?_ _ | refine blk_drew ?_ | refine blk_alloc ?_ _)); exact BK129.out) hb); have n2_ := AM (below_step (by repeat (first | (with_reducible first | exact HB.out | apply below_alloc | apply pw_below_drewN | apply below_drew1 | refine below_set ?_ GE122.out | refine below_set ?_ GE129.out) | exact HB.out)) hb); clear BK122; clear BK129; clear HB; have BK122 := n0_; have BK129 := n1_; have HB := n2_; clear n0_ n1_ n2_; (try clear hb); (try clear hb2); (try clear hk); (try clear hi); have hcz68_0 : w67.cell? ⟨gb122, 0, none⟩ = some (.string x123000_4) := (blk_cell BK122.out 0).trans rfl; have hcz68_1 : w67.cell? ⟨gb122, 1, none⟩ = some (.int .i64 x123001_4) := (blk_cell BK122.out 1).trans rfl; have hcz68_2 : w67.cell? ⟨gb122, 2, none⟩ = some (.int .i64 x123002_4) := (blk_cell BK122.out 2).trans rfl; have hfz68_0 := blk_frozen BK122.out 0; have hfz68_1 := blk_frozen BK122.out 1; have hfz68_2 := blk_frozen BK122.out 2)); try go_wp2_with (first | (go_at_call 35; (with_reducible refine (spec_l7Range.calls t126 t127 x130002_4 false _ A47.out).mono ?_); rintro e w67 ⟨rfl, hb⟩; have n0_ := AM (blk_below (g := gb122) (o := .cells #[.string x123000_4, .int .i64 x123001_4, .int .i64 x123002_4] 27 (0, 0)) (by (with_reducible repeat (first | refine blk_drewN ?_ _ | refine blk_drew ?_ | refine blk_alloc ?_ _)); exact BK122.out) hb); have n1_ := AM (blk_below (g := gb129) (o := .cells #[.string t126, .int .i64 t127, .int .i64 x130002_4] 27 (0, 0)) (by (with_reducible repeat (first | refine blk_drewN ?_ _ | refine blk_drew ?_ | refine blk_alloc ?_ _)); exact BK129.out) hb); have n2_ := AM (below_step (by repeat (first | (with_reducible first | exact HB.out | apply below_alloc | apply pw_below_drewN | apply below_drew1 | refine below_set ?_ GE122.out | refine below_set ?_ GE129.out) | exact HB.out)) hb); clear BK122; clear BK129; clear HB; have BK122 := n0_; have BK129 := n1_; have HB := n2_; clear n0_ n1_ n2_; (try clear hb); (try clear hb2); (try clear hk); (try clear hi); have hcz68_0 : w67.cell? ⟨gb122, 0, none⟩ = some (.string x123000_4) := (blk_cell BK122.out 0).trans rfl; have hcz68_1 : w67.cell? ⟨gb122, 1, none⟩ = some (.int .i64 x123001_4) := (blk_cell BK122.out 1).trans rfl; have hcz68_2 : w67.cell? ⟨gb122, 2, none⟩ = some (.int .i64 x123002_4) := (blk_cell BK122.out 2).trans rfl; have hfz68_0 := blk_frozen BK122.out 0; have hfz68_1 := blk_frozen BK122.out 1; have hfz68_2 := blk_frozen BK122.out 2)))
     refine bodyPost_ret (results_ct rfl _ _ gb122 27 #[.string (⟨#[]⟩ : ByteArray), .int .i64 0, .int .i64 0] (0, 0) _ rfl (by (with_reducible repeat (first | refine blk_drewN ?_ _ | refine blk_drew ?_ | refine blk_alloc ?_ _)); refine blk_put (cs := #[.string (⟨#[]⟩ : ByteArray), .int .i64 0, .int .i64 x123002_4]) ?_ 2 _ rfl; (with_reducible repeat (first | refine blk_drewN ?_ _ | refine blk_drew ?_ | refine blk_alloc ?_ _)); refine blk_put (cs := #[.string (⟨#[]⟩ : ByteArray), .int .i64 x123001_4, .int .i64 x123002_4]) ?_ 1 _ rfl; (with_reducible repeat (first | refine blk_drewN ?_ _ | refine blk_drew ?_ | refine blk_alloc ?_ _)); refine blk_put (cs := #[.string x123000_4, .int .i64 x123001_4, .int .i64 x123002_4]) ?_ 0 _ rfl; (with_reducible repeat (first | refine blk_drewN ?_ _ | refine blk_drew ?_ | refine blk_alloc ?_ _)); exact BK122.out) Tryd.underlying27 rfl (by kernel_rfl)) rfl ?_
     exact ⟨by first | rfl | (simp [errW_none, errW_some] <;> rfl) | (simp [*, errW_none, errW_some] <;> rfl) | (simp [errW_none, errW_some] <;> (apply Bool.eq_iff_iff.2; simp [List.isEmpty_iff])), by repeat (first | (with_reducible first | exact HB.out | apply below_alloc | apply pw_below_drewN | apply below_drew1 | refine below_set ?_ GE122.out | refine below_set ?_ GE129.out) | exact HB.out)⟩
 ·replace c4 := Bool.eq_false_iff.mpr c4
  subst c4
  have H1 : (some ((⟨#[]⟩ : ByteArray), 0, 0, false)) = some (r1, r2, r3, r4) := by rw [if_neg (show ¬ (false = true) by decide)] at H; exact H
  clear H
  have H := H1
  clear H1
  simp only [Option.some.injEq, Prod.mk.injEq] at H
  obtain ⟨rfl, rfl, rfl, rfl⟩ := H
  go_enter Tryd.func18, Tryd.ntmps18
  go_wp2_with (first | ((with_reducible refine gate_dst (N := 2) rfl ?_); refine box_event ?hg (N := 2) ?hd (cs := #[.string (⟨#[]⟩ : ByteArray), .int .i64 0, .int .i64 0]) (t := 27) ?hr ?_; (case hd => rfl); (case hg => rfl); (case hr => first | (go_simp; done) | (go_simp; rfl)); intro gb122 hg w69 hbox hb; have n0_ := AM (below_step (by repeat (first | (with_reducible first | exact HB.out | apply below_alloc | apply pw_below_drewN | apply below_drew1) | exact HB.out)) hb); have n1_ := AM (hbox); have n2_ := AM ((by rw [hg]; exact (below_size (by repeat (first | (with_reducible first | exact HB.out | apply below_alloc | apply pw_below_drewN | apply below_drew1) | exact HB.out))) : w.heap.size ≤ gb122)); have n3_ := AM ((by rw [hg]; exact (below_size (by repeat (first | (with_reducible first | exact HB.out | apply below_alloc | apply pw_below_drewN | apply below_drew1) | exact HB.out))) : w.heap.size ≤ gb122)); clear HB; have HB := n0_; have BK122 := n1_; have GW122 := n2_; have GE122 := n3_; clear n0_ n1_ n2_ n3_; clear hb hbox hg) | (go_at_call 45; (with_reducible refine (spec_l7Cut.calls k a0 t123 t124 t125 _ A2.out).mono ?_); rintro e w' ⟨rfl, ⟨nd, rfl⟩⟩; (try first | exact ⟨rfl, _, World.drewN_drewN _ _ _⟩ | exact ⟨rfl, _, Eq.trans (World.drewN_drewN _ _ _) (congrArg (World.drewN _) (Nat.add_assoc _ _ _))⟩)) | (go_at_call 46; (with_reducible refine (spec_l7Page.calls k t123 t126 t127 false _ A3.out).mono ?_); rintro e w70 ⟨rfl, hb⟩; have n0_ := AM (blk_below (g := gb122) (o := .cells #[.string (⟨#[]⟩ : ByteArray), .int .i64 0, .int .i64 0] 27 (0, 0)) (by (with_reducible repeat (first | refine blk_drewN ?_ _ | refine blk_drew ?_ | refine blk_alloc ?_ _)); exact BK122.out) hb); have n1_ := AM (below_step (by repeat (first | (with_reducible first | exact HB.out | apply below_alloc | apply pw_below_drewN | apply below_drew1 | refine below_set ?_ GE122.out) | exact HB.out)) hb); clear BK122; clear HB; have BK122 := n0_; have HB := n1_; clear n0_ n1_; (try clear hb); (try clear hb2); (try clear hk); (try clear hi); have hcz71_0 : w70.cell? ⟨gb122, 0, none⟩ = some (.string (⟨#[]⟩ : ByteArray)) := (blk_cell BK122.out 0).trans rfl; have hcz71_1 : w70.cell? ⟨gb122, 1, none⟩ = some (.int .i64 0) := (blk_cell BK122.out 1).trans rfl; have hcz71_2 : w70.cell? ⟨gb122, 2, none⟩ = some (.int .i64 0) := (blk_cell BK122.out 2).trans rfl; have hfz71_0 := blk_frozen BK122.out 0; have hfz71_1 := blk_frozen BK122.out 1; have hfz71_2 := blk_frozen BK122.out 2))
  repeat (go_quiet (first | ((with_reducible refine gate_dst (N := 2) rfl ?_); refine box_event ?hg (N := 2) ?hd (cs := #[.string (⟨#[]⟩ : ByteArray), .int .i64 0, .int .i64 0]) (t := 27) ?hr ?_; (case hd => rfl); (case hg => rfl); (case hr => first | (go_simp; done) | (go_simp; rfl)); intro gb122 hg w69 hbox hb; have n0_ := AM (below_step (by repeat (first | (with_reducible first | exact HB.out | apply below_alloc | apply pw_below_drewN | apply below_drew1) | exact HB.out)) hb); have n1_ := AM (hbox); have n2_ := AM ((by rw [hg]; exact (below_size (by repeat (first | (with_reducible first | exact HB.out | apply below_alloc | apply pw_below_drewN | apply below_drew1) | exact HB.out))) : w.heap.size ≤ gb122)); have n3_ := AM ((by rw [hg]; exact (below_size (by repeat (first | (with_reducible first | exact HB.out | apply below_alloc | apply pw_below_drewN | apply below_drew1) | exact HB.out))) : w.heap.size ≤ gb122)); clear HB; have HB := n0_; have BK122 := n1_; have GW122 := n2_; have GE122 := n3_; clear n0_ n1_ n2_ n3_; clear hb hbox hg) | (go_at_call 45; (with_reducible refine (spec_l7Cut.calls k a0 t123 t124 t125 _ A2.out).mono ?_); rintro e w' ⟨rfl, ⟨nd, rfl⟩⟩; (try first | exact ⟨rfl, _, World.drewN_drewN _ _ _⟩ | exact ⟨rfl, _, Eq.trans (World.drewN_drewN _ _ _) (congrArg (World.drewN _) (Nat.add_assoc _ _ _))⟩)) | (go_at_call 46; (with_reducible refine (spec_l7Page.calls k t123 t126 t127 false _ A3.out).mono ?_); rintro e w70 ⟨rfl, hb⟩; have n0_ := AM (blk_below (g := gb122) (o := .cells #[.string (⟨#[]⟩ : ByteArray), .int .i64 0, .int .i64 0] 27 (0, 0)) (by (with_reducible repeat (first | refine blk_drewN ?_ _ | refine blk_drew ?_ | refine blk_alloc ?_ _)); exact BK122.out) hb); have n1_ := AM (below_step (by repeat (first | (with_reducible first | exact HB.out | apply below_alloc | apply pw_below_drewN | apply below_drew1 | refine below_set ?_ GE122.out) | exact HB.out)) hb); clear BK122; clear HB; have BK122 := n0_; have HB := n1_; clear n0_ n1_; (try clear hb); (try clear hb2); (try clear hk); (try clear hi); have hcz71_0 : w70.cell? ⟨gb122, 0, none⟩ = some (.string (⟨#[]⟩ : ByteArray)) := (blk_cell BK122.out 0).trans rfl; have hcz71_1 : w70.cell? ⟨gb122, 1, none⟩ = some (.int .i64 0) := (blk_cell BK122.out 1).trans rfl; have hcz71_2 : w70.cell? ⟨gb122, 2, none⟩ = some (.int .i64 0) := (blk_cell BK122.out 2).trans rfl; have hfz71_0 := blk_frozen BK122.out 0; have hfz71_1 := blk_frozen BK122.out 1; have hfz71_2 := blk_frozen BK122.out 2)); try go_wp2_with (first | ((with_reducible refine gate_dst (N := 2) rfl ?_); refine box_event ?hg (N := 2) ?hd (cs := #[.string (⟨#[]⟩ : ByteArray), .int .i64 0, .int .i64 0]) (t := 27) ?hr ?_; (case hd => rfl); (case hg => rfl); (case hr => first | (go_simp; done) | (go_simp; rfl)); intro gb122 hg w69 hbox hb; have n0_ := AM (below_step (by repeat (first | (with_reducible first | exact HB.out | apply below_alloc | apply pw_below_drewN | apply below_drew1) | exact HB.out)) hb); have n1_ := AM (hbox); have n2_ := AM ((by rw [hg]; exact (below_size (by repeat (first | (with_reducible first | exact HB.out | apply below_alloc | apply pw_below_drewN | apply below_drew1) | exact HB.out))) : w.heap.size ≤ gb122)); have n3_ := AM ((by rw [hg]; exact (below_size (by repeat (first | (with_reducible first | exact HB.out | apply below_alloc | apply pw_below_drewN | apply below_drew1) | exact HB.out))) : w.heap.size ≤ gb122)); clear HB; have HB := n0_; have BK122 := n1_; have GW122 := n2_; have GE122 := n3_; clear n0_ n1_ n2_ n3_; clear hb hbox hg) | (go_at_call 45; (with_reducible refine (spec_l7Cut.calls k a0 t123 t124 t125 _ A2.out).mono ?_); rintro e w' ⟨rfl, ⟨nd, rfl⟩⟩; (try first | exact ⟨rfl, _, World.drewN_drewN _ _ _⟩ | exact ⟨rfl, _, Eq.trans (World.drewN_drewN _ _ _) (congrArg (World.drewN _) (Nat.add_assoc _ _ _))⟩)) | (go_at_call 46; (with_reducible refine (spec_l7Page.calls k t123 t126 t127 false _ A3.out).mono ?_); rintro e w70 ⟨rfl, hb⟩; have n0_ := AM (blk_below (g := gb122) (o := .cells #[.string (⟨#[]⟩ : ByteArray), .int .i64 0, .int .i64 0] 27 (0, 0)) (by (with_reducible repeat (first | refine blk_drewN ?_ _ | refine blk_drew ?_ | refine blk_alloc ?_ _)); exact BK122.out) hb); have n1_ := AM (below_step (by repeat (first | (with_reducible first | exact HB.out | apply below_alloc | apply pw_below_drewN | apply below_drew1 | refine below_set ?_ GE122.out) | exact HB.out)) hb); clear BK122; clear HB; have BK122 := n0_; have HB := n1_; clear n0_ n1_; (try clear hb); (try clear hb2); (try clear hk); (try clear hi); have hcz71_0 : w70.cell? ⟨gb122, 0, none⟩ = some (.string (⟨#[]⟩ : ByteArray)) := (blk_cell BK122.out 0).trans rfl; have hcz71_1 : w70.cell? ⟨gb122, 1, none⟩ = some (.int .i64 0) := (blk_cell BK122.out 1).trans rfl; have hcz71_2 : w70.cell? ⟨gb122, 2, none⟩ = some (.int .i64 0) := (blk_cell BK122.out 2).trans rfl; have hfz71_0 := blk_frozen BK122.out 0; have hfz71_1 := blk_frozen BK122.out 1; have hfz71_2 := blk_frozen BK122.out 2)))
  refine bodyPost_ret (results_ct rfl _ _ gb122 27 #[.string (⟨#[]⟩ : ByteArray), .int .i64 0, .int .i64 0] (0, 0) _ rfl (by (with_reducible repeat (first | refine blk_drewN ?_ _ | refine blk_drew ?_ | refine blk_alloc ?_ _)); refine blk_put (cs := #[.string (⟨#[]⟩ : ByteArray), .int .i64 0, .int .i64 0]) ?_ 2 _ rfl; (with_reducible repeat (first | refine blk_drewN ?_ _ | refine blk_drew ?_ | refine blk_alloc ?_ _)); refine blk_put (cs := #[.string (⟨#[]⟩ : ByteArray), .int .i64 0, .int .i64 0]) ?_ 1 _ rfl; (with_reducible repeat (first | refine blk_drewN ?_ _ | refine blk_drew ?_ | refine blk_alloc ?_ _)); refine blk_put (cs := #[.string (⟨#[]⟩ : ByteArray), .int .i64 0, .int .i64 0]) ?_ 0 _ rfl; (with_reducible repeat (first | refine blk_drewN ?_ _ | refine blk_drew ?_ | refine blk_alloc ?_ _)); exact BK122.out) Tryd.underlying27 rfl (by kernel_rfl)) rfl ?_
  exact ⟨by first | rfl | (simp [errW_none, errW_some] <;> rfl) | (simp [*, errW_none, errW_some] <;> rfl) | (simp [errW_none, errW_some] <;> (apply Bool.eq_iff_iff.2; simp [List.isEmpty_iff])), by repeat (first | (with_reducible first | exact HB.out | apply below_alloc | apply pw_below_drewN | apply below_drew1 | refine below_set ?_ GE122.out) | exact HB.out)⟩

end Go.Proofs.YtjckholdcgjdnaaDoor.Px
