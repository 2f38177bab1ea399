/- Calls of Go functions come to what the Lean functions beside them say; written by a program of this session (wip/xprint); no conditions. -/
import Derived.Test.YtmemcncbkgcbeaaGreatDoorPx7
namespace Go.Proofs.YtmemcncbkgcbeaaGreatDoor.Px
open Go.RowKit Go.Proofs.YtmemcncbkgcbeaaGreatDoorW.PrintWords Go.Proofs.YtmemcncbkgcbeaaGreatDoorW.PrintLast Go.Proofs.YtmemcncbkgcbeaaGreatDoorW.PrintMore
attribute [local go_sem] max2_int min2_int max_two min_two max_three min_three max_four min_four   -- for this text's walks alone
set_option linter.unusedVariables false
set_option linter.unusedSimpArgs false
/-! ### spec_ExpandRange: function 18 -/
mutual
def spec_ExpandRange.j2 : Nat → ByteArray → ByteArray → Int → Int → Option (ByteArray × Int × Int × Bool)
 | 0, _, _, _, _ => none
 | k + 1, x0, x391000, x391001, x391002 => (spec_l7Range.f x391000 x391001 x391002).bind fun t398 => (if t398 = true then (spec_ExpandRange.l0 k x0 1 x391000 x391001 x391002) else (some ((⟨#[]⟩ : ByteArray), 0, 0, false)))
def spec_ExpandRange.l0 : Nat → ByteArray → Int → ByteArray → Int → Int → Option (ByteArray × Int × Int × Bool)
 | 0, _, _, _, _, _ => none
 | k + 1, x0, x16, x391000, x391001, x391002 => if x16 ≤ 3 then ((spec_l7Collapse.f k x391000 x391001 x391002 x16).bind fun t399 => (if t399.toList = x0.toList then (some (x391000, x391001, x391002, true)) else (spec_ExpandRange.l0 k x0 (wrap64 (x16 + 1)) x391000 x391001 x391002))) else (some ((⟨#[]⟩ : ByteArray), 0, 0, false))
def spec_ExpandRange.j0 : Nat → ByteArray → ByteArray → ByteArray → ByteArray → Bool → ByteArray → Int → Int → Option (ByteArray × Int × Int × Bool)
 | 0, _, _, _, _, _, _, _, _ => none
 | k + 1, x0, x5, x11, x12, x52, x391000, x391001, x391002 => if x52 = true then (if 1 ≤ (x5.size : Int) then (spec_ExpandRange.j1 k x0 x11 (x5.extract 1 x5.size) x391000 x391001 x391002) else (none)) else (spec_ExpandRange.j1 k x0 x11 x12 x391000 x391001 x391002)
def spec_ExpandRange.j1 : Nat → ByteArray → ByteArray → ByteArray → ByteArray → Int → Int → Option (ByteArray × Int × Int × Bool)
 | 0, _, _, _, _, _, _ => none
 | k + 1, x0, x11, x12, x391000, x391001, x391002 => if (x12.size : Int) < (x11.size : Int) then (if 0 ≤ (wrap64 ((x11.size : Int) - (x12.size : Int))) then (if (wrap64 ((x11.size : Int) - (x12.size : Int))) ≤ (x11.size : Int) then (if (x11.extract 0 ((wrap64 ((x11.size : Int) - (x12.size : Int))) : Int).toNat).size + x12.size ≤ 9223372036854775807 then ((spec_l7Page.f k ((x11.extract 0 ((wrap64 ((x11.size : Int) - (x12.size : Int))) : Int).toNat) ++ x12)).bind fun bt392 => (if bt392.2.2 = true then (spec_ExpandRange.j2 k x0 x391000 x391001 bt392.2.1) else (some ((⟨#[]⟩ : ByteArray), 0, 0, false)))) else (none)) else (none)) else (none)) else ((spec_l7Page.f k x12).bind fun bt395 => (if bt395.2.2 = true then (spec_ExpandRange.j2 k x0 x391000 x391001 bt395.2.1) else (some ((⟨#[]⟩ : ByteArray), 0, 0, false))))
end
def spec_ExpandRange.f (k : Nat) (a0 : ByteArray) : Option (ByteArray × Int × Int × Bool) := (spec_l7Cut.f k a0).bind fun bt384 => ((spec_l7Page.f k bt384.1).bind fun bt387 => (if bt387.2.2 = true then (if bt384.2.2 = true then ((spec_l1Num.f k bt387.2.1).bind fun t391 => (if bt387.1.toList = ([] : List UInt8) then (spec_ExpandRange.j0 k a0 bt384.2.1 t391 bt384.2.1 false bt387.1 bt387.2.1 bt387.2.1) else (if bt384.2.1.toList = ([] : List UInt8) then (spec_ExpandRange.j0 k a0 bt384.2.1 t391 bt384.2.1 false bt387.1 bt387.2.1 bt387.2.1) else (if 0 < (bt384.2.1.size : Int) then (if 0 < (bt387.1.size : Int) then (spec_ExpandRange.j0 k a0 bt384.2.1 t391 bt384.2.1 ((bt bt384.2.1 0) == (bt bt387.1 0)) bt387.1 bt387.2.1 bt387.2.1) else (none)) else (none))))) else (spec_ExpandRange.j2 k a0 bt387.1 bt387.2.1 bt387.2.1)) else (some ((⟨#[]⟩ : ByteArray), 0, 0, false))))
theorem spec_ExpandRange.mono_l : ∀ k, (∀ y0 y1 y2 y3, LeO (spec_ExpandRange.j2 k y0 y1 y2 y3) (spec_ExpandRange.j2 (k + 1) y0 y1 y2 y3)) ∧ (∀ y0 y1 y2 y3 y4, LeO (spec_ExpandRange.l0 k y0 y1 y2 y3 y4) (spec_ExpandRange.l0 (k + 1) y0 y1 y2 y3 y4)) ∧ (∀ y0 y1 y2 y3 y4 y5 y6 y7, LeO (spec_ExpandRange.j0 k y0 y1 y2 y3 y4 y5 y6 y7) (spec_ExpandRange.j0 (k + 1) y0 y1 y2 y3 y4 y5 y6 y7)) ∧ (∀ y0 y1 y2 y3 y4 y5, LeO (spec_ExpandRange.j1 k y0 y1 y2 y3 y4 y5) (spec_ExpandRange.j1 (k + 1) y0 y1 y2 y3 y4 y5))
 | 0 => ⟨fun _ _ _ _ r h => by simp [spec_ExpandRange.j2] at h, fun _ _ _ _ _ r h => by simp [spec_ExpandRange.l0] at h, fun _ _ _ _ _ _ _ _ r h => by simp [spec_ExpandRange.j0] at h, fun _ _ _ _ _ _ r h => by simp [spec_ExpandRange.j1] at h⟩
 | k + 1 => by
  obtain ⟨ih0, ih1, ih2, ih3⟩ := spec_ExpandRange.mono_l k
  refine ⟨?_, ?_, ?_, ?_⟩
  ·intro y0 y1 y2 y3
   unfold spec_ExpandRange.j2
   repeat' first
   | (with_reducible exact ih0 _ _ _ _)
   | (with_reducible exact ih1 _ _ _ _ _)
   | (with_reducible exact ih2 _ _ _ _ _ _ _ _)
   | (with_reducible exact ih3 _ _ _ _ _ _)
   | (with_reducible exact spec_l1Num.mono _ _)
   | (with_reducible exact spec_l7Collapse.mono _ _ _ _ _)
   | (with_reducible exact spec_l7Cut.mono _ _)
   | (with_reducible exact spec_l7Page.mono _ _)
   | (with_reducible exact LeO.refl _)
   | (with_reducible exact LeO.none _)
   | (with_reducible refine LeO.ite ?_ ?_)
   | (with_reducible refine LeO.bind ?_ (fun _ => ?_))
   | exact ih0 _ _ _ _
   | exact ih1 _ _ _ _ _
   | exact ih2 _ _ _ _ _ _ _ _
   | exact ih3 _ _ _ _ _ _
   | exact spec_l1Num.mono _ _
   | exact spec_l7Collapse.mono _ _ _ _ _
   | exact spec_l7Cut.mono _ _
   | exact spec_l7Page.mono _ _
   | exact LeO.none _
   | refine LeO.ite ?_ ?_
   | refine LeO.bind ?_ (fun _ => ?_)
  ·intro y0 y1 y2 y3 y4
   unfold spec_ExpandRange.l0
   repeat' first
   | (with_reducible exact ih0 _ _ _ _)
   | (with_reducible exact ih1 _ _ _ _ _)
   | (with_reducible exact ih2 _ _ _ _ _ _ _ _)
   | (with_reducible exact ih3 _ _ _ _ _ _)
   | (with_reducible exact spec_l1Num.mono _ _)
   | (with_reducible exact spec_l7Collapse.mono _ _ _ _ _)
   | (with_reducible exact spec_l7Cut.mono _ _)
   | (with_reducible exact spec_l7Page.mono _ _)
   | (with_reducible exact LeO.refl _)
   | (with_reducible exact LeO.none _)
   | (with_reducible refine LeO.ite ?_ ?_)
   | (with_reducible refine LeO.bind ?_ (fun _ => ?_))
   | exact ih0 _ _ _ _
   | exact ih1 _ _ _ _ _
   | exact ih2 _ _ _ _ _ _ _ _
   | exact ih3 _ _ _ _ _ _
   | exact spec_l1Num.mono _ _
   | exact spec_l7Collapse.mono _ _ _ _ _
   | exact spec_l7Cut.mono _ _
   | exact spec_l7Page.mono _ _
   | exact LeO.none _
   | refine LeO.ite ?_ ?_
   | refine LeO.bind ?_ (fun _ => ?_)
  ·intro y0 y1 y2 y3 y4 y5 y6 y7
   unfold spec_ExpandRange.j0
   repeat' first
   | (with_reducible exact ih0 _ _ _ _)
   | (with_reducible exact ih1 _ _ _ _ _)
   | (with_reducible exact ih2 _ _ _ _ _ _ _ _)
   | (with_reducible exact ih3 _ _ _ _ _ _)
   | (with_reducible exact spec_l1Num.mono _ _)
   | (with_reducible exact spec_l7Collapse.mono _ _ _ _ _)
   | (with_reducible exact spec_l7Cut.mono _ _)
   | (with_reducible exact spec_l7Page.mono _ _)
   | (with_reducible exact LeO.refl _)
   | (with_reducible exact LeO.none _)
   | (with_reducible refine LeO.ite ?_ ?_)
   | (with_reducible refine LeO.bind ?_ (fun _ => ?_))
   | exact ih0 _ _ _ _
   | exact ih1 _ _ _ _ _
   | exact ih2 _ _ _ _ _ _ _ _
   | exact ih3 _ _ _ _ _ _
   | exact spec_l1Num.mono _ _
   | exact spec_l7Collapse.mono _ _ _ _ _
   | exact spec_l7Cut.mono _ _
   | exact spec_l7Page.mono _ _
   | exact LeO.none _
   | refine LeO.ite ?_ ?_
   | refine LeO.bind ?_ (fun _ => ?_)
  ·intro y0 y1 y2 y3 y4 y5
   unfold spec_ExpandRange.j1
   repeat' first
   | (with_reducible exact ih0 _ _ _ _)
   | (with_reducible exact ih1 _ _ _ _ _)
   | (with_reducible exact ih2 _ _ _ _ _ _ _ _)
   | (with_reducible exact ih3 _ _ _ _ _ _)
   | (with_reducible exact spec_l1Num.mono _ _)
   | (with_reducible exact spec_l7Collapse.mono _ _ _ _ _)
   | (with_reducible exact spec_l7Cut.mono _ _)
   | (with_reducible exact spec_l7Page.mono _ _)
   | (with_reducible exact LeO.refl _)
   | (with_reducible exact LeO.none _)
   | (with_reducible refine LeO.ite ?_ ?_)
   | (with_reducible refine LeO.bind ?_ (fun _ => ?_))
   | exact ih0 _ _ _ _
   | exact ih1 _ _ _ _ _
   | exact ih2 _ _ _ _ _ _ _ _
   | exact ih3 _ _ _ _ _ _
   | exact spec_l1Num.mono _ _
   | exact spec_l7Collapse.mono _ _ _ _ _
   | exact spec_l7Cut.mono _ _
   | exact spec_l7Page.mono _ _
   | exact LeO.none _
   | refine LeO.ite ?_ ?_
   | refine LeO.bind ?_ (fun _ => ?_)
theorem spec_ExpandRange.mono : ∀ a0 k, LeO (spec_ExpandRange.f k a0) (spec_ExpandRange.f (k + 1) a0) := by
 intro a0 k
 obtain ⟨ih0, ih1, ih2, ih3⟩ := spec_ExpandRange.mono_l k
 unfold spec_ExpandRange.f
 repeat' first
   | (with_reducible exact ih0 _ _ _ _)
   | (with_reducible exact ih1 _ _ _ _ _)
   | (with_reducible exact ih2 _ _ _ _ _ _ _ _)
   | (with_reducible exact ih3 _ _ _ _ _ _)
   | (with_reducible exact spec_l1Num.mono _ _)
   | (with_reducible exact spec_l7Collapse.mono _ _ _ _ _)
   | (with_reducible exact spec_l7Cut.mono _ _)
   | (with_reducible exact spec_l7Page.mono _ _)
   | (with_reducible exact LeO.refl _)
   | (with_reducible exact LeO.none _)
   | (with_reducible refine LeO.ite ?_ ?_)
   | (with_reducible refine LeO.bind ?_ (fun _ => ?_))
   | exact ih0 _ _ _ _
   | exact ih1 _ _ _ _ _
   | exact ih2 _ _ _ _ _ _ _ _
   | exact ih3 _ _ _ _ _ _
   | exact spec_l1Num.mono _ _
   | exact spec_l7Collapse.mono _ _ _ _ _
   | exact spec_l7Cut.mono _ _
   | exact spec_l7Page.mono _ _
   | exact LeO.none _
   | refine LeO.ite ?_ ?_
   | refine LeO.bind ?_ (fun _ => ?_)
set_option maxHeartbeats 8000000 in
set_option maxRecDepth 100000 in
theorem spec_ExpandRange.calls (k : Nat) (a0 : ByteArray) (r1 : ByteArray) (r2 : Int) (r3 : Int) (r4 : Bool) (w : World) (h : spec_ExpandRange.f k a0 = some (r1, r2, r3, r4)) :
  Calls Tryz.prog 18 #[.string a0] w fun e w' => e = .returned (.tuple #[.agg #[.string r1, .int .i64 r2, .int .i64 r3], .bool r4]) ∧ Below w.heap.size w w' := by
 have hu34 := Tryz.underlying34
 have HB := Aside0.mk (Below.refl w.heap.size w)
 have H : ((spec_l7Cut.f k a0).bind fun bt384 => ((spec_l7Page.f k bt384.1).bind fun bt387 => (if bt387.2.2 = true then (if bt384.2.2 = true then ((spec_l1Num.f k bt387.2.1).bind fun t391 => (if bt387.1.toList = ([] : List UInt8) then (spec_ExpandRange.j0 k a0 bt384.2.1 t391 bt384.2.1 false bt387.1 bt387.2.1 bt387.2.1) else (if bt384.2.1.toList = ([] : List UInt8) then (spec_ExpandRange.j0 k a0 bt384.2.1 t391 bt384.2.1 false bt387.1 bt387.2.1 bt387.2.1) else (if 0 < (bt384.2.1.size : Int) then (if 0 < (bt387.1.size : Int) then (spec_ExpandRange.j0 k a0 bt384.2.1 t391 bt384.2.1 ((bt bt384.2.1 0) == (bt bt387.1 0)) bt387.1 bt387.2.1 bt387.2.1) else (none)) else (none))))) else (spec_ExpandRange.j2 k a0 bt387.1 bt387.2.1 bt387.2.1)) else (some ((⟨#[]⟩ : ByteArray), 0, 0, false))))) = some (r1, r2, r3, r4) := h
 clear h
 replace H := Option.bind_eq_some_iff.mp H
 obtain ⟨⟨t384, t385, t386⟩, A20, H⟩ := H
 replace H : ((spec_l7Page.f k t384).bind fun bt387 => (if bt387.2.2 = true then (if t386 = true then ((spec_l1Num.f k bt387.2.1).bind fun t391 => (if bt387.1.toList = ([] : List UInt8) then (spec_ExpandRange.j0 k a0 t385 t391 t385 false bt387.1 bt387.2.1 bt387.2.1) else (if t385.toList = ([] : List UInt8) then (spec_ExpandRange.j0 k a0 t385 t391 t385 false bt387.1 bt387.2.1 bt387.2.1) else (if 0 < (t385.size : Int) then (if 0 < (bt387.1.size : Int) then (spec_ExpandRange.j0 k a0 t385 t391 t385 ((bt t385 0) == (bt bt387.1 0)) bt387.1 bt387.2.1 bt387.2.1) else (none)) else (none))))) else (spec_ExpandRange.j2 k a0 bt387.1 bt387.2.1 bt387.2.1)) else (some ((⟨#[]⟩ : ByteArray), 0, 0, false)))) = some (r1, r2, r3, r4) := H
 have A2 := Aside0.mk A20
 clear A20
 replace H := Option.bind_eq_some_iff.mp H
 obtain ⟨⟨t387, t388, t389⟩, A30, H⟩ := H
 replace H : (if t389 = true then (if t386 = true then ((spec_l1Num.f k t388).bind fun t391 => (if t387.toList = ([] : List UInt8) then (spec_ExpandRange.j0 k a0 t385 t391 t385 false t387 t388 t388) else (if t385.toList = ([] : List UInt8) then (spec_ExpandRange.j0 k a0 t385 t391 t385 false t387 t388 t388) else (if 0 < (t385.size : Int) then (if 0 < (t387.size : Int) then (spec_ExpandRange.j0 k a0 t385 t391 t385 ((bt t385 0) == (bt t387 0)) t387 t388 t388) else (none)) else (none))))) else (spec_ExpandRange.j2 k a0 t387 t388 t388)) else (some ((⟨#[]⟩ : ByteArray), 0, 0, false))) = some (r1, r2, r3, r4) := H
 have A3 := Aside0.mk A30
 clear A30
 have HC4 := Aside0.mk H
 clear H
 go_enter Tryz.func18, Tryz.ntmps18
 go_upto_if 30 with (first | ((with_reducible refine gate_dst (N := 2) rfl ?_); refine box_event ?hg (N := 2) ?hd (cs := #[.string (⟨#[]⟩ : ByteArray), .int .i64 0, .int .i64 0]) (t := 34) ?hr ?_; (case hd => rfl); (case hg => rfl); (case hr => first | (go_simp; done) | (go_simp; rfl)); intro gb383 hg w5 hbox hb; have n0_ := Aside0.mk (below_step (by repeat (first | (with_reducible first | exact HB.out | apply below_alloc | apply pw_below_drewN | apply below_drew1) | exact HB.out)) hb); have n1_ := Aside0.mk (hbox); have n2_ := Aside0.mk ((by rw [hg]; exact (below_size (by repeat (first | (with_reducible first | exact HB.out | apply below_alloc | apply pw_below_drewN | apply below_drew1) | exact HB.out))) : w.heap.size ≤ gb383)); have n3_ := Aside0.mk ((by rw [hg]; exact (below_size (by repeat (first | (with_reducible first | exact HB.out | apply below_alloc | apply pw_below_drewN | apply below_drew1) | exact HB.out))) : w.heap.size ≤ gb383)); clear HB; have HB := n0_; have BK383 := n1_; have GW383 := n2_; have GE383 := n3_; clear n0_ n1_ n2_ n3_; clear hb hbox hg) | (go_at_call 32; (with_reducible refine (spec_l7Cut.calls k a0 t384 t385 t386 _ A2.out).mono ?_); rintro e w' ⟨rfl, ⟨nd, rfl⟩⟩; (try first | exact ⟨rfl, _, World.drewN_drewN _ _ _⟩ | exact ⟨rfl, _, Eq.trans (World.drewN_drewN _ _ _) (congrArg (World.drewN _) (Nat.add_assoc _ _ _))⟩)) | (go_at_call 33; (with_reducible refine (spec_l7Page.calls k t384 t387 t388 t389 _ A3.out).mono ?_); rintro e w6 ⟨rfl, hb⟩; have n0_ := Aside0.mk (blk_below (g := gb383) (o := .cells #[.string (⟨#[]⟩ : ByteArray), .int .i64 0, .int .i64 0] 34 (0, 0)) (by (with_reducible repeat (first | refine blk_drewN ?_ _ | refine blk_drew ?_ | refine blk_alloc ?_ _)); exact BK383.out) hb); have n1_ := Aside0.mk (below_step (by repeat (first | (with_reducible first | exact HB.out | apply below_alloc | apply pw_below_drewN | apply below_drew1 | refine below_set ?_ GE383.out) | exact HB.out)) hb); clear BK383; clear HB; have BK383 := n0_; have HB := n1_; clear n0_ n1_; (try clear hb); (try clear hb2); (try clear hk); (try clear hi)))
 repeat (go_quiet (first | ((with_reducible refine gate_dst (N := 2) rfl ?_); refine box_event ?hg (N := 2) ?hd (cs := #[.string (⟨#[]⟩ : ByteArray), .int .i64 0, .int .i64 0]) (t := 34) ?hr ?_; (case hd => rfl); (case hg => rfl); (case hr => first | (go_simp; done) | (go_simp; rfl)); intro gb383 hg w5 hbox hb; have n0_ := Aside0.mk (below_step (by repeat (first | (with_reducible first | exact HB.out | apply below_alloc | apply pw_below_drewN | apply below_drew1) | exact HB.out)) hb); have n1_ := Aside0.mk (hbox); have n2_ := Aside0.mk ((by rw [hg]; exact (below_size (by repeat (first | (with_reducible first | exact HB.out | apply below_alloc | apply pw_below_drewN | apply below_drew1) | exact HB.out))) : w.heap.size ≤ gb383)); have n3_ := Aside0.mk ((by rw [hg]; exact (below_size (by repeat (first | (with_reducible first | exact HB.out | apply below_alloc | apply pw_below_drewN | apply below_drew1) | exact HB.out))) : w.heap.size ≤ gb383)); clear HB; have HB := n0_; have BK383 := n1_; have GW383 := n2_; have GE383 := n3_; clear n0_ n1_ n2_ n3_; clear hb hbox hg) | (go_at_call 32; (with_reducible refine (spec_l7Cut.calls k a0 t384 t385 t386 _ A2.out).mono ?_); rintro e w' ⟨rfl, ⟨nd, rfl⟩⟩; (try first | exact ⟨rfl, _, World.drewN_drewN _ _ _⟩ | exact ⟨rfl, _, Eq.trans (World.drewN_drewN _ _ _) (congrArg (World.drewN _) (Nat.add_assoc _ _ _))⟩)) | (go_at_call 33; (with_reducible refine (spec_l7Page.calls k t384 t387 t388 t389 _ A3.out).mono ?_); rintro e w6 ⟨rfl, hb⟩; have n0_ := Aside0.mk (blk_below (g := gb383) (o := .cells #[.string (⟨#[]⟩ : ByteArray), .int .i64 0, .int .i64 0] 34 (0, 0)) (by (with_reducible repeat (first | refine blk_drewN ?_ _ | refine blk_drew ?_ | refine blk_alloc ?_ _)); exact BK383.out) hb); have n1_ := Aside0.mk (below_step (by repeat (first | (with_reducible first | exact HB.out | apply below_alloc | apply pw_below_drewN | apply below_drew1 | refine below_set ?_ GE383.out) | exact HB.out)) hb); clear BK383; clear HB; have BK383 := n0_; have HB := n1_; clear n0_ n1_; (try clear hb); (try clear hb2); (try clear hk); (try clear hi))); go_upto_if 30 with (first | ((with_reducible refine gate_dst (N := 2) rfl ?_); refine box_event ?hg (N := 2) ?hd (cs := #[.string (⟨#[]⟩ : ByteArray), .int .i64 0, .int .i64 0]) (t := 34) ?hr ?_; (case hd => rfl); (case hg => rfl); (case hr => first | (go_simp; done) | (go_simp; rfl)); intro gb383 hg w5 hbox hb; have n0_ := Aside0.mk (below_step (by repeat (first | (with_reducible first | exact HB.out | apply below_alloc | apply pw_below_drewN | apply below_drew1) | exact HB.out)) hb); have n1_ := Aside0.mk (hbox); have n2_ := Aside0.mk ((by rw [hg]; exact (below_size (by repeat (first | (with_reducible first | exact HB.out | apply below_alloc | apply pw_below_drewN | apply below_drew1) | exact HB.out))) : w.heap.size ≤ gb383)); have n3_ := Aside0.mk ((by rw [hg]; exact (below_size (by repeat (first | (with_reducible first | exact HB.out | apply below_alloc | apply pw_below_drewN | apply below_drew1) | exact HB.out))) : w.heap.size ≤ gb383)); clear HB; have HB := n0_; have BK383 := n1_; have GW383 := n2_; have GE383 := n3_; clear n0_ n1_ n2_ n3_; clear hb hbox hg) | (go_at_call 32; (with_reducible refine (spec_l7Cut.calls k a0 t384 t385 t386 _ A2.out).mono ?_); rintro e w' ⟨rfl, ⟨nd, rfl⟩⟩; (try first | exact ⟨rfl, _, World.drewN_drewN _ _ _⟩ | exact ⟨rfl, _, Eq.trans (World.drewN_drewN _ _ _) (congrArg (World.drewN _) (Nat.add_assoc _ _ _))⟩)) | (go_at_call 33; (with_reducible refine (spec_l7Page.calls k t384 t387 t388 t389 _ A3.out).mono ?_); rintro e w6 ⟨rfl, hb⟩; have n0_ := Aside0.mk (blk_below (g := gb383) (o := .cells #[.string (⟨#[]⟩ : ByteArray), .int .i64 0, .int .i64 0] 34 (0, 0)) (by (with_reducible repeat (first | refine blk_drewN ?_ _ | refine blk_drew ?_ | refine blk_alloc ?_ _)); exact BK383.out) hb); have n1_ := Aside0.mk (below_step (by repeat (first | (with_reducible first | exact HB.out | apply below_alloc | apply pw_below_drewN | apply below_drew1 | refine below_set ?_ GE383.out) | exact HB.out)) hb); clear BK383; clear HB; have BK383 := n0_; have HB := n1_; clear n0_ n1_; (try clear hb); (try clear hb2); (try clear hk); (try clear hi))))
 have H := HC4.out
 clear HC4
 by_cases c7 : t389 = true
 ·subst c7
  have H1 : (if t386 = true then ((spec_l1Num.f k t388).bind fun t391 => (if t387.toList = ([] : List UInt8) then (spec_ExpandRange.j0 k a0 t385 t391 t385 false t387 t388 t388) else (if t385.toList = ([] : List UInt8) then (spec_ExpandRange.j0 k a0 t385 t391 t385 false t387 t388 t388) else (if 0 < (t385.size : Int) then (if 0 < (t387.size : Int) then (spec_ExpandRange.j0 k a0 t385 t391 t385 ((bt t385 0) == (bt t387 0)) t387 t388 t388) else (none)) else (none))))) else (spec_ExpandRange.j2 k a0 t387 t388 t388)) = some (r1, r2, r3, r4) := by rw [if_pos rfl] at H; exact H
  clear H
  have H := H1
  clear H1
  have HC8 := Aside0.mk H
  clear H
  go_upto_if 36 with (first | ((with_reducible refine gate_dst (N := 10) rfl ?_); refine box_event ?hg (N := 10) ?hd (cs := #[.string (⟨#[]⟩ : ByteArray), .int .i64 0, .int .i64 0]) (t := 34) ?hr ?_; (case hd => rfl); (case hg => rfl); (case hr => first | (go_simp; done) | (go_simp; rfl)); intro gb390 hg w9 hbox hb; have n0_ := Aside0.mk (blk_below (g := gb383) (o := .cells #[.string (⟨#[]⟩ : ByteArray), .int .i64 0, .int .i64 0] 34 (0, 0)) (by (with_reducible repeat (first | refine blk_drewN ?_ _ | refine blk_drew ?_ | refine blk_alloc ?_ _)); exact BK383.out) hb); have n1_ := Aside0.mk (below_step (by repeat (first | (with_reducible first | exact HB.out | apply below_alloc | apply pw_below_drewN | apply below_drew1 | refine below_set ?_ GE383.out) | exact HB.out)) hb); have n2_ := Aside0.mk (hbox); have n3_ := Aside0.mk ((by rw [hg]; exact (below_size (by repeat (first | (with_reducible first | exact HB.out | apply below_alloc | apply pw_below_drewN | apply below_drew1 | refine below_set ?_ GE383.out) | exact HB.out))) : w.heap.size ≤ gb390)); have n4_ := Aside0.mk ((by rw [hg]; exact (below_size (by repeat (first | (with_reducible first | exact HB.out | apply below_alloc | apply pw_below_drewN | apply below_drew1 | refine below_set ?_ GE383.out) | exact HB.out))) : w.heap.size ≤ gb390)); have n5_ := Aside0.mk ((by rw [hg]; exact Nat.ne_of_lt (blk_lt (g := gb383) (o := .cells #[.string (⟨#[]⟩ : ByteArray), .int .i64 0, .int .i64 0] 34 (0, 0)) (by (with_reducible repeat (first | refine blk_drewN ?_ _ | refine blk_drew ?_ | refine blk_alloc ?_ _)); exact BK383.out)) : gb383 ≠ gb390)); have n6_ := Aside0.mk ((by rw [hg]; exact Nat.ne_of_gt (blk_lt (g := gb383) (o := .cells #[.string (⟨#[]⟩ : ByteArray), .int .i64 0, .int .i64 0] 34 (0, 0)) (by (with_reducible repeat (first | refine blk_drewN ?_ _ | refine blk_drew ?_ | refine blk_alloc ?_ _)); exact BK383.out)) : gb390 ≠ gb383)); clear BK383; clear HB; have BK383 := n0_; have HB := n1_; have BK390 := n2_; have GW390 := n3_; have GE390 := n4_; have NB383_390 := n5_; have NB390_383 := n6_; clear n0_ n1_ n2_ n3_ n4_ n5_ n6_; clear hb hbox hg; have hnb10 := NB390_383.out; have hnc10 := NB383_390.out; obtain ⟨hcz11_0, hcz11_1, hcz11_2⟩ := cells3 BK390.out; have hfz11_0 := blk_frozen BK390.out 0; have hfz11_1 := blk_frozen BK390.out 1; have hfz11_2 := blk_frozen BK390.out 2))
  repeat (go_quiet (first | ((with_reducible refine gate_dst (N := 10) rfl ?_); refine box_event ?hg (N := 10) ?hd (cs := #[.string (⟨#[]⟩ : ByteArray), .int .i64 0, .int .i64 0]) (t := 34) ?hr ?_; (case hd => rfl); (case hg => rfl); (case hr => first | (go_simp; done) | (go_simp; rfl)); intro gb390 hg w9 hbox hb; have n0_ := Aside0.mk (blk_below (g := gb383) (o := .cells #[.string (⟨#[]⟩ : ByteArray), .int .i64 0, .int .i64 0] 34 (0, 0)) (by (with_reducible repeat (first | refine blk_drewN ?_ _ | refine blk_drew ?_ | refine blk_alloc ?_ _)); exact BK383.out) hb); have n1_ := Aside0.mk (below_step (by repeat (first | (with_reducible first | exact HB.out | apply below_alloc | apply pw_below_drewN | apply below_drew1 | refine below_set ?_ GE383.out) | exact HB.out)) hb); have n2_ := Aside0.mk (hbox); have n3_ := Aside0.mk ((by rw [hg]; exact (below_size (by repeat (first | (with_reducible first | exact HB.out | apply below_alloc | apply pw_below_drewN | apply below_drew1 | refine below_set ?_ GE383.out) | exact HB.out))) : w.heap.size ≤ gb390)); have n4_ := Aside0.mk ((by rw [hg]; exact (below_size (by repeat (first | (with_reducible first | exact HB.out | apply below_alloc | apply pw_below_drewN | apply below_drew1 | refine below_set ?_ GE383.out) | exact HB.out))) : w.heap.size ≤ gb390)); have n5_ := Aside0.mk ((by rw [hg]; exact Nat.ne_of_lt (blk_lt (g := gb383) (o := .cells #[.string (⟨#[]⟩ : ByteArray), .int .i64 0, .int .i64 0] 34 (0, 0)) (by (with_reducible repeat (first | refine blk_drewN ?_ _ | refine blk_drew ?_ | refine blk_alloc ?_ _)); exact BK383.out)) : gb383 ≠ gb390)); have n6_ := Aside0.mk ((by rw [hg]; exact Nat.ne_of_gt (blk_lt (g := gb383) (o := .cells #[.string (⟨#[]⟩ : ByteArray), .int .i64 0, .int .i64 0] 34 (0, 0)) (by (with_reducible repeat (first | refine blk_drewN ?_ _ | refine blk_drew ?_ | refine blk_alloc ?_ _)); exact BK383.out)) : gb390 ≠ gb383)); clear BK383; clear HB; have BK383 := n0_; have HB := n1_; have BK390 := n2_; have GW390 := n3_; have GE390 := n4_; have NB383_390 := n5_; have NB390_383 := n6_; clear n0_ n1_ n2_ n3_ n4_ n5_ n6_; clear hb hbox hg; have hnb10 := NB390_383.out; have hnc10 := NB383_390.out; obtain ⟨hcz11_0, hcz11_1, hcz11_2⟩ := cells3 BK390.out; have hfz11_0 := blk_frozen BK390.out 0; have hfz11_1 := blk_frozen BK390.out 1; have hfz11_2 := blk_frozen BK390.out 2)); go_upto_if 36 with (first | ((with_reducible refine gate_dst (N := 10) rfl ?_); refine box_event ?hg (N := 10) ?hd (cs := #[.string (⟨#[]⟩ : ByteArray), .int .i64 0, .int .i64 0]) (t := 34) ?hr ?_; (case hd => rfl); (case hg => rfl); (case hr => first | (go_simp; done) | (go_simp; rfl)); intro gb390 hg w9 hbox hb; have n0_ := Aside0.mk (blk_below (g := gb383) (o := .cells #[.string (⟨#[]⟩ : ByteArray), .int .i64 0, .int .i64 0] 34 (0, 0)) (by (with_reducible repeat (first | refine blk_drewN ?_ _ | refine blk_drew ?_ | refine blk_alloc ?_ _)); exact BK383.out) hb); have n1_ := Aside0.mk (below_step (by repeat (first | (with_reducible first | exact HB.out | apply below_alloc | apply pw_below_drewN | apply below_drew1 | refine below_set ?_ GE383.out) | exact HB.out)) hb); have n2_ := Aside0.mk (hbox); have n3_ := Aside0.mk ((by rw [hg]; exact (below_size (by repeat (first | (with_reducible first | exact HB.out | apply below_alloc | apply pw_below_drewN | apply below_drew1 | refine below_set ?_ GE383.out) | exact HB.out))) : w.heap.size ≤ gb390)); have n4_ := Aside0.mk ((by rw [hg]; exact (below_size (by repeat (first | (with_reducible first | exact HB.out | apply below_alloc | apply pw_below_drewN | apply below_drew1 | refine below_set ?_ GE383.out) | exact HB.out))) : w.heap.size ≤ gb390)); have n5_ := Aside0.mk ((by rw [hg]; exact Nat.ne_of_lt (blk_lt (g := gb383) (o := .cells #[.string (⟨#[]⟩ : ByteArray), .int .i64 0, .int .i64 0] 34 (0, 0)) (by (with_reducible repeat (first | refine blk_drewN ?_ _ | refine blk_drew ?_ | refine blk_alloc ?_ _)); exact BK383.out)) : gb383 ≠ gb390)); have n6_ := Aside0.mk ((by rw [hg]; exact Nat.ne_of_gt (blk_lt (g := gb383) (o := .cells #[.string (⟨#[]⟩ : ByteArray), .int .i64 0, .int .i64 0] 34 (0, 0)) (by (with_reducible repeat (first | refine blk_drewN ?_ _ | refine blk_drew ?_ | refine blk_alloc ?_ _)); exact BK383.out)) : gb390 ≠ gb383)); clear BK383; clear HB; have BK383 := n0_; have HB := n1_; have BK390 := n2_; have GW390 := n3_; have GE390 := n4_; have NB383_390 := n5_; have NB390_383 := n6_; clear n0_ n1_ n2_ n3_ n4_ n5_ n6_; clear hb hbox hg; have hnb10 := NB390_383.out; have hnc10 := NB383_390.out; obtain ⟨hcz11_0, hcz11_1, hcz11_2⟩ := cells3 BK390.out; have hfz11_0 := blk_frozen BK390.out 0; have hfz11_1 := blk_frozen BK390.out 1; have hfz11_2 := blk_frozen BK390.out 2)))
  (try simp only [Act.put, List.setIfInBounds_toArray, List.set_cons_zero, List.set_cons_succ])
  go_cut [] (fun wc => ∃ (kq : Nat) (x384000_7 : ByteArray) (x384001_7 : Int) (x384002_7 : Int) (x391002_7 : Int), Aside0 (spec_ExpandRange.j2 kq a0 t387 t388 x391002_7 = some (r1, r2, r3, r4)) ∧ Aside0 (kq ≤ k) ∧ Aside0 (wc.heap[gb383]? = some (.cells #[.string x384000_7, .int .i64 x384001_7, .int .i64 x384002_7] 34 (0, 0))) ∧ Aside0 (wc.heap[gb390]? = some (.cells #[.string t387, .int .i64 t388, .int .i64 x391002_7] 34 (0, 0))) ∧ Aside0 (Below w.heap.size w wc))
  case first =>
   have H := HC8.out
   clear HC8
   by_cases c12 : t386 = true
   ·subst c12
    have H1 : ((spec_l1Num.f k t388).bind fun t391 => (if t387.toList = ([] : List UInt8) then (spec_ExpandRange.j0 k a0 t385 t391 t385 false t387 t388 t388) else (if t385.toList = ([] : List UInt8) then (spec_ExpandRange.j0 k a0 t385 t391 t385 false t387 t388 t388) else (if 0 < (t385.size : Int) then (if 0 < (t387.size : Int) then (spec_ExpandRange.j0 k a0 t385 t391 t385 ((bt t385 0) == (bt t387 0)) t387 t388 t388) else (none)) else (none))))) = some (r1, r2, r3, r4) := by rw [if_pos rfl] at H; exact H
    clear H
    have H := H1
    clear H1
    replace H := Option.bind_eq_some_iff.mp H
    obtain ⟨t391, A130, H⟩ := H
    replace H : (if t387.toList = ([] : List UInt8) then (spec_ExpandRange.j0 k a0 t385 t391 t385 false t387 t388 t388) else (if t385.toList = ([] : List UInt8) then (spec_ExpandRange.j0 k a0 t385 t391 t385 false t387 t388 t388) else (if 0 < (t385.size : Int) then (if 0 < (t387.size : Int) then (spec_ExpandRange.j0 k a0 t385 t391 t385 ((bt t385 0) == (bt t387 0)) t387 t388 t388) else (none)) else (none)))) = some (r1, r2, r3, r4) := H
    have A13 := Aside0.mk A130
    clear A130
    have HC14 := Aside0.mk H
    clear H
    go_upto_region 9 with (first | (go_at_call 46; (with_reducible refine (spec_l1Num.calls k t388 t391 _ A13.out).mono ?_); rintro e w15 ⟨rfl, hb⟩; have n0_ := Aside0.mk (blk_below (g := gb383) (o := .cells #[.string (⟨#[]⟩ : ByteArray), .int .i64 0, .int .i64 0] 34 (0, 0)) (by (with_reducible repeat (first | refine blk_drewN ?_ _ | refine blk_drew ?_ | refine blk_alloc ?_ _)); refine blk_far ?_ NB383_390.out _; (with_reducible repeat (first | refine blk_drewN ?_ _ | refine blk_drew ?_ | refine blk_alloc ?_ _)); refine blk_far ?_ NB383_390.out _; (with_reducible repeat (first | refine blk_drewN ?_ _ | refine blk_drew ?_ | refine blk_alloc ?_ _)); refine blk_far ?_ NB383_390.out _; (with_reducible repeat (first | refine blk_drewN ?_ _ | refine blk_drew ?_ | refine blk_alloc ?_ _)); exact BK383.out) hb); have n1_ := Aside0.mk (blk_below (g := gb390) (o := .cells #[.string t387, .int .i64 t388, .int .i64 t388] 34 (0, 0)) (by (with_reducible repeat (first | refine blk_drewN ?_ _ | refine blk_drew ?_ | refine blk_alloc ?_ _)); refine blk_put (cs := #[.string t387, .int .i64 t388, .int .i64 0]) ?_ 2 _ rfl; (with_reducible repeat (first | refine blk_drewN ?_ _ | refine blk_drew ?_ | refine blk_alloc ?_ _)); refine blk_put (cs := #[.string t387, .int .i64 0, .int .i64 0]) ?_ 1 _ rfl; (with_reducible repeat (first | refine blk_drewN ?_ _ | refine blk_drew ?_ | refine blk_alloc ?_ _)); refine blk_put (cs := #[.string (⟨#[]⟩ : ByteArray), .int .i64 0, .int .i64 0]) ?_ 0 _ rfl; (with_reducible repeat (first | refine blk_drewN ?_ _ | refine blk_drew ?_ | refine blk_alloc ?_ _)); exact BK390.out) hb); have n2_ := Aside0.mk (below_step (by repeat (first | (with_reducible first | exact HB.out | apply below_alloc | apply pw_below_drewN | apply below_drew1 | refine below_set ?_ GE383.out | refine below_set ?_ GE390.out) | exact HB.out)) hb); clear BK383; clear BK390; clear HB; have BK383 := n0_; have BK390 := n1_; have HB := n2_; clear n0_ n1_ n2_; (try clear hb); (try clear hb2); (try clear hk); (try clear hi)))
    repeat (go_quiet (first | (go_at_call 46; (with_reducible refine (spec_l1Num.calls k t388 t391 _ A13.out).mono ?_); rintro e w15 ⟨rfl, hb⟩; have n0_ := Aside0.mk (blk_below (g := gb383) (o := .cells #[.string (⟨#[]⟩ : ByteArray), .int .i64 0, .int .i64 0] 34 (0, 0)) (by (with_reducible repeat (first | refine blk_drewN ?_ _ | refine blk_drew ?_ | refine blk_alloc ?_ _)); refine blk_far ?_ NB383_390.out _; (with_reducible repeat (first | refine blk_drewN ?_ _ | refine blk_drew ?_ | refine blk_alloc ?_ _)); refine blk_far ?_ NB383_390.out _; (with_reducible repeat (first | refine blk_drewN ?_ _ | refine blk_drew ?_ | refine blk_alloc ?_ _)); refine blk_far ?_ NB383_390.out _; (with_reducible repeat (first | refine blk_drewN ?_ _ | refine blk_drew ?_ | refine blk_alloc ?_ _)); exact BK383.out) hb); have n1_ := Aside0.mk (blk_below (g := gb390) (o := .cells #[.string t387, .int .i64 t388, .int .i64 t388] 34 (0, 0)) (by (with_reducible repeat (first | refine blk_drewN ?_ _ | refine blk_drew ?_ | refine blk_alloc ?_ _)); refine blk_put (cs := #[.string t387, .int .i64 t388, .int .i64 0]) ?_ 2 _ rfl; (with_reducible repeat (first | refine blk_drewN ?_ _ | refine blk_drew ?_ | refine blk_alloc ?_ _)); refine blk_put (cs := #[.string t387, .int .i64 0, .int .i64 0]) ?_ 1 _ rfl; (with_reducible repeat (first | refine blk_drewN ?_ _ | refine blk_drew ?_ | refine blk_alloc ?_ _)); refine blk_put (cs := #[.string (⟨#[]⟩ : ByteArray), .int .i64 0, .int .i64 0]) ?_ 0 _ rfl; (with_reducible repeat (first | refine blk_drewN ?_ _ | refine blk_drew ?_ | refine blk_alloc ?_ _)); exact BK390.out) hb); have n2_ := Aside0.mk (below_step (by repeat (first | (with_reducible first | exact HB.out | apply below_alloc | apply pw_below_drewN | apply below_drew1 | refine below_set ?_ GE383.out | refine below_set ?_ GE390.out) | exact HB.out)) hb); clear BK383; clear BK390; clear HB; have BK383 := n0_; have BK390 := n1_; have HB := n2_; clear n0_ n1_ n2_; (try clear hb); (try clear hb2); (try clear hk); (try clear hi))); go_upto_region 9 with (first | (go_at_call 46; (with_reducible refine (spec_l1Num.calls k t388 t391 _ A13.out).mono ?_); rintro e w15 ⟨rfl, hb⟩; have n0_ := Aside0.mk (blk_below (g := gb383) (o := .cells #[.string (⟨#[]⟩ : ByteArray), .int .i64 0, .int .i64 0] 34 (0, 0)) (by (with_reducible repeat (first | refine blk_drewN ?_ _ | refine blk_drew ?_ | refine blk_alloc ?_ _)); refine blk_far ?_ NB383_390.out _; (with_reducible repeat (first | refine blk_drewN ?_ _ | refine blk_drew ?_ | refine blk_alloc ?_ _)); refine blk_far ?_ NB383_390.out _; (with_reducible repeat (first | refine blk_drewN ?_ _ | refine blk_drew ?_ | refine blk_alloc ?_ _)); refine blk_far ?_ NB383_390.out _; (with_reducible repeat (first | refine blk_drewN ?_ _ | refine blk_drew ?_ | refine blk_alloc ?_ _)); exact BK383.out) hb); have n1_ := Aside0.mk (blk_below (g := gb390) (o := .cells #[.string t387, .int .i64 t388, .int .i64 t388] 34 (0, 0)) (by (with_reducible repeat (first | refine blk_drewN ?_ _ | refine blk_drew ?_ | refine blk_alloc ?_ _)); refine blk_put (cs := #[.string t387, .int .i64 t388, .int .i64 0]) ?_ 2 _ rfl; (with_reducible repeat (first | refine blk_drewN ?_ _ | refine blk_drew ?_ | refine blk_alloc ?_ _)); refine blk_put (cs := #[.string t387, .int .i64 0, .int .i64 0]) ?_ 1 _ rfl; (with_reducible repeat (first | refine blk_drewN ?_ _ | refine blk_drew ?_ | refine blk_alloc ?_ _)); refine blk_put (cs := #[.string (⟨#[]⟩ : ByteArray), .int .i64 0, .int .i64 0]) ?_ 0 _ rfl; (with_reducible repeat (first | refine blk_drewN ?_ _ | refine blk_drew ?_ | refine blk_alloc ?_ _)); exact BK390.out) hb); have n2_ := Aside0.mk (below_step (by repeat (first | (with_reducible first | exact HB.out | apply below_alloc | apply pw_below_drewN | apply below_drew1 | refine below_set ?_ GE383.out | refine below_set ?_ GE390.out) | exact HB.out)) hb); clear BK383; clear BK390; clear HB; have BK383 := n0_; have BK390 := n1_; have HB := n2_; clear n0_ n1_ n2_; (try clear hb); (try clear hb2); (try clear hk); (try clear hi))))
    (try simp only [Act.put, List.setIfInBounds_toArray, List.set_cons_zero, List.set_cons_succ])
    go_cut [52] (fun v52 wc => ∃ (kq : Nat) (x52_13 : Bool), v52 = .bool x52_13 ∧ Aside0 (spec_ExpandRange.j0 kq a0 t385 t391 t385 x52_13 t387 t388 t388 = some (r1, r2, r3, r4)) ∧ Aside0 (kq ≤ k) ∧ Aside0 (wc.heap[gb383]? = some (.cells #[.string (⟨#[]⟩ : ByteArray), .int .i64 0, .int .i64 0] 34 (0, 0))) ∧ Aside0 (wc.heap[gb390]? = some (.cells #[.string t387, .int .i64 t388, .int .i64 t388] 34 (0, 0))) ∧ Aside0 (Below w.heap.size w wc))
    case first =>
     have H := HC14.out
     clear HC14
     by_cases c16 : t387.toList = ([] : List UInt8)
     ·rw [if_pos c16] at H
      have c16b0 : (t387.toList == ([] : List UInt8)) = true := beq_iff_eq.mpr c16
      have c16b1 : (t387.toList != ([] : List UInt8)) = false := bne_eq_false_iff_eq.mpr c16
      clear c16
      (first | rw [c16b0] | rw [c16b1] | rw [c16b2] | (simp only [i64_w, i32_w]; rw [c16b0]) | skip)
      have H' := Aside0.mk H
      clear H
      go_wp2
      repeat (go_quiet (fail); try go_wp2)
      go_meet
      case rel => exact ⟨_, (false), (by first | rfl | (simp; done) | (simp [*]; done)), H', ⟨by first | omega | exact Nat.le_refl _⟩, ⟨by (with_reducible repeat (first | refine blk_drewN ?_ _ | refine blk_drew ?_ | refine blk_alloc ?_ _)); exact BK383.out⟩, ⟨by (with_reducible repeat (first | refine blk_drewN ?_ _ | refine blk_drew ?_ | refine blk_alloc ?_ _)); exact BK390.out⟩, ⟨by repeat (first | (with_reducible first | exact HB.out | apply below_alloc | apply pw_below_drewN | apply below_drew1 | refine below_set ?_ GE383.out | refine below_set ?_ GE390.out) | exact HB.out)⟩⟩
     ·rw [if_neg c16] at H
      have c16b0 : (t387.toList == ([] : List UInt8)) = false := beq_eq_false_iff_ne.mpr c16
      have c16b1 : (t387.toList != ([] : List UInt8)) = true := bne_iff_ne.mpr c16
      (first | rw [c16b0] | rw [c16b1] | rw [c16b2] | (simp only [i64_w, i32_w]; rw [c16b0]) | skip)
      by_cases c17 : t385.toList = ([] : List UInt8)
      ·rw [if_pos c17] at H
       have c17b0 : (t385.toList == ([] : List UInt8)) = true := beq_iff_eq.mpr c17
       have c17b1 : (t385.toList != ([] : List UInt8)) = false := bne_eq_false_iff_eq.mpr c17
       clear c17
       have H' := Aside0.mk H
       clear H
       go_wp2
       repeat (go_quiet (fail); try go_wp2)
       go_meet
       case rel => exact ⟨_, (false), (by first | rfl | (simp; done) | (simp [*]; done)), H', ⟨by first | omega | exact Nat.le_refl _⟩, ⟨by (with_reducible repeat (first | refine blk_drewN ?_ _ | refine blk_drew ?_ | refine blk_alloc ?_ _)); exact BK383.out⟩, ⟨by (with_reducible repeat (first | refine blk_drewN ?_ _ | refine blk_drew ?_ | refine blk_alloc ?_ _)); exact BK390.out⟩, ⟨by repeat (first | (with_reducible first | exact HB.out | apply below_alloc | apply pw_below_drewN | apply below_drew1 | refine below_set ?_ GE383.out | refine below_set ?_ GE390.out) | exact HB.out)⟩⟩
      ·rw [if_neg c17] at H
       have c17b0 : (t385.toList == ([] : List UInt8)) = false := beq_eq_false_iff_ne.mpr c17
       have c17b1 : (t385.toList != ([] : List UInt8)) = true := bne_iff_ne.mpr c17
       by_cases c18 : 0 < (t385.size : Int)
       ·rw [if_pos c18] at H
        have c18b0 : decide (0 < (t385.size : Int)) = true := decide_eq_true c18
        have c18b1 : decide (0 < t385.size) = true := decide_eq_true (by omega)
        clear c18
        by_cases c20 : 0 < (t387.size : Int)
        ·rw [if_pos c20] at H
         have c20b0 : decide (0 < (t387.size : Int)) = true := decide_eq_true c20
         have c20b1 : decide (0 < t387.size) = true := decide_eq_true (by omega)
         clear c20
         have H' := Aside0.mk H
         clear H
         have p19 : 0 ≤ (0 : Int) := (by omega)
         have q19 : 0 < t385.size := (by have : (0 : Int) < (t385.size : Int) := of_decide_eq_true (by first | (with_reducible assumption) | assumption); omega)
         have hx19 : ∀ h : 0 < t385.size, ((t385[0]'h).toNat : Int) = bt t385 0 := bt_at t385 0
         clear p19
         have qi19 : (0 < (t385.size : Int)) = True := eq_true (of_decide_eq_true (by first | (with_reducible assumption) | assumption))
         replace q19 := eq_true q19
         have p21 : 0 ≤ (0 : Int) := (by omega)
         have q21 : 0 < t387.size := (by have : (0 : Int) < (t387.size : Int) := of_decide_eq_true (by first | (with_reducible assumption) | assumption); omega)
         have hx21 : ∀ h : 0 < t387.size, ((t387[0]'h).toNat : Int) = bt t387 0 := bt_at t387 0
         clear p21
         have qi21 : (0 < (t387.size : Int)) = True := eq_true (of_decide_eq_true (by first | (with_reducible assumption) | assumption))
         replace q21 := eq_true q21
         go_wp2
         repeat (go_quiet (fail); try go_wp2)
         go_meet
         case rel => exact ⟨_, (((bt t385 0) == (bt t387 0))), (by first | rfl | (simp; done) | (simp [*]; done)), H', ⟨by first | omega | exact Nat.le_refl _⟩, ⟨by (with_reducible repeat (first | refine blk_drewN ?_ _ | refine blk_drew ?_ | refine blk_alloc ?_ _)); exact BK383.out⟩, ⟨by (with_reducible repeat (first | refine blk_drewN ?_ _ | refine blk_drew ?_ | refine blk_alloc ?_ _)); exact BK390.out⟩, ⟨by repeat (first | (with_reducible first | exact HB.out | apply below_alloc | apply pw_below_drewN | apply below_drew1 | refine below_set ?_ GE383.out | refine below_set ?_ GE390.out) | exact HB.out)⟩⟩
        ·rw [if_neg c20] at H
         exact absurd H (by simp)
       ·rw [if_neg c18] at H
        exact absurd H (by simp)
    case rest =>
     clear HC14
     try clear c1
     try clear p1
     try clear q1
     try clear hx1
     try clear qi1
     try clear c2
     try clear p2
     try clear q2
     try clear hx2
     try clear qi2
     try clear c7
     try clear c10
     try clear c12
     try clear c16
     try clear c16b0
     try clear c16b1
     try clear c16b2
     try clear c17
     try clear c17b0
     try clear c17b1
     try clear c18
     try clear c18b0
     try clear c18b1
     try clear p19
     try clear q19
     try clear hx19
     try clear qi19
     try clear c20
     try clear c20b0
     try clear c20b1
     try clear p21
     try clear q21
     try clear hx21
     try clear qi21
     try clear hcz11_0
     try clear hcz11_1
     try clear hcz11_2
     try clear hfz11_0
     try clear hfz11_1
     try clear hfz11_2
     try clear p19
     try clear p21
     try clear q19
     try clear q21
     obtain ⟨kq, x52_13, rfl, HA, HJ13, BK383, BK390, HB⟩ := hcut
     cases kq with
     | zero => exact absurd HA.out (by simp [spec_ExpandRange.j0])
     | succ kj13 =>
      have H := HA.out
      clear HA
      simp only [spec_ExpandRange.j0] at H
      have HC22 := Aside0.mk H
      clear H
      go_upto_if 52 with (fail)
      repeat (go_quiet (fail); go_upto_if 52 with (fail))
      go_cut [12] (fun v12 wc => ∃ (kq : Nat) (x12_21 : ByteArray), v12 = .string x12_21 ∧ Aside0 (spec_ExpandRange.j1 kq a0 t391 x12_21 t387 t388 t388 = some (r1, r2, r3, r4)) ∧ Aside0 (kq ≤ kj13) ∧ Aside0 (wc.heap[gb383]? = some (.cells #[.string (⟨#[]⟩ : ByteArray), .int .i64 0, .int .i64 0] 34 (0, 0))) ∧ Aside0 (wc.heap[gb390]? = some (.cells #[.string t387, .int .i64 t388, .int .i64 t388] 34 (0, 0))) ∧ Aside0 (Below w.heap.size w wc))
      case first =>
       have H := HC22.out
       clear HC22
       by_cases c23 : x52_13 = true
       ·subst c23
        have H1 : (if 1 ≤ (t385.size : Int) then (spec_ExpandRange.j1 kj13 a0 t391 (t385.extract 1 t385.size) t387 t388 t388) else (none)) = some (r1, r2, r3, r4) := by rw [if_pos rfl] at H; exact H
        clear H
        have H := H1
        clear H1
        by_cases c24 : 1 ≤ (t385.size : Int)
        ·rw [if_pos c24] at H
         have c24b0 := eq_true c24
         have c24b1 : decide (1 ≤ (t385.size : Int)) = true := decide_eq_true c24
         clear c24
         have H' := Aside0.mk H
         clear H
         go_wp2
         repeat (go_quiet (fail); try go_wp2)
         go_meet
         case rel => exact ⟨_, (t385.extract 1 t385.size), (by first | rfl | (simp; done) | (simp [*]; done)), H', ⟨by have := HJ13.out; first | omega | exact Nat.le_refl _⟩, ⟨by (with_reducible repeat (first | refine blk_drewN ?_ _ | refine blk_drew ?_ | refine blk_alloc ?_ _)); exact BK383.out⟩, ⟨by (with_reducible repeat (first | refine blk_drewN ?_ _ | refine blk_drew ?_ | refine blk_alloc ?_ _)); exact BK390.out⟩, ⟨by repeat (first | (with_reducible first | exact HB.out | apply below_alloc | apply pw_below_drewN | apply below_drew1 | refine below_set ?_ GE383.out | refine below_set ?_ GE390.out) | exact HB.out)⟩⟩
        ·rw [if_neg c24] at H
         exact absurd H (by simp)
       ·replace c23 := Bool.eq_false_iff.mpr c23
        subst c23
        have H1 : (spec_ExpandRange.j1 kj13 a0 t391 t385 t387 t388 t388) = some (r1, r2, r3, r4) := by rw [if_neg (show ¬ (false = true) by decide)] at H; exact H
        clear H
        have H := H1
        clear H1
        have H' := Aside0.mk H
        clear H
        go_wp2
        repeat (go_quiet (fail); try go_wp2)
        go_meet
        case rel => exact ⟨_, (t385), (by first | rfl | (simp; done) | (simp [*]; done)), H', ⟨by have := HJ13.out; first | omega | exact Nat.le_refl _⟩, ⟨by (with_reducible repeat (first | refine blk_drewN ?_ _ | refine blk_drew ?_ | refine blk_alloc ?_ _)); exact BK383.out⟩, ⟨by (with_reducible repeat (first | refine blk_drewN ?_ _ | refine blk_drew ?_ | refine blk_alloc ?_ _)); exact BK390.out⟩, ⟨by repeat (first | (with_reducible first | exact HB.out | apply below_alloc | apply pw_below_drewN | apply below_drew1 | refine below_set ?_ GE383.out | refine below_set ?_ GE390.out) | exact HB.out)⟩⟩
      case rest =>
       clear HC22
       try clear c1
       try clear p1
       try clear q1
       try clear hx1
       try clear qi1
       try clear c2
       try clear p2
       try clear q2
       try clear hx2
       try clear qi2
       try clear c7
       try clear c10
       try clear c12
       try clear c16
       try clear c16b0
       try clear c16b1
       try clear c16b2
       try clear c17
       try clear c17b0
       try clear c17b1
       try clear c18
       try clear c18b0
       try clear c18b1
       try clear p19
       try clear q19
       try clear hx19
       try clear qi19
       try clear c20
       try clear c20b0
       try clear c20b1
       try clear p21
       try clear q21
       try clear hx21
       try clear qi21
       try clear c23
       try clear c24
       try clear c24b0
       try clear c24b1
       try clear hcz11_0
       try clear hcz11_1
       try clear hcz11_2
       try clear hfz11_0
       try clear hfz11_1
       try clear hfz11_2
       try clear p1
       try clear p19
       try clear p2
       try clear p21
       try clear q1
       try clear q19
       try clear q2
       try clear q21
       obtain ⟨kq, x12_21, rfl, HA, HJ21, BK383, BK390, HB⟩ := hcut
       cases kq with
       | zero => exact absurd HA.out (by simp [spec_ExpandRange.j1])
       | succ kj21 =>
        have H := HA.out
        clear HA
        simp only [spec_ExpandRange.j1] at H
        by_cases c25 : (x12_21.size : Int) < (t391.size : Int)
        ·rw [if_pos c25] at H
         have c25b0 : decide ((x12_21.size : Int) < (t391.size : Int)) = true := decide_eq_true c25
         have c25b1 : decide (x12_21.size < t391.size) = true := decide_eq_true (Int.ofNat_lt.mp c25)
         clear c25
         obtain ⟨ji26, hji26⟩ : ∃ j_ : Int, (wrap64 ((t391.size : Int) - (x12_21.size : Int))) = j_ := ⟨_, rfl⟩
         replace H : (if 0 ≤ (ji26) then (if (ji26) ≤ (t391.size : Int) then (if (t391.extract 0 ((ji26) : Int).toNat).size + x12_21.size ≤ 9223372036854775807 then ((spec_l7Page.f kj21 ((t391.extract 0 ((ji26) : Int).toNat) ++ x12_21)).bind fun bt392 => (if bt392.2.2 = true then (spec_ExpandRange.j2 kj21 a0 t387 t388 bt392.2.1) else (some ((⟨#[]⟩ : ByteArray), 0, 0, false)))) else (none)) else (none)) else (none)) = some (r1, r2, r3, r4) := by first | (rw [hji26] at H; exact H) | (simp only [hji26] at H ⊢; exact H)
         have hji26w : (IntKind.i64.wrap ((t391.size : Int) - (x12_21.size : Int))) = ji26 := (i64_w _).trans hji26
         by_cases c27 : 0 ≤ (ji26)
         ·rw [if_pos c27] at H
          have c27b0 := eq_true c27
          have c27b1 : decide (0 ≤ (ji26)) = true := decide_eq_true c27
          clear c27
          by_cases c28 : (ji26) ≤ (t391.size : Int)
          ·rw [if_pos c28] at H
           have c28b0 := eq_true c28
           have c28b1 : decide ((ji26) ≤ (t391.size : Int)) = true := decide_eq_true c28
           clear c28
           by_cases c29 : (t391.extract 0 ((ji26) : Int).toNat).size + x12_21.size ≤ 9223372036854775807
           ·rw [if_pos c29] at H
            have c29b0 := eq_true c29
            have c29b1 : decide ((t391.extract 0 ((ji26) : Int).toNat).size + x12_21.size ≤ 9223372036854775807) = true := decide_eq_true c29
            try have c29b2 : (9223372036854775807 < (t391.extract 0 ((ji26) : Int).toNat).size + x12_21.size) = False := eq_false (Nat.not_lt.2 c29)
            try have c29b3 : (9223372036854775807 < ((ji26) : Int).toNat + x12_21.size) = False := eq_false (by have h_ := c29; simp only [ByteArray.size_append, ByteArray.size_extract] at h_; (try have q0_ := of_eq_true c25b0); (try have q2_ := of_eq_true c27b0); (try have q4_ := of_eq_true c28b0); omega)
            replace H := Option.bind_eq_some_iff.mp H
            obtain ⟨⟨t392, t393, t394⟩, A300, H⟩ := H
            replace H : (if t394 = true then (spec_ExpandRange.j2 kj21 a0 t387 t388 t393) else (some ((⟨#[]⟩ : ByteArray), 0, 0, false))) = some (r1, r2, r3, r4) := H
            have A30 := Aside0.mk A300
            clear A300
            have HC31 := Aside0.mk H
            clear H
            go_upto_if 78 with (first | (go_at_call 33; (with_reducible refine (spec_l7Page.calls kj21 ((t391.extract 0 ((ji26) : Int).toNat) ++ x12_21) t392 t393 t394 _ A30.out).mono ?_); rintro e w32 ⟨rfl, hb⟩; have n0_ := Aside0.mk (blk_below (g := gb383) (o := .cells #[.string (⟨#[]⟩ : ByteArray), .int .i64 0, .int .i64 0] 34 (0, 0)) (by (with_reducible repeat (first | refine blk_drewN ?_ _ | refine blk_drew ?_ | refine blk_alloc ?_ _)); exact BK383.out) hb); have n1_ := Aside0.mk (blk_below (g := gb390) (o := .cells #[.string t387, .int .i64 t388, .int .i64 t388] 34 (0, 0)) (by (with_reducible repeat (first | refine blk_drewN ?_ _ | refine blk_drew ?_ | refine blk_alloc ?_ _)); exact BK390.out) hb); have n2_ := Aside0.mk (below_step (by repeat (first | (with_reducible first | exact HB.out | apply below_alloc | apply pw_below_drewN | apply below_drew1 | refine below_set ?_ GE383.out | refine below_set ?_ GE390.out) | exact HB.out)) hb); clear BK383; clear BK390; clear HB; have BK383 := n0_; have BK390 := n1_; have HB := n2_; clear n0_ n1_ n2_; (try clear hb); (try clear hb2); (try clear hk); (try clear hi); have hnb33 := NB390_383.out; have hnc33 := NB383_390.out; obtain ⟨hcz34_0, hcz34_1, hcz34_2⟩ := cells3 BK390.out; have hfz34_0 := blk_frozen BK390.out 0; have hfz34_1 := blk_frozen BK390.out 1; have hfz34_2 := blk_frozen BK390.out 2))
            repeat (go_quiet (first | (go_at_call 33; (with_reducible refine (spec_l7Page.calls kj21 ((t391.extract 0 ((ji26) : Int).toNat) ++ x12_21) t392 t393 t394 _ A30.out).mono ?_); rintro e w32 ⟨rfl, hb⟩; have n0_ := Aside0.mk (blk_below (g := gb383) (o := .cells #[.string (⟨#[]⟩ : ByteArray), .int .i64 0, .int .i64 0] 34 (0, 0)) (by (with_reducible repeat (first | refine blk_drewN ?_ _ | refine blk_drew ?_ | refine blk_alloc ?_ _)); exact BK383.out) hb); have n1_ := Aside0.mk (blk_below (g := gb390) (o := .cells #[.string t387, .int .i64 t388, .int .i64 t388] 34 (0, 0)) (by (with_reducible repeat (first | refine blk_drewN ?_ _ | refine blk_drew ?_ | refine blk_alloc ?_ _)); exact BK390.out) hb); have n2_ := Aside0.mk (below_step (by repeat (first | (with_reducible first | exact HB.out | apply below_alloc | apply pw_below_drewN | apply below_drew1 | refine below_set ?_ GE383.out | refine below_set ?_ GE390.out) | exact HB.out)) hb); clear BK383; clear BK390; clear HB; have BK383 := n0_; have BK390 := n1_; have HB := n2_; clear n0_ n1_ n2_; (try clear hb); (try clear hb2); (try clear hk); (try clear hi); have hnb33 := NB390_383.out; have hnc33 := NB383_390.out; obtain ⟨hcz34_0, hcz34_1, hcz34_2⟩ := cells3 BK390.out; have hfz34_0 := blk_frozen BK390.out 0; have hfz34_1 := blk_frozen BK390.out 1; have hfz34_2 := blk_frozen BK390.out 2)); go_upto_if 78 with (first | (go_at_call 33; (with_reducible refine (spec_l7Page.calls kj21 ((t391.extract 0 ((ji26) : Int).toNat) ++ x12_21) t392 t393 t394 _ A30.out).mono ?_); rintro e w32 ⟨rfl, hb⟩; have n0_ := Aside0.mk (blk_below (g := gb383) (o := .cells #[.string (⟨#[]⟩ : ByteArray), .int .i64 0, .int .i64 0] 34 (0, 0)) (by (with_reducible repeat (first | refine blk_drewN ?_ _ | refine blk_drew ?_ | refine blk_alloc ?_ _)); exact BK383.out) hb); have n1_ := Aside0.mk (blk_below (g := gb390) (o := .cells #[.string t387, .int .i64 t388, .int .i64 t388] 34 (0, 0)) (by (with_reducible repeat (first | refine blk_drewN ?_ _ | refine blk_drew ?_ | refine blk_alloc ?_ _)); exact BK390.out) hb); have n2_ := Aside0.mk (below_step (by repeat (first | (with_reducible first | exact HB.out | apply below_alloc | apply pw_below_drewN | apply below_drew1 | refine below_set ?_ GE383.out | refine below_set ?_ GE390.out) | exact HB.out)) hb); clear BK383; clear BK390; clear HB; have BK383 := n0_; have BK390 := n1_; have HB := n2_; clear n0_ n1_ n2_; (try clear hb); (try clear hb2); (try clear hk); (try clear hi); have hnb33 := NB390_383.out; have hnc33 := NB383_390.out; obtain ⟨hcz34_0, hcz34_1, hcz34_2⟩ := cells3 BK390.out; have hfz34_0 := blk_frozen BK390.out 0; have hfz34_1 := blk_frozen BK390.out 1; have hfz34_2 := blk_frozen BK390.out 2)))
            have H := HC31.out
            clear HC31
            by_cases c35 : t394 = true
            ·subst c35
             have H1 : (spec_ExpandRange.j2 kj21 a0 t387 t388 t393) = some (r1, r2, r3, r4) := by rw [if_pos rfl] at H; exact H
             clear H
             have H := H1
             clear H1
             have H' := Aside0.mk H
             clear H
             go_wp2
             repeat (go_quiet (fail); try go_wp2)
             go_meet
             case rel => exact ⟨_, ((⟨#[]⟩ : ByteArray)), (0), (0), (t393), H', ⟨by have := HJ13.out; have := HJ21.out; first | omega | exact Nat.le_refl _⟩, ⟨by (with_reducible repeat (first | refine blk_drewN ?_ _ | refine blk_drew ?_ | refine blk_alloc ?_ _)); refine blk_far ?_ NB383_390.out _; (with_reducible repeat (first | refine blk_drewN ?_ _ | refine blk_drew ?_ | refine blk_alloc ?_ _)); exact BK383.out⟩, ⟨by (with_reducible repeat (first | refine blk_drewN ?_ _ | refine blk_drew ?_ | refine blk_alloc ?_ _)); refine blk_put (cs := #[.string t387, .int .i64 t388, .int .i64 t388]) ?_ 2 _ rfl; (with_reducible repeat (first | refine blk_drewN ?_ _ | refine blk_drew ?_ | refine blk_alloc ?_ _)); exact BK390.out⟩, ⟨by repeat (first | (with_reducible first | exact HB.out | apply below_alloc | apply pw_below_drewN | apply below_drew1 | refine below_set ?_ GE383.out | refine below_set ?_ GE390.out) | exact HB.out)⟩⟩
            ·replace c35 := Bool.eq_false_iff.mpr c35
             subst c35
             have H1 : (some ((⟨#[]⟩ : ByteArray), 0, 0, false)) = some (r1, r2, r3, r4) := by rw [if_neg (show ¬ (false = true) by decide)] at H; exact H
             clear H
             have H := H1
             clear H1
             simp only [Option.some.injEq, Prod.mk.injEq] at H
             obtain ⟨rfl, rfl, rfl, rfl⟩ := H
             have hnb36 := NB383_390.out
             have hnc36 := NB390_383.out
             obtain ⟨hcz37_0, hcz37_1, hcz37_2⟩ := cells3 BK383.out
             have hfz37_0 := blk_frozen BK383.out 0
             have hfz37_1 := blk_frozen BK383.out 1
             have hfz37_2 := blk_frozen BK383.out 2
             go_wp2
             repeat (go_quiet (fail); try go_wp2)
             refine bodyPost_ret (results_ct rfl _ _ gb383 34 #[.string (⟨#[]⟩ : ByteArray), .int .i64 0, .int .i64 0] (0, 0) _ rfl (by (with_reducible repeat (first | refine blk_drewN ?_ _ | refine blk_drew ?_ | refine blk_alloc ?_ _)); refine blk_put (cs := #[.string (⟨#[]⟩ : ByteArray), .int .i64 0, .int .i64 0]) ?_ 2 _ rfl; (with_reducible repeat (first | refine blk_drewN ?_ _ | refine blk_drew ?_ | refine blk_alloc ?_ _)); refine blk_put (cs := #[.string (⟨#[]⟩ : ByteArray), .int .i64 0, .int .i64 0]) ?_ 1 _ rfl; (with_reducible repeat (first | refine blk_drewN ?_ _ | refine blk_drew ?_ | refine blk_alloc ?_ _)); refine blk_put (cs := #[.string (⟨#[]⟩ : ByteArray), .int .i64 0, .int .i64 0]) ?_ 0 _ rfl; (with_reducible repeat (first | refine blk_drewN ?_ _ | refine blk_drew ?_ | refine blk_alloc ?_ _)); refine blk_far ?_ NB383_390.out _; (with_reducible repeat (first | refine blk_drewN ?_ _ | refine blk_drew ?_ | refine blk_alloc ?_ _)); exact BK383.out) Tryz.underlying34 rfl (by kernel_rfl)) rfl ?_
             exact ⟨by first | rfl | (simp [errW_none, errW_some] <;> rfl) | (simp only [← hji26]; first | rfl | (simp [errW_none, errW_some] <;> rfl)) | (simp [*, errW_none, errW_some] <;> rfl) | (simp [errW_none, errW_some] <;> (apply Bool.eq_iff_iff.2; simp [List.isEmpty_iff])), by repeat (first | (with_reducible first | exact HB.out | apply below_alloc | apply pw_below_drewN | apply below_drew1 | refine below_set ?_ GE383.out | refine below_set ?_ GE390.out) | exact HB.out)⟩
           ·rw [if_neg c29] at H
            exact absurd H (by simp)
          ·rw [if_neg c28] at H
           exact absurd H (by simp)
         ·rw [if_neg c27] at H
          exact absurd H (by simp)
        ·rw [if_neg c25] at H
         have c25b0 : decide ((x12_21.size : Int) < (t391.size : Int)) = false := decide_eq_false c25
         have c25b1 : decide (x12_21.size < t391.size) = false := decide_eq_false (fun h => c25 (Int.ofNat_lt.mpr h))
         clear c25
         replace H := Option.bind_eq_some_iff.mp H
         obtain ⟨⟨t395, t396, t397⟩, A380, H⟩ := H
         replace H : (if t397 = true then (spec_ExpandRange.j2 kj21 a0 t387 t388 t396) else (some ((⟨#[]⟩ : ByteArray), 0, 0, false))) = some (r1, r2, r3, r4) := H
         have A38 := Aside0.mk A380
         clear A380
         have HC39 := Aside0.mk H
         clear H
         go_upto_if 78 with (first | (go_at_call 33; (with_reducible refine (spec_l7Page.calls kj21 x12_21 t395 t396 t397 _ A38.out).mono ?_); rintro e w40 ⟨rfl, hb⟩; have n0_ := Aside0.mk (blk_below (g := gb383) (o := .cells #[.string (⟨#[]⟩ : ByteArray), .int .i64 0, .int .i64 0] 34 (0, 0)) (by (with_reducible repeat (first | refine blk_drewN ?_ _ | refine blk_drew ?_ | refine blk_alloc ?_ _)); exact BK383.out) hb); have n1_ := Aside0.mk (blk_below (g := gb390) (o := .cells #[.string t387, .int .i64 t388, .int .i64 t388] 34 (0, 0)) (by (with_reducible repeat (first | refine blk_drewN ?_ _ | refine blk_drew ?_ | refine blk_alloc ?_ _)); exact BK390.out) hb); have n2_ := Aside0.mk (below_step (by repeat (first | (with_reducible first | exact HB.out | apply below_alloc | apply pw_below_drewN | apply below_drew1 | refine below_set ?_ GE383.out | refine below_set ?_ GE390.out) | exact HB.out)) hb); clear BK383; clear BK390; clear HB; have BK383 := n0_; have BK390 := n1_; have HB := n2_; clear n0_ n1_ n2_; (try clear hb); (try clear hb2); (try clear hk); (try clear hi); have hnb41 := NB390_383.out; have hnc41 := NB383_390.out; obtain ⟨hcz42_0, hcz42_1, hcz42_2⟩ := cells3 BK390.out; have hfz42_0 := blk_frozen BK390.out 0; have hfz42_1 := blk_frozen BK390.out 1; have hfz42_2 := blk_frozen BK390.out 2))
         repeat (go_quiet (first | (go_at_call 33; (with_reducible refine (spec_l7Page.calls kj21 x12_21 t395 t396 t397 _ A38.out).mono ?_); rintro e w40 ⟨rfl, hb⟩; have n0_ := Aside0.mk (blk_below (g := gb383) (o := .cells #[.string (⟨#[]⟩ : ByteArray), .int .i64 0, .int .i64 0] 34 (0, 0)) (by (with_reducible repeat (first | refine blk_drewN ?_ _ | refine blk_drew ?_ | refine blk_alloc ?_ _)); exact BK383.out) hb); have n1_ := Aside0.mk (blk_below (g := gb390) (o := .cells #[.string t387, .int .i64 t388, .int .i64 t388] 34 (0, 0)) (by (with_reducible repeat (first | refine blk_drewN ?_ _ | refine blk_drew ?_ | refine blk_alloc ?_ _)); exact BK390.out) hb); have n2_ := Aside0.mk (below_step (by repeat (first | (with_reducible first | exact HB.out | apply below_alloc | apply pw_below_drewN | apply below_drew1 | refine below_set ?_ GE383.out | refine below_set ?_ GE390.out) | exact HB.out)) hb); clear BK383; clear BK390; clear HB; have BK383 := n0_; have BK390 := n1_; have HB := n2_; clear n0_ n1_ n2_; (try clear hb); (try clear hb2); (try clear hk); (try clear hi); have hnb41 := NB390_383.out; have hnc41 := NB383_390.out; obtain ⟨hcz42_0, hcz42_1, hcz42_2⟩ := cells3 BK390.out; have hfz42_0 := blk_frozen BK390.out 0; have hfz42_1 := blk_frozen BK390.out 1; have hfz42_2 := blk_frozen BK390.out 2)); go_upto_if 78 with (first | (go_at_call 33; (with_reducible refine (spec_l7Page.calls kj21 x12_21 t395 t396 t397 _ A38.out).mono ?_); rintro e w40 ⟨rfl, hb⟩; have n0_ := Aside0.mk (blk_below (g := gb383) (o := .cells #[.string (⟨#[]⟩ : ByteArray), .int .i64 0, .int .i64 0] 34 (0, 0)) (by (with_reducible repeat (first | refine blk_drewN ?_ _ | refine blk_drew ?_ | refine blk_alloc ?_ _)); exact BK383.out) hb); have n1_ := Aside0.mk (blk_below (g := gb390) (o := .cells #[.string t387, .int .i64 t388, .int .i64 t388] 34 (0, 0)) (by (with_reducible repeat (first | refine blk_drewN ?_ _ | refine blk_drew ?_ | refine blk_alloc ?_ _)); exact BK390.out) hb); have n2_ := Aside0.mk (below_step (by repeat (first | (with_reducible first | exact HB.out | apply below_alloc | apply pw_below_drewN | apply below_drew1 | refine below_set ?_ GE383.out | refine below_set ?_ GE390.out) | exact HB.out)) hb); clear BK383; clear BK390; clear HB; have BK383 := n0_; have BK390 := n1_; have HB := n2_; clear n0_ n1_ n2_; (try clear hb); (try clear hb2); (try clear hk); (try clear hi); have hnb41 := NB390_383.out; have hnc41 := NB383_390.out; obtain ⟨hcz42_0, hcz42_1, hcz42_2⟩ := cells3 BK390.out; have hfz42_0 := blk_frozen BK390.out 0; have hfz42_1 := blk_frozen BK390.out 1; have hfz42_2 := blk_frozen BK390.out 2)))
         have H := HC39.out
         clear HC39
         by_cases c43 : t397 = true
         ·subst c43
          have H1 : (spec_ExpandRange.j2 kj21 a0 t387 t388 t396) = some (r1, r2, r3, r4) := by rw [if_pos rfl] at H; exact H
          clear H
          have H := H1
          clear H1
          have H' := Aside0.mk H
          clear H
          go_wp2
          repeat (go_quiet (fail); try go_wp2)
          go_meet
          case rel => exact ⟨_, ((⟨#[]⟩ : ByteArray)), (0), (0), (t396), H', ⟨by have := HJ13.out; have := HJ21.out; first | omega | exact Nat.le_refl _⟩, ⟨by (with_reducible repeat (first | refine blk_drewN ?_ _ | refine blk_drew ?_ | refine blk_alloc ?_ _)); refine blk_far ?_ NB383_390.out _; (with_reducible repeat (first | refine blk_drewN ?_ _ | refine blk_drew ?_ | refine blk_alloc ?_ _)); exact BK383.out⟩, ⟨by (with_reducible repeat (first | refine blk_drewN ?_ _ | refine blk_drew ?_ | refine blk_alloc ?_ _)); refine blk_put (cs := #[.string t387, .int .i64 t388, .int .i64 t388]) ?_ 2 _ rfl; (with_reducible repeat (first | refine blk_drewN ?_ _ | refine blk_drew ?_ | refine blk_alloc ?_ _)); exact BK390.out⟩, ⟨by repeat (first | (with_reducible first | exact HB.out | apply below_alloc | apply pw_below_drewN | apply below_drew1 | refine below_set ?_ GE383.out | refine below_set ?_ GE390.out) | exact HB.out)⟩⟩
         ·replace c43 := Bool.eq_false_iff.mpr c43
          subst c43
          have H1 : (some ((⟨#[]⟩ : ByteArray), 0, 0, false)) = some (r1, r2, r3, r4) := by rw [if_neg (show ¬ (false = true) by decide)] at H; exact H
          clear H
          have H := H1
          clear H1
          simp only [Option.some.injEq, Prod.mk.injEq] at H
          obtain ⟨rfl, rfl, rfl, rfl⟩ := H
          have hnb44 := NB383_390.out
          have hnc44 := NB390_383.out
          obtain ⟨hcz45_0, hcz45_1, hcz45_2⟩ := cells3 BK383.out
          have hfz45_0 := blk_frozen BK383.out 0
          have hfz45_1 := blk_frozen BK383.out 1
          have hfz45_2 := blk_frozen BK383.out 2
          go_wp2
          repeat (go_quiet (fail); try go_wp2)
          refine bodyPost_ret (results_ct rfl _ _ gb383 34 #[.string (⟨#[]⟩ : ByteArray), .int .i64 0, .int .i64 0] (0, 0) _ rfl (by (with_reducible repeat (first | refine blk_drewN ?_ _ | refine blk_drew ?_ | refine blk_alloc ?_ _)); refine blk_put (cs := #[.string (⟨#[]⟩ : ByteArray), .int .i64 0, .int .i64 0]) ?_ 2 _ rfl; (with_reducible repeat (first | refine blk_drewN ?_ _ | refine blk_drew ?_ | refine blk_alloc ?_ _)); refine blk_put (cs := #[.string (⟨#[]⟩ : ByteArray), .int .i64 0, .int .i64 0]) ?_ 1 _ rfl; (with_reducible repeat (first | refine blk_drewN ?_ _ | refine blk_drew ?_ | refine blk_alloc ?_ _)); refine blk_put (cs := #[.string (⟨#[]⟩ : ByteArray), .int .i64 0, .int .i64 0]) ?_ 0 _ rfl; (with_reducible repeat (first | refine blk_drewN ?_ _ | refine blk_drew ?_ | refine blk_alloc ?_ _)); refine blk_far ?_ NB383_390.out _; (with_reducible repeat (first | refine blk_drewN ?_ _ | refine blk_drew ?_ | refine blk_alloc ?_ _)); exact BK383.out) Tryz.underlying34 rfl (by kernel_rfl)) rfl ?_
          exact ⟨by first | rfl | (simp [errW_none, errW_some] <;> rfl) | (simp [*, errW_none, errW_some] <;> rfl) | (simp [errW_none, errW_some] <;> (apply Bool.eq_iff_iff.2; simp [List.isEmpty_iff])), by repeat (first | (with_reducible first | exact HB.out | apply below_alloc | apply pw_below_drewN | apply below_drew1 | refine below_set ?_ GE383.out | refine below_set ?_ GE390.out) | exact HB.out)⟩
   ·replace c12 := Bool.eq_false_iff.mpr c12
    subst c12
    have H1 : (spec_ExpandRange.j2 k a0 t387 t388 t388) = some (r1, r2, r3, r4) := by rw [if_neg (show ¬ (false = true) by decide)] at H; exact H
    clear H
    have H := H1
    clear H1
    have H' := Aside0.mk H
    clear H
    go_wp2
    repeat (go_quiet (fail); try go_wp2)
    go_meet
    case rel => exact ⟨_, ((⟨#[]⟩ : ByteArray)), (0), (0), (t388), H', ⟨by first | omega | exact Nat.le_refl _⟩, ⟨by (with_reducible repeat (first | refine blk_drewN ?_ _ | refine blk_drew ?_ | refine blk_alloc ?_ _)); refine blk_far ?_ NB383_390.out _; (with_reducible repeat (first | refine blk_drewN ?_ _ | refine blk_drew ?_ | refine blk_alloc ?_ _)); refine blk_far ?_ NB383_390.out _; (with_reducible repeat (first | refine blk_drewN ?_ _ | refine blk_drew ?_ | refine blk_alloc ?_ _)); refine blk_far ?_ NB383_390.out _; (with_reducible repeat (first | refine blk_drewN ?_ _ | refine blk_drew ?_ | refine blk_alloc ?_ _)); exact BK383.out⟩, ⟨by (with_reducible repeat (first | refine blk_drewN ?_ _ | refine blk_drew ?_ | refine blk_alloc ?_ _)); refine blk_put (cs := #[.string t387, .int .i64 t388, .int .i64 0]) ?_ 2 _ rfl; (with_reducible repeat (first | refine blk_drewN ?_ _ | refine blk_drew ?_ | refine blk_alloc ?_ _)); refine blk_put (cs := #[.string t387, .int .i64 0, .int .i64 0]) ?_ 1 _ rfl; (with_reducible repeat (first | refine blk_drewN ?_ _ | refine blk_drew ?_ | refine blk_alloc ?_ _)); refine blk_put (cs := #[.string (⟨#[]⟩ : ByteArray), .int .i64 0, .int .i64 0]) ?_ 0 _ rfl; (with_reducible repeat (first | refine blk_drewN ?_ _ | refine blk_drew ?_ | refine blk_alloc ?_ _)); exact BK390.out⟩, ⟨by repeat (first | (with_reducible first | exact HB.out | apply below_alloc | apply pw_below_drewN | apply below_drew1 | refine below_set ?_ GE383.out | refine below_set ?_ GE390.out) | exact HB.out)⟩⟩
  case rest =>
   clear HC8
   try clear c1
   try clear p1
   try clear q1
   try clear hx1
   try clear qi1
   try clear c2
   try clear p2
   try clear q2
   try clear hx2
   try clear qi2
   try clear c3
   try clear c4
   try clear q4
   try clear p6
   try clear c7
   try clear c10
   try clear c12
   try clear c16
   try clear c16b0
   try clear c16b1
   try clear c16b2
   try clear c17
   try clear c17b0
   try clear c17b1
   try clear c18
   try clear c18b0
   try clear c18b1
   try clear p19
   try clear q19
   try clear hx19
   try clear qi19
   try clear c20
   try clear c20b0
   try clear c20b1
   try clear p21
   try clear q21
   try clear hx21
   try clear qi21
   try clear c23
   try clear c24
   try clear c24b0
   try clear c24b1
   try clear c25
   try clear c25b0
   try clear c25b1
   try clear c27
   try clear c27b0
   try clear c27b1
   try clear c28
   try clear c28b0
   try clear c28b1
   try clear c29
   try clear c29b0
   try clear c29b1
   try clear c29b2
   try clear c33
   try clear c35
   try clear c36
   try clear c41
   try clear c43
   try clear c44
   try clear hcz11_0
   try clear hcz11_1
   try clear hcz11_2
   try clear hcz34_0
   try clear hcz34_1
   try clear hcz34_2
   try clear hcz37_0
   try clear hcz37_1
   try clear hcz37_2
   try clear hcz42_0
   try clear hcz42_1
   try clear hcz42_2
   try clear hcz45_0
   try clear hcz45_1
   try clear hcz45_2
   try clear hfz11_0
   try clear hfz11_1
   try clear hfz11_2
   try clear hfz34_0
   try clear hfz34_1
   try clear hfz34_2
   try clear hfz37_0
   try clear hfz37_1
   try clear hfz37_2
   try clear hfz42_0
   try clear hfz42_1
   try clear hfz42_2
   try clear hfz45_0
   try clear hfz45_1
   try clear hfz45_2
   try clear p1
   try clear p19
   try clear p2
   try clear p21
   try clear q1
   try clear q19
   try clear q2
   try clear q21
   obtain ⟨kq, x384000_7, x384001_7, x384002_7, x391002_7, HA, HJ7, BK383, BK390, HB⟩ := hcut
   cases kq with
   | zero => exact absurd HA.out (by simp [spec_ExpandRange.j2])
   | succ kj7 =>
    have H := HA.out
    clear HA
    simp only [spec_ExpandRange.j2] at H
    replace H := Option.bind_eq_some_iff.mp H
    obtain ⟨t398, A460, H⟩ := H
    replace H : (if t398 = true then (spec_ExpandRange.l0 kj7 a0 1 t387 t388 x391002_7) else (some ((⟨#[]⟩ : ByteArray), 0, 0, false))) = some (r1, r2, r3, r4) := H
    have A46 := Aside0.mk A460
    clear A460
    by_cases c47 : t398 = true
    ·subst c47
     have H1 : (spec_ExpandRange.l0 kj7 a0 1 t387 t388 x391002_7) = some (r1, r2, r3, r4) := by rw [if_pos rfl] at H; exact H
     clear H
     have H := H1
     clear H1
     have H' := Aside0.mk H
     clear H
     have hnb48 := NB390_383.out
     have hnc48 := NB383_390.out
     obtain ⟨hcz49_0, hcz49_1, hcz49_2⟩ := cells3 BK390.out
     have hfz49_0 := blk_frozen BK390.out 0
     have hfz49_1 := blk_frozen BK390.out 1
     have hfz49_2 := blk_frozen BK390.out 2
     go_wp2_with (first | (go_at_call 39; (with_reducible refine (spec_l7Range.calls t387 t388 x391002_7 true _ A46.out).mono ?_); rintro e w50 ⟨rfl, hb⟩; have n0_ := Aside0.mk (blk_below (g := gb383) (o := .cells #[.string x384000_7, .int .i64 x384001_7, .int .i64 x384002_7] 34 (0, 0)) (by (with_reducible repeat (first | refine blk_drewN ?_ _ | refine blk_drew ?_ | refine blk_alloc ?_ _)); exact BK383.out) hb); have n1_ := Aside0.mk (blk_below (g := gb390) (o := .cells #[.string t387, .int .i64 t388, .int .i64 x391002_7] 34 (0, 0)) (by (with_reducible repeat (first | refine blk_drewN ?_ _ | refine blk_drew ?_ | refine blk_alloc ?_ _)); exact BK390.out) hb); have n2_ := Aside0.mk (below_step (by repeat (first | (with_reducible first | exact HB.out | apply below_alloc | apply pw_below_drewN | apply below_drew1 | refine below_set ?_ GE383.out | refine below_set ?_ GE390.out) | exact HB.out)) hb); clear BK383; clear BK390; clear HB; have BK383 := n0_; have BK390 := n1_; have HB := n2_; clear n0_ n1_ n2_; (try clear hb); (try clear hb2); (try clear hk); (try clear hi)))
     repeat (go_quiet (first | (go_at_call 39; (with_reducible refine (spec_l7Range.calls t387 t388 x391002_7 true _ A46.out).mono ?_); rintro e w50 ⟨rfl, hb⟩; have n0_ := Aside0.mk (blk_below (g := gb383) (o := .cells #[.string x384000_7, .int .i64 x384001_7, .int .i64 x384002_7] 34 (0, 0)) (by (with_reducible repeat (first | refine blk_drewN ?_ _ | refine blk_drew ?_ | refine blk_alloc ?_ _)); exact BK383.out) hb); have n1_ := Aside0.mk (blk_below (g := gb390) (o := .cells #[.string t387, .int .i64 t388, .int .i64 x391002_7] 34 (0, 0)) (by (with_reducible repeat (first | refine blk_drewN ?_ _ | refine blk_drew ?_ | refine blk_alloc ?_ _)); exact BK390.out) hb); have n2_ := Aside0.mk (below_step (by repeat (first | (with_reducible first | exact HB.out | apply below_alloc | apply pw_below_drewN | apply below_drew1 | refine below_set ?_ GE383.out | refine below_set ?_ GE390.out) | exact HB.out)) hb); clear BK383; clear BK390; clear HB; have BK383 := n0_; have BK390 := n1_; have HB := n2_; clear n0_ n1_ n2_; (try clear hb); (try clear hb2); (try clear hk); (try clear hi))); try go_wp2_with (first | (go_at_call 39; (with_reducible refine (spec_l7Range.calls t387 t388 x391002_7 true _ A46.out).mono ?_); rintro e w50 ⟨rfl, hb⟩; have n0_ := Aside0.mk (blk_below (g := gb383) (o := .cells #[.string x384000_7, .int .i64 x384001_7, .int .i64 x384002_7] 34 (0, 0)) (by (with_reducible repeat (first | refine blk_drewN ?_ _ | refine blk_drew ?_ | refine blk_alloc ?_ _)); exact BK383.out) hb); have n1_ := Aside0.mk (blk_below (g := gb390) (o := .cells #[.string t387, .int .i64 t388, .int .i64 x391002_7] 34 (0, 0)) (by (with_reducible repeat (first | refine blk_drewN ?_ _ | refine blk_drew ?_ | refine blk_alloc ?_ _)); exact BK390.out) hb); have n2_ := Aside0.mk (below_step (by repeat (first | (with_reducible first | exact HB.out | apply below_alloc | apply pw_below_drewN | apply below_drew1 | refine below_set ?_ GE383.out | refine below_set ?_ GE390.out) | exact HB.out)) hb); clear BK383; clear BK390; clear HB; have BK383 := n0_; have BK390 := n1_; have HB := n2_; clear n0_ n1_ n2_; (try clear hb); (try clear hb2); (try clear hk); (try clear hi))))
     go_loopg [16] kj7 (fun kq v16 w' => ∃ (x16_2 : Int) (x384000_2 : ByteArray) (x384001_2 : Int) (x384002_2 : Int), v16 = .int .i64 x16_2 ∧ Aside0 (spec_ExpandRange.l0 kq a0 x16_2 t387 t388 x391002_7 = some (r1, r2, r3, r4)) ∧ Aside0 (kq ≤ kj7) ∧ Aside0 (w'.heap[gb383]? = some (.cells #[.string x384000_2, .int .i64 x384001_2, .int .i64 x384002_2] 34 (0, 0))) ∧ Aside0 (w'.heap[gb390]? = some (.cells #[.string t387, .int .i64 t388, .int .i64 x391002_7] 34 (0, 0))) ∧ Aside0 (Below w.heap.size w w'))
     case atStart => exact ⟨(1), (x384000_7), (x384001_7), (x384002_7), (by first | rfl | (simp; done) | (simp [*]; done)), H', ⟨Nat.le_refl _⟩, ⟨by (with_reducible repeat (first | refine blk_drewN ?_ _ | refine blk_drew ?_ | refine blk_alloc ?_ _)); exact BK383.out⟩, ⟨by (with_reducible repeat (first | refine blk_drewN ?_ _ | refine blk_drew ?_ | refine blk_alloc ?_ _)); exact BK390.out⟩, ⟨by repeat (first | (with_reducible first | exact HB.out | apply below_alloc | apply pw_below_drewN | apply below_drew1 | refine below_set ?_ GE383.out | refine below_set ?_ GE390.out) | exact HB.out)⟩⟩
     case round =>
      clear H'
      try clear c1
      try clear p1
      try clear q1
      try clear hx1
      try clear qi1
      try clear c2
      try clear p2
      try clear q2
      try clear hx2
      try clear qi2
      try clear c3
      try clear c4
      try clear q4
      try clear p6
      try clear c7
      try clear c10
      try clear c12
      try clear c16
      try clear c16b0
      try clear c16b1
      try clear c16b2
      try clear c17
      try clear c17b0
      try clear c17b1
      try clear c18
      try clear c18b0
      try clear c18b1
      try clear p19
      try clear q19
      try clear hx19
      try clear qi19
      try clear c20
      try clear c20b0
      try clear c20b1
      try clear p21
      try clear q21
      try clear hx21
      try clear qi21
      try clear c23
      try clear c24
      try clear c24b0
      try clear c24b1
      try clear c25
      try clear c25b0
      try clear c25b1
      try clear c27
      try clear c27b0
      try clear c27b1
      try clear c28
      try clear c28b0
      try clear c28b1
      try clear c29
      try clear c29b0
      try clear c29b1
      try clear c29b2
      try clear c33
      try clear c35
      try clear c36
      try clear c41
      try clear c43
      try clear c44
      try clear c47
      try clear c48
      try clear hcz11_0
      try clear hcz11_1
      try clear hcz11_2
      try clear hcz34_0
      try clear hcz34_1
      try clear hcz34_2
      try clear hcz37_0
      try clear hcz37_1
      try clear hcz37_2
      try clear hcz42_0
      try clear hcz42_1
      try clear hcz42_2
      try clear hcz45_0
      try clear hcz45_1
      try clear hcz45_2
      try clear hcz49_0
      try clear hcz49_1
      try clear hcz49_2
      try clear hfz11_0
      try clear hfz11_1
      try clear hfz11_2
      try clear hfz34_0
      try clear hfz34_1
      try clear hfz34_2
      try clear hfz37_0
      try clear hfz37_1
      try clear hfz37_2
      try clear hfz42_0
      try clear hfz42_1
      try clear hfz42_2
      try clear hfz45_0
      try clear hfz45_1
      try clear hfz45_2
      try clear hfz49_0
      try clear hfz49_1
      try clear hfz49_2
      try clear p1
      try clear p19
      try clear p2
      try clear p21
      try clear p6
      try clear q1
      try clear q19
      try clear q2
      try clear q21
      try clear q4
      obtain ⟨x16_2, x384000_2, x384001_2, x384002_2, rfl, HA, HK2, BK383, BK390, HB⟩ := hrel
      cases gk with
      | zero => exact absurd HA.out (by simp [spec_ExpandRange.l0])
      | succ k2 =>
       have H := HA.out
       clear HA
       simp only [spec_ExpandRange.l0] at H
       by_cases c51 : x16_2 ≤ 3
       ·rw [if_pos c51] at H
        have c51b0 : decide (x16_2 ≤ 3) = true := decide_eq_true c51
        clear c51
        replace H := Option.bind_eq_some_iff.mp H
        obtain ⟨t399, A520, H⟩ := H
        replace H : (if t399.toList = a0.toList then (some (t387, t388, x391002_7, true)) else (spec_ExpandRange.l0 k2 a0 (wrap64 (x16_2 + 1)) t387 t388 x391002_7)) = some (r1, r2, r3, r4) := H
        have A52 := Aside0.mk A520
        clear A520
        by_cases c53 : t399.toList = a0.toList
        ·rw [if_pos c53] at H
         have c53b0 : (t399.toList == a0.toList) = true := beq_iff_eq.mpr c53
         have c53b1 : (t399.toList != a0.toList) = false := bne_eq_false_iff_eq.mpr c53
         clear c53
         simp only [Option.some.injEq, Prod.mk.injEq] at H
         obtain ⟨rfl, rfl, rfl, rfl⟩ := H
         have hnb54 := NB390_383.out
         have hnc54 := NB383_390.out
         obtain ⟨hcz55_0, hcz55_1, hcz55_2⟩ := cells3 BK390.out
         have hfz55_0 := blk_frozen BK390.out 0
         have hfz55_1 := blk_frozen BK390.out 1
         have hfz55_2 := blk_frozen BK390.out 2
         go_wp2_with (first | (go_at_call 41; (with_reducible refine (spec_l7Collapse.calls k2 t387 t388 x391002_7 x16_2 t399 _ A52.out).mono ?_); rintro e w56 ⟨rfl, hb⟩; have n0_ := Aside0.mk (blk_below (g := gb383) (o := .cells #[.string x384000_2, .int .i64 x384001_2, .int .i64 x384002_2] 34 (0, 0)) (by (with_reducible repeat (first | refine blk_drewN ?_ _ | refine blk_drew ?_ | refine blk_alloc ?_ _)); exact BK383.out) hb); have n1_ := Aside0.mk (blk_below (g := gb390) (o := .cells #[.string t387, .int .i64 t388, .int .i64 x391002_7] 34 (0, 0)) (by (with_reducible repeat (first | refine blk_drewN ?_ _ | refine blk_drew ?_ | refine blk_alloc ?_ _)); exact BK390.out) hb); have n2_ := Aside0.mk (below_step (by repeat (first | (with_reducible first | exact HB.out | apply below_alloc | apply pw_below_drewN | apply below_drew1 | refine below_set ?_ GE383.out | refine below_set ?_ GE390.out) | exact HB.out)) hb); clear BK383; clear BK390; clear HB; have BK383 := n0_; have BK390 := n1_; have HB := n2_; clear n0_ n1_ n2_; (try clear hb); (try clear hb2); (try clear hk); (try clear hi); obtain ⟨hcz57_0, hcz57_1, hcz57_2⟩ := cells3 BK390.out; have hfz57_0 := blk_frozen BK390.out 0; have hfz57_1 := blk_frozen BK390.out 1; have hfz57_2 := blk_frozen BK390.out 2; obtain ⟨hcz58_0, hcz58_1, hcz58_2⟩ := cells3 BK383.out; have hfz58_0 := blk_frozen BK383.out 0; have hfz58_1 := blk_frozen BK383.out 1; have hfz58_2 := blk_frozen BK383.out 2))
         repeat (go_quiet (first | (go_at_call 41; (with_reducible refine (spec_l7Collapse.calls k2 t387 t388 x391002_7 x16_2 t399 _ A52.out).mono ?_); rintro e w56 ⟨rfl, hb⟩; have n0_ := Aside0.mk (blk_below (g := gb383) (o := .cells #[.string x384000_2, .int .i64 x384001_2, .int .i64 x384002_2] 34 (0, 0)) (by (with_reducible repeat (first | refine blk_drewN ?_ _ | refine blk_drew ?_ | refine blk_alloc ?_ _)); exact BK383.out) hb); have n1_ := Aside0.mk (blk_below (g := gb390) (o := .cells #[.string t387, .int .i64 t388, .int .i64 x391002_7] 34 (0, 0)) (by (with_reducible repeat (first | refine blk_drewN ?_ _ | refine blk_drew ?_ | refine blk_alloc ?_ _)); exact BK390.out) hb); have n2_ := Aside0.mk (below_step (by repeat (first | (with_reducible first | exact HB.out | apply below_alloc | apply pw_below_drewN | apply below_drew1 | refine below_set ?_ GE383.out | refine below_set ?_ GE390.out) | exact HB.out)) hb); clear BK383; clear BK390; clear HB; have BK383 := n0_; have BK390 := n1_; have HB := n2_; clear n0_ n1_ n2_; (try clear hb); (try clear hb2); (try clear hk); (try clear hi); obtain ⟨hcz57_0, hcz57_1, hcz57_2⟩ := cells3 BK390.out; have hfz57_0 := blk_frozen BK390.out 0; have hfz57_1 := blk_frozen BK390.out 1; have hfz57_2 := blk_frozen BK390.out 2; obtain ⟨hcz58_0, hcz58_1, hcz58_2⟩ := cells3 BK383.out; have hfz58_0 := blk_frozen BK383.out 0; have hfz58_1 := blk_frozen BK383.out 1; have hfz58_2 := blk_frozen BK383.out 2)); try go_wp2_with (first | (go_at_call 41; (with_reducible refine (spec_l7Collapse.calls k2 t387 t388 x391002_7 x16_2 t399 _ A52.out).mono ?_); rintro e w56 ⟨rfl, hb⟩; have n0_ := Aside0.mk (blk_below (g := gb383) (o := .cells #[.string x384000_2, .int .i64 x384001_2, .int .i64 x384002_2] 34 (0, 0)) (by (with_reducible repeat (first | refine blk_drewN ?_ _ | refine blk_drew ?_ | refine blk_alloc ?_ _)); exact BK383.out) hb); have n1_ := Aside0.mk (blk_below (g := gb390) (o := .cells #[.string t387, .int .i64 t388, .int .i64 x391002_7] 34 (0, 0)) (by (with_reducible repeat (first | refine blk_drewN ?_ _ | refine blk_drew ?_ | refine blk_alloc ?_ _)); exact BK390.out) hb); have n2_ := Aside0.mk (below_step (by repeat (first | (with_reducible first | exact HB.out | apply below_alloc | apply pw_below_drewN | apply below_drew1 | refine below_set ?_ GE383.out | refine below_set ?_ GE390.out) | exact HB.out)) hb); clear BK383; clear BK390; clear HB; have BK383 := n0_; have BK390 := n1_; have HB := n2_; clear n0_ n1_ n2_; (try clear hb); (try clear hb2); (try clear hk); (try clear hi); obtain ⟨hcz57_0, hcz57_1, hcz57_2⟩ := cells3 BK390.out; have hfz57_0 := blk_frozen BK390.out 0; have hfz57_1 := blk_frozen BK390.out 1; have hfz57_2 := blk_frozen BK390.out 2; obtain ⟨hcz58_0, hcz58_1, hcz58_2⟩ := cells3 BK383.out; have hfz58_0 := blk_frozen BK383.out 0; have hfz58_1 := blk_frozen BK383.out 1; have hfz58_2 := blk_frozen BK383.out 2)))
         refine bodyPost_ret (results_ct rfl _ _ gb383 34 #[.string t387, .int .i64 t388, .int .i64 x391002_7] (0, 0) _ rfl (by (with_reducible repeat (first | refine blk_drewN ?_ _ | refine blk_drew ?_ | refine blk_alloc ?_ _)); refine blk_put (cs := #[.string t387, .int .i64 t388, .int .i64 x384002_2]) ?_ 2 _ rfl; (with_reducible repeat (first | refine blk_drewN ?_ _ | refine blk_drew ?_ | refine blk_alloc ?_ _)); refine blk_put (cs := #[.string t387, .int .i64 x384001_2, .int .i64 x384002_2]) ?_ 1 _ rfl; (with_reducible repeat (first | refine blk_drewN ?_ _ | refine blk_drew ?_ | refine blk_alloc ?_ _)); refine blk_put (cs := #[.string x384000_2, .int .i64 x384001_2, .int .i64 x384002_2]) ?_ 0 _ rfl; (with_reducible repeat (first | refine blk_drewN ?_ _ | refine blk_drew ?_ | refine blk_alloc ?_ _)); exact BK383.out) Tryz.underlying34 rfl (by kernel_rfl)) rfl ?_
         exact ⟨by first | rfl | (simp [errW_none, errW_some] <;> rfl) | (simp [*, errW_none, errW_some] <;> rfl) | (simp [errW_none, errW_some] <;> (apply Bool.eq_iff_iff.2; simp [List.isEmpty_iff])), by repeat (first | (with_reducible first | exact HB.out | apply below_alloc | apply pw_below_drewN | apply below_drew1 | refine below_set ?_ GE383.out | refine below_set ?_ GE390.out) | exact HB.out)⟩
        ·rw [if_neg c53] at H
         have c53b0 : (t399.toList == a0.toList) = false := beq_eq_false_iff_ne.mpr c53
         have c53b1 : (t399.toList != a0.toList) = true := bne_iff_ne.mpr c53
         have H' := Aside0.mk H
         clear H
         have hnb59 := NB390_383.out
         have hnc59 := NB383_390.out
         obtain ⟨hcz60_0, hcz60_1, hcz60_2⟩ := cells3 BK390.out
         have hfz60_0 := blk_frozen BK390.out 0
         have hfz60_1 := blk_frozen BK390.out 1
         have hfz60_2 := blk_frozen BK390.out 2
         go_wp2_with (first | (go_at_call 41; (with_reducible refine (spec_l7Collapse.calls k2 t387 t388 x391002_7 x16_2 t399 _ A52.out).mono ?_); rintro e w61 ⟨rfl, hb⟩; have n0_ := Aside0.mk (blk_below (g := gb383) (o := .cells #[.string x384000_2, .int .i64 x384001_2, .int .i64 x384002_2] 34 (0, 0)) (by (with_reducible repeat (first | refine blk_drewN ?_ _ | refine blk_drew ?_ | refine blk_alloc ?_ _)); exact BK383.out) hb); have n1_ := Aside0.mk (blk_below (g := gb390) (o := .cells #[.string t387, .int .i64 t388, .int .i64 x391002_7] 34 (0, 0)) (by (with_reducible repeat (first | refine blk_drewN ?_ _ | refine blk_drew ?_ | refine blk_alloc ?_ _)); exact BK390.out) hb); have n2_ := Aside0.mk (below_step (by repeat (first | (with_reducible first | exact HB.out | apply below_alloc | apply pw_below_drewN | apply below_drew1 | refine below_set ?_ GE383.out | refine below_set ?_ GE390.out) | exact HB.out)) hb); clear BK383; clear BK390; clear HB; have BK383 := n0_; have BK390 := n1_; have HB := n2_; clear n0_ n1_ n2_; (try clear hb); (try clear hb2); (try clear hk); (try clear hi)))
         repeat (go_quiet (first | (go_at_call 41; (with_reducible refine (spec_l7Collapse.calls k2 t387 t388 x391002_7 x16_2 t399 _ A52.out).mono ?_); rintro e w61 ⟨rfl, hb⟩; have n0_ := Aside0.mk (blk_below (g := gb383) (o := .cells #[.string x384000_2, .int .i64 x384001_2, .int .i64 x384002_2] 34 (0, 0)) (by (with_reducible repeat (first | refine blk_drewN ?_ _ | refine blk_drew ?_ | refine blk_alloc ?_ _)); exact BK383.out) hb); have n1_ := Aside0.mk (blk_below (g := gb390) (o := .cells #[.string t387, .int .i64 t388, .int .i64 x391002_7] 34 (0, 0)) (by (with_reducible repeat (first | refine blk_drewN ?_ _ | refine blk_drew ?_ | refine blk_alloc ?_ _)); exact BK390.out) hb); have n2_ := Aside0.mk (below_step (by repeat (first | (with_reducible first | exact HB.out | apply below_alloc | apply pw_below_drewN | apply below_drew1 | refine below_set ?_ GE383.out | refine below_set ?_ GE390.out) | exact HB.out)) hb); clear BK383; clear BK390; clear HB; have BK383 := n0_; have BK390 := n1_; have HB := n2_; clear n0_ n1_ n2_; (try clear hb); (try clear hb2); (try clear hk); (try clear hi))); try go_wp2_with (first | (go_at_call 41; (with_reducible refine (spec_l7Collapse.calls k2 t387 t388 x391002_7 x16_2 t399 _ A52.out).mono ?_); rintro e w61 ⟨rfl, hb⟩; have n0_ := Aside0.mk (blk_below (g := gb383) (o := .cells #[.string x384000_2, .int .i64 x384001_2, .int .i64 x384002_2] 34 (0, 0)) (by (with_reducible repeat (first | refine blk_drewN ?_ _ | refine blk_drew ?_ | refine blk_alloc ?_ _)); exact BK383.out) hb); have n1_ := Aside0.mk (blk_below (g := gb390) (o := .cells #[.string t387, .int .i64 t388, .int .i64 x391002_7] 34 (0, 0)) (by (with_reducible repeat (first | refine blk_drewN ?_ _ | refine blk_drew ?_ | refine blk_alloc ?_ _)); exact BK390.out) hb); have n2_ := Aside0.mk (below_step (by repeat (first | (with_reducible first | exact HB.out | apply below_alloc | apply pw_below_drewN | apply below_drew1 | refine below_set ?_ GE383.out | refine below_set ?_ GE390.out) | exact HB.out)) hb); clear BK383; clear BK390; clear HB; have BK383 := n0_; have BK390 := n1_; have HB := n2_; clear n0_ n1_ n2_; (try clear hb); (try clear hb2); (try clear hk); (try clear hi))))
         go_roundg k2
         case measure => have := HJ7.out; have := HK2.out; omega
         case rel => exact ⟨(wrap64 (x16_2 + 1)), (x384000_2), (x384001_2), (x384002_2), (by first | rfl | (simp; done) | (simp [*]; done)), H', ⟨by have := HJ7.out; have := HK2.out; omega⟩, ⟨by (with_reducible repeat (first | refine blk_drewN ?_ _ | refine blk_drew ?_ | refine blk_alloc ?_ _)); exact BK383.out⟩, ⟨by (with_reducible repeat (first | refine blk_drewN ?_ _ | refine blk_drew ?_ | refine blk_alloc ?_ _)); exact BK390.out⟩, ⟨by repeat (first | (with_reducible first | exact HB.out | apply below_alloc | apply pw_below_drewN | apply below_drew1 | refine below_set ?_ GE383.out | refine below_set ?_ GE390.out) | exact HB.out)⟩⟩
       ·rw [if_neg c51] at H
        have c51b0 : decide (x16_2 ≤ 3) = false := decide_eq_false c51
        clear c51
        simp only [Option.some.injEq, Prod.mk.injEq] at H
        obtain ⟨rfl, rfl, rfl, rfl⟩ := H
        have hnb62 := NB383_390.out
        have hnc62 := NB390_383.out
        obtain ⟨hcz63_0, hcz63_1, hcz63_2⟩ := cells3 BK383.out
        have hfz63_0 := blk_frozen BK383.out 0
        have hfz63_1 := blk_frozen BK383.out 1
        have hfz63_2 := blk_frozen BK383.out 2
        go_wp2
        repeat (go_quiet (fail); try go_wp2)
        refine bodyPost_ret (results_ct rfl _ _ gb383 34 #[.string (⟨#[]⟩ : ByteArray), .int .i64 0, .int .i64 0] (0, 0) _ rfl (by (with_reducible repeat (first | refine blk_drewN ?_ _ | refine blk_drew ?_ | refine blk_alloc ?_ _)); refine blk_put (cs := #[.string (⟨#[]⟩ : ByteArray), .int .i64 0, .int .i64 x384002_2]) ?_ 2 _ rfl; (with_reducible repeat (first | refine blk_drewN ?_ _ | refine blk_drew ?_ | refine blk_alloc ?_ _)); refine blk_put (cs := #[.string (⟨#[]⟩ : ByteArray), .int .i64 x384001_2, .int .i64 x384002_2]) ?_ 1 _ rfl; (with_reducible repeat (first | refine blk_drewN ?_ _ | refine blk_drew ?_ | refine blk_alloc ?_ _)); refine blk_put (cs := #[.string x384000_2, .int .i64 x384001_2, .int .i64 x384002_2]) ?_ 0 _ rfl; (with_reducible repeat (first | refine blk_drewN ?_ _ | refine blk_drew ?_ | refine blk_alloc ?_ _)); exact BK383.out) Tryz.underlying34 rfl (by kernel_rfl)) rfl ?_
        exact ⟨by first | rfl | (simp [errW_none, errW_some] <;> rfl) | (simp [*, errW_none, errW_some] <;> rfl) | (simp [errW_none, errW_some] <;> (apply Bool.eq_iff_iff.2; simp [List.isEmpty_iff])), by repeat (first | (with_reducible first | exact HB.out | apply below_alloc | apply pw_below_drewN | apply below_drew1 | refine below_set ?_ GE383.out | refine below_set ?_ GE390.out) | exact HB.out)⟩
    ·replace c47 := Bool.eq_false_iff.mpr c47
     subst c47
     have H1 : (some ((⟨#[]⟩ : ByteArray), 0, 0, false)) = some (r1, r2, r3, r4) := by rw [if_neg (show ¬ (false = true) by decide)] at H; exact H
     clear H
     have H := H1
     clear H1
     simp only [Option.some.injEq, Prod.mk.injEq] at H
     obtain ⟨rfl, rfl, rfl, rfl⟩ := H
     have hnb64 := NB390_383.out
     have hnc64 := NB383_390.out
     obtain ⟨hcz65_0, hcz65_1, hcz65_2⟩ := cells3 BK390.out
     have hfz65_0 := blk_frozen BK390.out 0
     have hfz65_1 := blk_frozen BK390.out 1
     have hfz65_2 := blk_frozen BK390.out 2
     go_wp2_with (first | (go_at_call 39; (with_reducible refine (spec_l7Range.calls t387 t388 x391002_7 false _ A46.out).mono ?_); rintro e w66 ⟨rfl, hb⟩; have n0_ := Aside0.mk (blk_below (g := gb383) (o := .cells #[.string x384000_7, .int .i64 x384001_7, .int .i64 x384002_7] 34 (0, 0)) (by (with_reducible repeat (first | refine blk_drewN ?_ _ | refine blk_drew ?_ | refine blk_alloc ?_ _)); exact BK383.out) hb); have n1_ := Aside0.mk (blk_below (g := gb390) (o := .cells #[.string t387, .int .i64 t388, .int .i64 x391002_7] 34 (0, 0)) (by (with_reducible repeat (first | refine blk_drewN ?_ _ | refine blk_drew ?_ | refine blk_alloc ?_ _)); exact BK390.out) hb); have n2_ := Aside0.mk (below_step (by repeat (first | (with_reducible first | exact HB.out | apply below_alloc | apply pw_below_drewN | apply below_drew1 | refine below_set ?_ GE383.out | refine below_set ?_ GE390.out) | exact HB.out)) hb); clear BK383; clear BK390; clear HB; have BK383 := n0_; have BK390 := n1_; have HB := n2_; clear n0_ n1_ n2_; (try clear hb); (try clear hb2); (try clear hk); (try clear hi); obtain ⟨hcz67_0, hcz67_1, hcz67_2⟩ := cells3 BK383.out; have hfz67_0 := blk_frozen BK383.out 0; have hfz67_1 := blk_frozen BK383.out 1; have hfz67_2 := blk_frozen BK383.out 2))
     repeat (go_quiet (first | (go_at_call 39; (with_reducible refine (spec_l7Range.calls t387 t388 x391002_7 false _ A46.out).mono ?_); rintro e w66 ⟨rfl, hb⟩; have n0_ := Aside0.mk (blk_below (g := gb383) (o := .cells #[.string x384000_7, .int .i64 x384001_7, .int .i64 x384002_7] 34 (0, 0)) (by (with_reducible repeat (first | refine blk_drewN ?_ _ | refine blk_drew ?_ | refine blk_alloc ?_ _)); exact BK383.out) hb); have n1_ := Aside0.mk (blk_below (g := gb390) (o := .cells #[.string t387, .int .i64 t388, .int .i64 x391002_7] 34 (0, 0)) (by (with_reducible repeat (first | refine blk_drewN ?_ _ | refine blk_drew ?_ | refine blk_alloc ?_ _)); exact BK390.out) hb); have n2_ := Aside0.mk (below_step (by repeat (first | (with_reducible first | exact HB.out | apply below_alloc | apply pw_below_drewN | apply below_drew1 | refine below_set ?_ GE383.out | refine below_set ?_ GE390.out) | exact HB.out)) hb); clear BK383; clear BK390; clear HB; have BK383 := n0_; have BK390 := n1_; have HB := n2_; clear n0_ n1_ n2_; (try clear hb); (try clear hb2); (try clear hk); (try clear hi); obtain ⟨hcz67_0, hcz67_1, hcz67_2⟩ := cells3 BK383.out; have hfz67_0 := blk_frozen BK383.out 0; have hfz67_1 := blk_frozen BK383.out 1; have hfz67_2 := blk_frozen BK383.out 2)); try go_wp2_with (first | (go_at_call 39; (with_reducible refine (spec_l7Range.calls t387 t388 x391002_7 false _ A46.out).mono ?_); rintro e w66 ⟨rfl, hb⟩; have n0_ := Aside0.mk (blk_below (g := gb383) (o := .cells #[.string x384000_7, .int .i64 x384001_7, .int .i64 x384002_7] 34 (0, 0)) (by (with_reducible repeat (first | refine blk_drewN ?_ _ | refine blk_drew ?_ | refine blk_alloc ?_ _)); exact BK383.out) hb); have n1_ := Aside0.mk (blk_below (g := gb390) (o := .cells #[.string t387, .int .i64 t388, .int .i64 x391002_7] 34 (0, 0)) (by (with_reducible repeat (first | refine blk_drewN ?_ _ | refine blk_drew ?_ | refine blk_alloc ?_ _)); exact BK390.out) hb); have n2_ := Aside0.mk (below_step (by repeat (first | (with_reducible first | exact HB.out | apply below_alloc | apply pw_below_drewN | apply below_drew1 | refine below_set ?_ GE383.out | refine below_set ?_ GE390.out) | exact HB.out)) hb); clear BK383; clear BK390; clear HB; have BK383 := n0_; have BK390 := n1_; have HB := n2_; clear n0_ n1_ n2_; (try clear hb); (try clear hb2); (try clear hk); (try clear hi); obtain ⟨hcz67_0, hcz67_1, hcz67_2⟩ := cells3 BK383.out; have hfz67_0 := blk_frozen BK383.out 0; have hfz67_1 := blk_frozen BK383.out 1; have hfz67_2 := blk_frozen BK383.out 2)))
     refine bodyPost_ret (results_ct rfl _ _ gb383 34 #[.string (⟨#[]⟩ : ByteArray), .int .i64 0, .int .i64 0] (0, 0) _ rfl (by (with_reducible repeat (first | refine blk_drewN ?_ _ | refine blk_drew ?_ | refine blk_alloc ?_ _)); refine blk_put (cs := #[.string (⟨#[]⟩ : ByteArray), .int .i64 0, .int .i64 x384002_7]) ?_ 2 _ rfl; (with_reducible repeat (first | refine blk_drewN ?_ _ | refine blk_drew ?_ | refine blk_alloc ?_ _)); refine blk_put (cs := #[.string (⟨#[]⟩ : ByteArray), .int .i64 x384001_7, .int .i64 x384002_7]) ?_ 1 _ rfl; (with_reducible repeat (first | refine blk_drewN ?_ _ | refine blk_drew ?_ | refine blk_alloc ?_ _)); refine blk_put (cs := #[.string x384000_7, .int .i64 x384001_7, .int .i64 x384002_7]) ?_ 0 _ rfl; (with_reducible repeat (first | refine blk_drewN ?_ _ | refine blk_drew ?_ | refine blk_alloc ?_ _)); exact BK383.out) Tryz.underlying34 rfl (by kernel_rfl)) rfl ?_
     exact ⟨by first | rfl | (simp [errW_none, errW_some] <;> rfl) | (simp [*, errW_none, errW_some] <;> rfl) | (simp [errW_none, errW_some] <;> (apply Bool.eq_iff_iff.2; simp [List.isEmpty_iff])), by repeat (first | (with_reducible first | exact HB.out | apply below_alloc | apply pw_below_drewN | apply below_drew1 | refine below_set ?_ GE383.out | refine below_set ?_ GE390.out) | exact HB.out)⟩
 ·replace c7 := Bool.eq_false_iff.mpr c7
  subst c7
  have H1 : (some ((⟨#[]⟩ : ByteArray), 0, 0, false)) = some (r1, r2, r3, r4) := by rw [if_neg (show ¬ (false = true) by decide)] at H; exact H
  clear H
  have H := H1
  clear H1
  simp only [Option.some.injEq, Prod.mk.injEq] at H
  obtain ⟨rfl, rfl, rfl, rfl⟩ := H
  obtain ⟨hcz68_0, hcz68_1, hcz68_2⟩ := cells3 BK383.out
  have hfz68_0 := blk_frozen BK383.out 0
  have hfz68_1 := blk_frozen BK383.out 1
  have hfz68_2 := blk_frozen BK383.out 2
  go_wp2
  repeat (go_quiet (fail); try go_wp2)
  refine bodyPost_ret (results_ct rfl _ _ gb383 34 #[.string (⟨#[]⟩ : ByteArray), .int .i64 0, .int .i64 0] (0, 0) _ rfl (by (with_reducible repeat (first | refine blk_drewN ?_ _ | refine blk_drew ?_ | refine blk_alloc ?_ _)); refine blk_put (cs := #[.string (⟨#[]⟩ : ByteArray), .int .i64 0, .int .i64 0]) ?_ 2 _ rfl; (with_reducible repeat (first | refine blk_drewN ?_ _ | refine blk_drew ?_ | refine blk_alloc ?_ _)); refine blk_put (cs := #[.string (⟨#[]⟩ : ByteArray), .int .i64 0, .int .i64 0]) ?_ 1 _ rfl; (with_reducible repeat (first | refine blk_drewN ?_ _ | refine blk_drew ?_ | refine blk_alloc ?_ _)); refine blk_put (cs := #[.string (⟨#[]⟩ : ByteArray), .int .i64 0, .int .i64 0]) ?_ 0 _ rfl; (with_reducible repeat (first | refine blk_drewN ?_ _ | refine blk_drew ?_ | refine blk_alloc ?_ _)); exact BK383.out) Tryz.underlying34 rfl (by kernel_rfl)) rfl ?_
  exact ⟨by first | rfl | (simp [errW_none, errW_some] <;> rfl) | (simp [*, errW_none, errW_some] <;> rfl) | (simp [errW_none, errW_some] <;> (apply Bool.eq_iff_iff.2; simp [List.isEmpty_iff])), by repeat (first | (with_reducible first | exact HB.out | apply below_alloc | apply pw_below_drewN | apply below_drew1 | refine below_set ?_ GE383.out) | exact HB.out)⟩
end Go.Proofs.YtmemcncbkgcbeaaGreatDoor.Px
