/- That calls of Go functions come to what the Lean functions beside them say; written by a program of this session (wip/xprint) over the printed words; no conditions. -/
import Derived.Test.YtjckholdcgjdnaaDoorPx0
import Derived.Test.YtjckholdcgjdnaaDoorPx7
import Derived.Test.YtjckholdcgjdnaaDoorPx8
import Derived.Test.YtjckholdcgjdnaaDoorPx9
import Derived.Test.YtjckholdcgjdnaaDoorPx10
namespace Go.Proofs.YtjckholdcgjdnaaDoor.Px
open Go.RowKit Go.Proofs.YtjckholdcgjdnaaDoorW.PrintWords Go.Proofs.YtjckholdcgjdnaaDoorW.PrintLast Go.Proofs.YtjckholdcgjdnaaDoorW.PrintMore
attribute [local go_sem] max2_int min2_int max_two min_two max_three min_three max_four min_four   -- for this text's walks alone
set_option linter.unusedVariables false
set_option linter.unusedSimpArgs false

/-! ### impl_ExpandRange: function 19 -/
mutual
def impl_ExpandRange.j0 : Nat → ByteArray → ByteArray → ByteArray → Bool → ByteArray → Int → Int → Option (ByteArray × Int × Int × Bool)
 | 0, _, _, _, _, _, _, _ => none
 | k + 1, x0, x4, x5, x36, x173000, x173001, x173002 => if x36 = true then (if 0 ≤ 1 then (if 1 ≤ (x4.size : Int) then (impl_ExpandRange.j1 k x0 (x4.extract 1 x4.size) x5 (x4.extract 0 1) x173001 x173002) else (none)) else (none)) else (impl_ExpandRange.j1 k x0 x4 x5 x173000 x173001 x173002)
def impl_ExpandRange.j1 : Nat → ByteArray → ByteArray → ByteArray → ByteArray → Int → Int → Option (ByteArray × Int × Int × Bool)
 | 0, _, _, _, _, _, _ => none
 | k + 1, x0, x4, x5, x173000, x173001, x173002 => (strings_TrimPrefix.f x5 x173000).bind fun t174 => (if (t174.size : Int) < (x4.size : Int) then (if 0 ≤ (wrap64 ((x4.size : Int) - (t174.size : Int))) then (if (wrap64 ((x4.size : Int) - (t174.size : Int))) ≤ (x4.size : Int) then (if (x4.extract 0 ((wrap64 ((x4.size : Int) - (t174.size : Int))) : Int).toNat).size + t174.size ≤ 9223372036854775807 then (impl_ExpandRange.j2 k x0 x4 ((x4.extract 0 ((wrap64 ((x4.size : Int) - (t174.size : Int))) : Int).toNat) ++ t174) x173000 x173001 x173002) else (none)) else (none)) else (none)) else (impl_ExpandRange.j2 k x0 x4 t174 x173000 x173001 x173002))
def impl_ExpandRange.j2 : Nat → ByteArray → ByteArray → ByteArray → ByteArray → Int → Int → Option (ByteArray × Int × Int × Bool)
 | 0, _, _, _, _, _, _ => none
 | k + 1, x0, x4, x5, x173000, x173001, x173002 => (impl_ParseInt.f x4).bind fun bt175 => ((impl_ParseInt.f x5).bind fun bt177 => (if bt175.2 = true then (if bt177.2 = true then ((impl_isRange.f x173000 bt175.1 bt177.1).bind fun t179 => (impl_ExpandRange.j3 k x0 (!t179) x173000 bt175.1 bt177.1)) else (impl_ExpandRange.j3 k x0 true x173000 bt175.1 bt177.1)) else (impl_ExpandRange.j3 k x0 true x173000 bt175.1 bt177.1)))
def impl_ExpandRange.j3 : Nat → ByteArray → Bool → ByteArray → Int → Int → Option (ByteArray × Int × Int × Bool)
 | 0, _, _, _, _, _ => none
 | k + 1, x0, x84, x173000, x173001, x173002 => if x84 = true then (some ((⟨#[]⟩ : ByteArray), 0, 0, false)) else (impl_ExpandRange.l0 k x0 1 x173000 x173001 x173002)
def impl_ExpandRange.l0 : Nat → ByteArray → Int → ByteArray → Int → Int → Option (ByteArray × Int × Int × Bool)
 | 0, _, _, _, _, _ => none
 | k + 1, x0, x12, x173000, x173001, x173002 => if x12 ≤ 3 then ((impl_collapseRange.f k x173000 x173001 x173002 x12).bind fun t180 => (if t180.toList = x0.toList then (some (x173000, x173001, x173002, true)) else (impl_ExpandRange.l0 k x0 (wrap64 (x12 + 1)) x173000 x173001 x173002))) else (some ((⟨#[]⟩ : ByteArray), 0, 0, false))
end
def impl_ExpandRange.f (k : Nat) (a0 : ByteArray) : Option (ByteArray × Int × Int × Bool) := if (a0.size : Int) > 20 then (some ((⟨#[]⟩ : ByteArray), 0, 0, false)) else ((strings_Cut.f a0 (⟨#[45]⟩ : ByteArray)).bind fun bt165 => (if bt165.2.2 = true then (if bt165.1.toList = ([] : List UInt8) then (impl_ExpandRange.j0 k a0 bt165.1 bt165.2.1 false (⟨#[]⟩ : ByteArray) 0 0) else (if 0 < (bt165.1.size : Int) then ((impl_isUpper.f (bt bt165.1 0)).bind fun t173 => (impl_ExpandRange.j0 k a0 bt165.1 bt165.2.1 t173 (⟨#[]⟩ : ByteArray) 0 0)) else (none))) else ((impl_parseRange.f k a0).bind fun bt168 => (some (bt168.1, bt168.2.1, bt168.2.2.1, bt168.2.2.2)))))
theorem impl_ExpandRange.mono_l : ∀ k, (∀ y0 y1 y2 y3 y4 y5 y6, LeO (impl_ExpandRange.j0 k y0 y1 y2 y3 y4 y5 y6) (impl_ExpandRange.j0 (k + 1) y0 y1 y2 y3 y4 y5 y6)) ∧ (∀ y0 y1 y2 y3 y4 y5, LeO (impl_ExpandRange.j1 k y0 y1 y2 y3 y4 y5) (impl_ExpandRange.j1 (k + 1) y0 y1 y2 y3 y4 y5)) ∧ (∀ y0 y1 y2 y3 y4 y5, LeO (impl_ExpandRange.j2 k y0 y1 y2 y3 y4 y5) (impl_ExpandRange.j2 (k + 1) y0 y1 y2 y3 y4 y5)) ∧ (∀ y0 y1 y2 y3 y4, LeO (impl_ExpandRange.j3 k y0 y1 y2 y3 y4) (impl_ExpandRange.j3 (k + 1) y0 y1 y2 y3 y4)) ∧ (∀ y0 y1 y2 y3 y4, LeO (impl_ExpandRange.l0 k y0 y1 y2 y3 y4) (impl_ExpandRange.l0 (k + 1) y0 y1 y2 y3 y4))
 | 0 => ⟨fun _ _ _ _ _ _ _ r h => by simp [impl_ExpandRange.j0] at h, fun _ _ _ _ _ _ r h => by simp [impl_ExpandRange.j1] at h, fun _ _ _ _ _ _ r h => by simp [impl_ExpandRange.j2] at h, fun _ _ _ _ _ r h => by simp [impl_ExpandRange.j3] at h, fun _ _ _ _ _ r h => by simp [impl_ExpandRange.l0] at h⟩
 | k + 1 => by
  obtain ⟨ih0, ih1, ih2, ih3, ih4⟩ := impl_ExpandRange.mono_l k
  refine ⟨?_, ?_, ?_, ?_, ?_⟩
  ·intro y0 y1 y2 y3 y4 y5 y6
   unfold impl_ExpandRange.j0
   repeat' first
   | (with_reducible exact ih0 _ _ _ _ _ _ _)
   | (with_reducible exact ih1 _ _ _ _ _ _)
   | (with_reducible exact ih2 _ _ _ _ _ _)
   | (with_reducible exact ih3 _ _ _ _ _)
   | (with_reducible exact ih4 _ _ _ _ _)
   | (with_reducible exact impl_collapseRange.mono _ _ _ _ _)
   | (with_reducible exact impl_parseRange.mono _ _)
   | (with_reducible exact LeO.refl _)
   | (with_reducible exact LeO.none _)
   | (with_reducible refine LeO.ite ?_ ?_)
   | (with_reducible refine LeO.bind ?_ (fun _ => ?_))
   | exact ih0 _ _ _ _ _ _ _
   | exact ih1 _ _ _ _ _ _
   | exact ih2 _ _ _ _ _ _
   | exact ih3 _ _ _ _ _
   | exact ih4 _ _ _ _ _
   | exact impl_collapseRange.mono _ _ _ _ _
   | exact impl_parseRange.mono _ _
   | exact LeO.none _
   | refine LeO.ite ?_ ?_
   | refine LeO.bind ?_ (fun _ => ?_)
  ·intro y0 y1 y2 y3 y4 y5
   unfold impl_ExpandRange.j1
   repeat' first
   | (with_reducible exact ih0 _ _ _ _ _ _ _)
   | (with_reducible exact ih1 _ _ _ _ _ _)
   | (with_reducible exact ih2 _ _ _ _ _ _)
   | (with_reducible exact ih3 _ _ _ _ _)
   | (with_reducible exact ih4 _ _ _ _ _)
   | (with_reducible exact impl_collapseRange.mono _ _ _ _ _)
   | (with_reducible exact impl_parseRange.mono _ _)
   | (with_reducible exact LeO.refl _)
   | (with_reducible exact LeO.none _)
   | (with_reducible refine LeO.ite ?_ ?_)
   | (with_reducible refine LeO.bind ?_ (fun _ => ?_))
   | exact ih0 _ _ _ _ _ _ _
   | exact ih1 _ _ _ _ _ _
   | exact ih2 _ _ _ _ _ _
   | exact ih3 _ _ _ _ _
   | exact ih4 _ _ _ _ _
   | exact impl_collapseRange.mono _ _ _ _ _
   | exact impl_parseRange.mono _ _
   | exact LeO.none _
   | refine LeO.ite ?_ ?_
   | refine LeO.bind ?_ (fun _ => ?_)
  ·intro y0 y1 y2 y3 y4 y5
   unfold impl_ExpandRange.j2
   repeat' first
   | (with_reducible exact ih0 _ _ _ _ _ _ _)
   | (with_reducible exact ih1 _ _ _ _ _ _)
   | (with_reducible exact ih2 _ _ _ _ _ _)
   | (with_reducible exact ih3 _ _ _ _ _)
   | (with_reducible exact ih4 _ _ _ _ _)
   | (with_reducible exact impl_collapseRange.mono _ _ _ _ _)
   | (with_reducible exact impl_parseRange.mono _ _)
   | (with_reducible exact LeO.refl _)
   | (with_reducible exact LeO.none _)
   | (with_reducible refine LeO.ite ?_ ?_)
   | (with_reducible refine LeO.bind ?_ (fun _ => ?_))
   | exact ih0 _ _ _ _ _ _ _
   | exact ih1 _ _ _ _ _ _
   | exact ih2 _ _ _ _ _ _
   | exact ih3 _ _ _ _ _
   | exact ih4 _ _ _ _ _
   | exact impl_collapseRange.mono _ _ _ _ _
   | exact impl_parseRange.mono _ _
   | exact LeO.none _
   | refine LeO.ite ?_ ?_
   | refine LeO.bind ?_ (fun _ => ?_)
  ·intro y0 y1 y2 y3 y4
   unfold impl_ExpandRange.j3
   repeat' first
   | (with_reducible exact ih0 _ _ _ _ _ _ _)
   | (with_reducible exact ih1 _ _ _ _ _ _)
   | (with_reducible exact ih2 _ _ _ _ _ _)
   | (with_reducible exact ih3 _ _ _ _ _)
   | (with_reducible exact ih4 _ _ _ _ _)
   | (with_reducible exact impl_collapseRange.mono _ _ _ _ _)
   | (with_reducible exact impl_parseRange.mono _ _)
   | (with_reducible exact LeO.refl _)
   | (with_reducible exact LeO.none _)
   | (with_reducible refine LeO.ite ?_ ?_)
   | (with_reducible refine LeO.bind ?_ (fun _ => ?_))
   | exact ih0 _ _ _ _ _ _ _
   | exact ih1 _ _ _ _ _ _
   | exact ih2 _ _ _ _ _ _
   | exact ih3 _ _ _ _ _
   | exact ih4 _ _ _ _ _
   | exact impl_collapseRange.mono _ _ _ _ _
   | exact impl_parseRange.mono _ _
   | exact LeO.none _
   | refine LeO.ite ?_ ?_
   | refine LeO.bind ?_ (fun _ => ?_)
  ·intro y0 y1 y2 y3 y4
   unfold impl_ExpandRange.l0
   repeat' first
   | (with_reducible exact ih0 _ _ _ _ _ _ _)
   | (with_reducible exact ih1 _ _ _ _ _ _)
   | (with_reducible exact ih2 _ _ _ _ _ _)
   | (with_reducible exact ih3 _ _ _ _ _)
   | (with_reducible exact ih4 _ _ _ _ _)
   | (with_reducible exact impl_collapseRange.mono _ _ _ _ _)
   | (with_reducible exact impl_parseRange.mono _ _)
   | (with_reducible exact LeO.refl _)
   | (with_reducible exact LeO.none _)
   | (with_reducible refine LeO.ite ?_ ?_)
   | (with_reducible refine LeO.bind ?_ (fun _ => ?_))
   | exact ih0 _ _ _ _ _ _ _
   | exact ih1 _ _ _ _ _ _
   | exact ih2 _ _ _ _ _ _
   | exact ih3 _ _ _ _ _
   | exact ih4 _ _ _ _ _
   | exact impl_collapseRange.mono _ _ _ _ _
   | exact impl_parseRange.mono _ _
   | exact LeO.none _
   | refine LeO.ite ?_ ?_
   | refine LeO.bind ?_ (fun _ => ?_)
theorem impl_ExpandRange.mono : ∀ a0 k, LeO (impl_ExpandRange.f k a0) (impl_ExpandRange.f (k + 1) a0) := by
 intro a0 k
 obtain ⟨ih0, ih1, ih2, ih3, ih4⟩ := impl_ExpandRange.mono_l k
 unfold impl_ExpandRange.f
 repeat' first
   | (with_reducible exact ih0 _ _ _ _ _ _ _)
   | (with_reducible exact ih1 _ _ _ _ _ _)
   | (with_reducible exact ih2 _ _ _ _ _ _)
   | (with_reducible exact ih3 _ _ _ _ _)
   | (with_reducible exact ih4 _ _ _ _ _)
   | (with_reducible exact impl_collapseRange.mono _ _ _ _ _)
   | (with_reducible exact impl_parseRange.mono _ _)
   | (with_reducible exact LeO.refl _)
   | (with_reducible exact LeO.none _)
   | (with_reducible refine LeO.ite ?_ ?_)
   | (with_reducible refine LeO.bind ?_ (fun _ => ?_))
   | exact ih0 _ _ _ _ _ _ _
   | exact ih1 _ _ _ _ _ _
   | exact ih2 _ _ _ _ _ _
   | exact ih3 _ _ _ _ _
   | exact ih4 _ _ _ _ _
   | exact impl_collapseRange.mono _ _ _ _ _
   | exact impl_parseRange.mono _ _
   | exact LeO.none _
   | refine LeO.ite ?_ ?_
   | refine LeO.bind ?_ (fun _ => ?_)
set_option maxHeartbeats 8000000 in
set_option maxRecDepth 100000 in
theorem impl_ExpandRange.calls (k : Nat) (a0 : ByteArray) (r1 : ByteArray) (r2 : Int) (r3 : Int) (r4 : Bool) (w : World) (henv : Go.Proofs.YtjckholdcgjdnaaDoorW.Envs.Env [0, 1, 2] w) (h : impl_ExpandRange.f k a0 = some (r1, r2, r3, r4)) :
  Calls Tryd.prog 19 #[.string a0] w fun e w' => e = .returned (.tuple #[.agg #[.string r1, .int .i64 r2, .int .i64 r3], .bool r4]) ∧ Below w.heap.size w w' := by
 have hu27 := Tryd.underlying27
 have HB := AM (Below.refl w.heap.size w)
 have HENV := AM henv
 clear henv
 have H : (if (a0.size : Int) > 20 then (some ((⟨#[]⟩ : ByteArray), 0, 0, false)) else ((strings_Cut.f a0 (⟨#[45]⟩ : ByteArray)).bind fun bt165 => (if bt165.2.2 = true then (if bt165.1.toList = ([] : List UInt8) then (impl_ExpandRange.j0 k a0 bt165.1 bt165.2.1 false (⟨#[]⟩ : ByteArray) 0 0) else (if 0 < (bt165.1.size : Int) then ((impl_isUpper.f (bt bt165.1 0)).bind fun t173 => (impl_ExpandRange.j0 k a0 bt165.1 bt165.2.1 t173 (⟨#[]⟩ : ByteArray) 0 0)) else (none))) else ((impl_parseRange.f k a0).bind fun bt168 => (some (bt168.1, bt168.2.1, bt168.2.2.1, bt168.2.2.2)))))) = some (r1, r2, r3, r4) := h
 clear h
 by_cases c2 : (a0.size : Int) > 20
 ·rw [if_pos c2] at H
  have c2b0 : decide (20 < (a0.size : Int)) = true := decide_eq_true c2
  have c2b1 : decide (20 < a0.size) = true := decide_eq_true (by omega)
  clear c2
  simp only [Option.some.injEq, Prod.mk.injEq] at H
  obtain ⟨rfl, rfl, rfl, rfl⟩ := H
  go_enter Tryd.func19, Tryd.ntmps19
  go_wp2_with (first | ((with_reducible refine gate_dst (N := 2) rfl ?_); refine box_event ?hg (N := 2) ?hd (cs := #[.string (⟨#[]⟩ : ByteArray), .int .i64 0, .int .i64 0]) (t := 27) ?hr ?_; (case hd => rfl); (case hg => rfl); (case hr => first | (go_simp; done) | (go_simp; rfl)); intro gb164 hg w3 hbox hb; have n0_ := AM (below_step (by repeat (first | (with_reducible first | exact HB.out | apply below_alloc | apply pw_below_drewN | apply below_drew1) | exact HB.out)) hb); have n1_ := AM (hbox); have n2_ := AM ((by rw [hg]; exact (below_size (by repeat (first | (with_reducible first | exact HB.out | apply below_alloc | apply pw_below_drewN | apply below_drew1) | exact HB.out))) : w.heap.size ≤ gb164)); have n3_ := AM ((by rw [hg]; exact (below_size (by repeat (first | (with_reducible first | exact HB.out | apply below_alloc | apply pw_below_drewN | apply below_drew1) | exact HB.out))) : w.heap.size ≤ gb164)); clear HB; have HB := n0_; have BK164 := n1_; have GW164 := n2_; have GE164 := n3_; clear n0_ n1_ n2_ n3_; clear hb hbox hg; have hcz4_0 : w3.cell? ⟨gb164, 0, none⟩ = some (.string (⟨#[]⟩ : ByteArray)) := (blk_cell BK164.out 0).trans rfl; have hcz4_1 : w3.cell? ⟨gb164, 1, none⟩ = some (.int .i64 0) := (blk_cell BK164.out 1).trans rfl; have hcz4_2 : w3.cell? ⟨gb164, 2, none⟩ = some (.int .i64 0) := (blk_cell BK164.out 2).trans rfl; have hfz4_0 := blk_frozen BK164.out 0; have hfz4_1 := blk_frozen BK164.out 1; have hfz4_2 := blk_frozen BK164.out 2))
  refine bodyPost_ret (results_ct rfl _ _ gb164 27 #[.string (⟨#[]⟩ : ByteArray), .int .i64 0, .int .i64 0] (0, 0) _ rfl (by (with_reducible repeat (first | refine blk_drewN ?_ _ | refine blk_drew ?_ | refine blk_alloc ?_ _)); refine blk_put (cs := #[.string (⟨#[]⟩ : ByteArray), .int .i64 0, .int .i64 0]) ?_ 2 _ rfl; (with_reducible repeat (first | refine blk_drewN ?_ _ | refine blk_drew ?_ | refine blk_alloc ?_ _)); refine blk_put (cs := #[.string (⟨#[]⟩ : ByteArray), .int .i64 0, .int .i64 0]) ?_ 1 _ rfl; (with_reducible repeat (first | refine blk_drewN ?_ _ | refine blk_drew ?_ | refine blk_alloc ?_ _)); refine blk_put (cs := #[.string (⟨#[]⟩ : ByteArray), .int .i64 0, .int .i64 0]) ?_ 0 _ rfl; (with_reducible repeat (first | refine blk_drewN ?_ _ | refine blk_drew ?_ | refine blk_alloc ?_ _)); exact BK164.out) Tryd.underlying27 rfl (by kernel_rfl)) rfl ?_
  exact ⟨by first | rfl | (simp [errW_none, errW_some] <;> rfl) | (simp [*, errW_none, errW_some] <;> rfl) | (simp [errW_none, errW_some] <;> (apply Bool.eq_iff_iff.2; simp [List.isEmpty_iff])), by repeat (first | (with_reducible first | exact HB.out | apply below_alloc | apply pw_below_drewN | apply below_drew1 | refine below_set ?_ GE164.out) | exact HB.out)⟩
 ·rw [if_neg c2] at H
  have c2b0 : decide (20 < (a0.size : Int)) = false := decide_eq_false c2
  have c2b1 : decide (20 < a0.size) = false := decide_eq_false (by omega)
  clear c2
  replace H := Option.bind_eq_some_iff.mp H
  obtain ⟨⟨t165, t166, t167⟩, A50, H⟩ := H
  replace H : (if t167 = true then (if t165.toList = ([] : List UInt8) then (impl_ExpandRange.j0 k a0 t165 t166 false (⟨#[]⟩ : ByteArray) 0 0) else (if 0 < (t165.size : Int) then ((impl_isUpper.f (bt t165 0)).bind fun t173 => (impl_ExpandRange.j0 k a0 t165 t166 t173 (⟨#[]⟩ : ByteArray) 0 0)) else (none))) else ((impl_parseRange.f k a0).bind fun bt168 => (some (bt168.1, bt168.2.1, bt168.2.2.1, bt168.2.2.2)))) = some (r1, r2, r3, r4) := H
  have A5 := AM A50
  clear A50
  by_cases c6 : t167 = true
  ·subst c6
   have H1 : (if t165.toList = ([] : List UInt8) then (impl_ExpandRange.j0 k a0 t165 t166 false (⟨#[]⟩ : ByteArray) 0 0) else (if 0 < (t165.size : Int) then ((impl_isUpper.f (bt t165 0)).bind fun t173 => (impl_ExpandRange.j0 k a0 t165 t166 t173 (⟨#[]⟩ : ByteArray) 0 0)) else (none))) = some (r1, r2, r3, r4) := by rw [if_pos rfl] at H; exact H
   clear H
   have H := H1
   clear H1
   have HC7 := AM H
   clear H
   go_enter Tryd.func19, Tryd.ntmps19
   go_upto_region 7 with (first | ((with_reducible refine gate_dst (N := 2) rfl ?_); refine box_event ?hg (N := 2) ?hd (cs := #[.string (⟨#[]⟩ : ByteArray), .int .i64 0, .int .i64 0]) (t := 27) ?hr ?_; (case hd => rfl); (case hg => rfl); (case hr => first | (go_simp; done) | (go_simp; rfl)); intro gb164 hg w8 hbox hb; have n0_ := AM (below_step (by repeat (first | (with_reducible first | exact HB.out | apply below_alloc | apply pw_below_drewN | apply below_drew1) | exact HB.out)) hb); have n1_ := AM (hbox); have n2_ := AM ((by rw [hg]; exact (below_size (by repeat (first | (with_reducible first | exact HB.out | apply below_alloc | apply pw_below_drewN | apply below_drew1) | exact HB.out))) : w.heap.size ≤ gb164)); have n3_ := AM ((by rw [hg]; exact (below_size (by repeat (first | (with_reducible first | exact HB.out | apply below_alloc | apply pw_below_drewN | apply below_drew1) | exact HB.out))) : w.heap.size ≤ gb164)); clear HB; have HB := n0_; have BK164 := n1_; have GW164 := n2_; have GE164 := n3_; clear n0_ n1_ n2_ n3_; clear hb hbox hg) | ((with_reducible refine gate_callee (f := 48) rfl ?_); refine goesL_ (some 19) rfl rfl Tryd.func48 (by kernel_rfl) rfl #[.string a0, .string (⟨#[45]⟩ : ByteArray)] rfl (by (try simp only [List.map_toArray, List.map_cons, List.map_nil]); first | done | rfl | (simp only [List.length_drop, List.length_take]; rfl)) ?_; (with_reducible refine (strings_Cut.calls a0 (⟨#[45]⟩ : ByteArray) t165 t166 true _ ?side1 A5.out).mono ?_); (case side1 => exact Go.Proofs.YtjckholdcgjdnaaDoorW.Envs.Env.below (Go.Proofs.YtjckholdcgjdnaaDoorW.Envs.Env.sub HENV.out (S := [0]) (by decide)) (by repeat (first | (with_reducible first | exact HB.out | apply below_alloc | apply pw_below_drewN | apply below_drew1 | refine below_set ?_ GE164.out) | exact HB.out))); rintro e w9 ⟨rfl, hb⟩; refine ⟨_, rfl, ?_⟩; have n0_ := AM (blk_below (g := gb164) (o := .cells #[.string (⟨#[]⟩ : ByteArray), .int .i64 0, .int .i64 0] 27 (0, 0)) (by (with_reducible repeat (first | refine blk_drewN ?_ _ | refine blk_drew ?_ | refine blk_alloc ?_ _)); exact BK164.out) hb); have n1_ := AM (below_step (by repeat (first | (with_reducible first | exact HB.out | apply below_alloc | apply pw_below_drewN | apply below_drew1 | refine below_set ?_ GE164.out) | exact HB.out)) hb); clear BK164; clear HB; have BK164 := n0_; have HB := n1_; clear n0_ n1_; (try clear hb); (try clear hb2); (try clear hk); (try clear hi)) | ((with_reducible refine gate_dst (N := 7) rfl ?_); refine box_event ?hg (N := 7) ?hd (cs := #[.string (⟨#[]⟩ : ByteArray), .int .i64 0, .int .i64 0]) (t := 27) ?hr ?_; (case hd => rfl); (case hg => rfl); (case hr => first | (go_simp; done) | (go_simp; rfl)); intro gb172 hg w10 hbox hb; have n0_ := AM (blk_below (g := gb164) (o := .cells #[.string (⟨#[]⟩ : ByteArray), .int .i64 0, .int .i64 0] 27 (0, 0)) (by (with_reducible repeat (first | refine blk_drewN ?_ _ | refine blk_drew ?_ | refine blk_alloc ?_ _)); exact BK164.out) hb); have n1_ := AM (below_step (by repeat (first | (with_reducible first | exact HB.out | apply below_alloc | apply pw_below_drewN | apply below_drew1 | refine below_set ?_ GE164.out) | exact HB.out)) hb); have n2_ := AM (hbox); have n3_ := AM ((by rw [hg]; exact (below_size (by repeat (first | (with_reducible first | exact HB.out | apply below_alloc | apply pw_below_drewN | apply below_drew1 | refine below_set ?_ GE164.out) | exact HB.out))) : w.heap.size ≤ gb172)); have n4_ := AM ((by rw [hg]; exact (below_size (by repeat (first | (with_reducible first | exact HB.out | apply below_alloc | apply pw_below_drewN | apply below_drew1 | refine below_set ?_ GE164.out) | exact HB.out))) : w.heap.size ≤ gb172)); have n5_ := AM ((by rw [hg]; exact Nat.ne_of_lt (blk_lt (g := gb164) (o := .cells #[.string (⟨#[]⟩ : ByteArray), .int .i64 0, .int .i64 0] 27 (0, 0)) (by (with_reducible repeat (first | refine blk_drewN ?_ _ | refine blk_drew ?_ | refine blk_alloc ?_ _)); exact BK164.out)) : gb164 ≠ gb172)); have n6_ := AM ((by rw [hg]; exact Nat.ne_of_gt (blk_lt (g := gb164) (o := .cells #[.string (⟨#[]⟩ : ByteArray), .int .i64 0, .int .i64 0] 27 (0, 0)) (by (with_reducible repeat (first | refine blk_drewN ?_ _ | refine blk_drew ?_ | refine blk_alloc ?_ _)); exact BK164.out)) : gb172 ≠ gb164)); clear BK164; clear HB; have BK164 := n0_; have HB := n1_; have BK172 := n2_; have GW172 := n3_; have GE172 := n4_; have NB164_172 := n5_; have NB172_164 := n6_; clear n0_ n1_ n2_ n3_ n4_ n5_ n6_; clear hb hbox hg; have hnb11 := NB172_164.out; have hnc11 := NB164_172.out; have hcz12_0 : w10.cell? ⟨gb172, 0, none⟩ = some (.string (⟨#[]⟩ : ByteArray)) := (blk_cell BK172.out 0).trans rfl; have hcz12_1 : w10.cell? ⟨gb172, 1, none⟩ = some (.int .i64 0) := (blk_cell BK172.out 1).trans rfl; have hcz12_2 : w10.cell? ⟨gb172, 2, none⟩ = some (.int .i64 0) := (blk_cell BK172.out 2).trans rfl; have hfz12_0 := blk_frozen BK172.out 0; have hfz12_1 := blk_frozen BK172.out 1; have hfz12_2 := blk_frozen BK172.out 2))
   (try simp only [Act.put, sT, sZ, sS])
   go_cut [36] (fun v36 wc => ∃ (kq : Nat) (x36_6 : Bool), v36 = .bool x36_6 ∧ Aside0 (impl_ExpandRange.j0 kq a0 t165 t166 x36_6 (⟨#[]⟩ : ByteArray) 0 0 = some (r1, r2, r3, r4)) ∧ Aside0 (kq ≤ k) ∧ Aside0 (wc.heap[gb164]? = some (.cells #[.string (⟨#[]⟩ : ByteArray), .int .i64 0, .int .i64 0] 27 (0, 0))) ∧ Aside0 (wc.heap[gb172]? = some (.cells #[.string (⟨#[]⟩ : ByteArray), .int .i64 0, .int .i64 0] 27 (0, 0))) ∧ Aside0 (Below w.heap.size w wc))
   case first =>
    have H := HC7.out
    clear HC7
    by_cases c13 : t165.toList = ([] : List UInt8)
    ·rw [if_pos c13] at H
     have c13b0 : (t165.toList == ([] : List UInt8)) = true := beq_iff_eq.mpr c13
     have c13b1 : (t165.toList != ([] : List UInt8)) = false := bne_eq_false_iff_eq.mpr c13
     clear c13
     (first | rw [c13b0] | rw [c13b1] | rw [c13b2] | (simp only [i64_w, i32_w]; rw [c13b0]) | skip)
     have H' := AM H
     clear H
     go_wp2
     go_meet
     case rel => exact ⟨_, (false), (by first | rfl | (simp; done) | (simp [*]; done)), H', ⟨by first | omega | exact Nat.le_refl _⟩, ⟨by (with_reducible repeat (first | refine blk_drewN ?_ _ | refine blk_drew ?_ | refine blk_alloc ?_ _)); refine blk_far ?_ NB164_172.out _; (with_reducible repeat (first | refine blk_drewN ?_ _ | refine blk_drew ?_ | refine blk_alloc ?_ _)); refine blk_far ?_ NB164_172.out _; (with_reducible repeat (first | refine blk_drewN ?_ _ | refine blk_drew ?_ | refine blk_alloc ?_ _)); refine blk_far ?_ NB164_172.out _; (with_reducible repeat (first | refine blk_drewN ?_ _ | refine blk_drew ?_ | refine blk_alloc ?_ _)); exact BK164.out⟩, ⟨by (with_reducible repeat (first | refine blk_drewN ?_ _ | refine blk_drew ?_ | refine blk_alloc ?_ _)); refine blk_put (cs := #[.string (⟨#[]⟩ : ByteArray), .int .i64 0, .int .i64 0]) ?_ 2 _ rfl; (with_reducible repeat (first | refine blk_drewN ?_ _ | refine blk_drew ?_ | refine blk_alloc ?_ _)); refine blk_put (cs := #[.string (⟨#[]⟩ : ByteArray), .int .i64 0, .int .i64 0]) ?_ 1 _ rfl; (with_reducible repeat (first | refine blk_drewN ?_ _ | refine blk_drew ?_ | refine blk_alloc ?_ _)); refine blk_put (cs := #[.string (⟨#[]⟩ : ByteArray), .int .i64 0, .int .i64 0]) ?_ 0 _ rfl; (with_reducible repeat (first | refine blk_drewN ?_ _ | refine blk_drew ?_ | refine blk_alloc ?_ _)); exact BK172.out⟩, ⟨by repeat (first | (with_reducible first | exact HB.out | apply below_alloc | apply pw_below_drewN | apply below_drew1 | refine below_set ?_ GE164.out | refine below_set ?_ GE172.out) | exact HB.out)⟩⟩
    ·rw [if_neg c13] at H
     have c13b0 : (t165.toList == ([] : List UInt8)) = false := beq_eq_false_iff_ne.mpr c13
     have c13b1 : (t165.toList != ([] : List UInt8)) = true := bne_iff_ne.mpr c13
     (first | rw [c13b0] | rw [c13b1] | rw [c13b2] | (simp only [i64_w, i32_w]; rw [c13b0]) | skip)
     by_cases c14 : 0 < (t165.size : Int)
     ·rw [if_pos c14] at H
      have c14b0 : decide (0 < (t165.size : Int)) = true := decide_eq_true c14
      have c14b1 : decide (0 < t165.size) = true := decide_eq_true (by omega)
      clear c14
      replace H := Option.bind_eq_some_iff.mp H
      obtain ⟨t173, A160, H⟩ := H
      replace H : (impl_ExpandRange.j0 k a0 t165 t166 t173 (⟨#[]⟩ : ByteArray) 0 0) = some (r1, r2, r3, r4) := H
      have A16 := AM A160
      clear A160
      have H' := AM H
      clear H
      have p15 : 0 ≤ (0 : Int) := (by omega)
      have q15 : 0 < t165.size := (by have : (0 : Int) < (t165.size : Int) := of_decide_eq_true (by first | (with_reducible assumption) | assumption); omega)
      have hx15 : ∀ h : 0 < t165.size, ((t165[0]'h).toNat : Int) = bt t165 0 := bt_at t165 0
      clear p15
      have qi15 : (0 < (t165.size : Int)) = True := eq_true (of_decide_eq_true (by first | (with_reducible assumption) | assumption))
      replace q15 := eq_true q15
      go_wp2_with (first | (go_at_call 50; (with_reducible refine (impl_isUpper.calls (bt t165 0) t173 _ A16.out).mono ?_); rintro e w' ⟨rfl, ⟨nd, rfl⟩⟩))
      go_meet
      case rel => exact ⟨_, (t173), (by first | rfl | (simp; done) | (simp [*]; done)), H', ⟨by first | omega | exact Nat.le_refl _⟩, ⟨by (with_reducible repeat (first | refine blk_drewN ?_ _ | refine blk_drew ?_ | refine blk_alloc ?_ _)); refine blk_far ?_ NB164_172.out _; (with_reducible repeat (first | refine blk_drewN ?_ _ | refine blk_drew ?_ | refine blk_alloc ?_ _)); refine blk_far ?_ NB164_172.out _; (with_reducible repeat (first | refine blk_drewN ?_ _ | refine blk_drew ?_ | refine blk_alloc ?_ _)); refine blk_far ?_ NB164_172.out _; (with_reducible repeat (first | refine blk_drewN ?_ _ | refine blk_drew ?_ | refine blk_alloc ?_ _)); exact BK164.out⟩, ⟨by (with_reducible repeat (first | refine blk_drewN ?_ _ | refine blk_drew ?_ | refine blk_alloc ?_ _)); refine blk_put (cs := #[.string (⟨#[]⟩ : ByteArray), .int .i64 0, .int .i64 0]) ?_ 2 _ rfl; (with_reducible repeat (first | refine blk_drewN ?_ _ | refine blk_drew ?_ | refine blk_alloc ?_ _)); refine blk_put (cs := #[.string (⟨#[]⟩ : ByteArray), .int .i64 0, .int .i64 0]) ?_ 1 _ rfl; (with_reducible repeat (first | refine blk_drewN ?_ _ | refine blk_drew ?_ | refine blk_alloc ?_ _)); refine blk_put (cs := #[.string (⟨#[]⟩ : ByteArray), .int .i64 0, .int .i64 0]) ?_ 0 _ rfl; (with_reducible repeat (first | refine blk_drewN ?_ _ | refine blk_drew ?_ | refine blk_alloc ?_ _)); exact BK172.out⟩, ⟨by repeat (first | (with_reducible first | exact HB.out | apply below_alloc | apply pw_below_drewN | apply below_drew1 | refine below_set ?_ GE164.out | refine below_set ?_ GE172.out) | exact HB.out)⟩⟩
     ·rw [if_neg c14] at H
      exact absurd H (by simp)
   case rest =>
    clear HC7
    try clear c1
    try clear p1
    try clear q1
    try clear hx1
    try clear qi1
    try clear c2
    try clear c2b0
    try clear c2b1
    try clear p2
    try clear c4
    try clear c6
    try clear c11
    try clear c13
    try clear c13b0
    try clear c13b1
    try clear c13b2
    try clear c14
    try clear c14b0
    try clear c14b1
    try clear p15
    try clear q15
    try clear hx15
    try clear qi15
    try clear hcz12_0
    try clear hcz12_1
    try clear hcz12_2
    try clear hcz4_0
    try clear hcz4_1
    try clear hcz4_2
    try clear hfz12_0
    try clear hfz12_1
    try clear hfz12_2
    try clear hfz4_0
    try clear hfz4_1
    try clear hfz4_2
    try clear p15
    try clear q15
    obtain ⟨kq, x36_6, rfl, HA, HJ6, BK164, BK172, HB⟩ := hcut
    cases kq with
    | zero => exact absurd HA.out (by simp [impl_ExpandRange.j0])
    | succ kj6 =>
     have H := HA.out
     clear HA
     simp only [impl_ExpandRange.j0] at H
     have HC17 := AM H
     clear H
     go_upto_if 36 with (fail)
     go_cut [4] (fun v4 wc => ∃ (kq : Nat) (x4_16 : ByteArray) (x173000_16 : ByteArray), v4 = .string x4_16 ∧ Aside0 (impl_ExpandRange.j1 kq a0 x4_16 t166 x173000_16 0 0 = some (r1, r2, r3, r4)) ∧ Aside0 (kq ≤ kj6) ∧ Aside0 (wc.heap[gb164]? = some (.cells #[.string (⟨#[]⟩ : ByteArray), .int .i64 0, .int .i64 0] 27 (0, 0))) ∧ Aside0 (wc.heap[gb172]? = some (.cells #[.string x173000_16, .int .i64 0, .int .i64 0] 27 (0, 0))) ∧ Aside0 (Below w.heap.size w wc))
     case first =>
      have H := HC17.out
      clear HC17
      by_cases c18 : x36_6 = true
      ·subst c18
       have H1 : (if 0 ≤ 1 then (if 1 ≤ (t165.size : Int) then (impl_ExpandRange.j1 kj6 a0 (t165.extract 1 t165.size) t166 (t165.extract 0 1) 0 0) else (none)) else (none)) = some (r1, r2, r3, r4) := by rw [if_pos rfl] at H; exact H
       clear H
       have H := H1
       clear H1
       by_cases c19 : 0 ≤ 1
       ·rw [if_pos c19] at H
        have c19b0 := eq_true c19
        have c19b1 : decide (0 ≤ 1) = true := decide_eq_true c19
        clear c19
        by_cases c20 : 1 ≤ (t165.size : Int)
        ·rw [if_pos c20] at H
         have c20b0 := eq_true c20
         have c20b1 : decide (1 ≤ (t165.size : Int)) = true := decide_eq_true c20
         clear c20
         have c21b0 := eq_true (of_decide_eq_true (by first | (with_reducible assumption) | assumption) : 1 ≤ (t165.size : Int))
         have H' := AM H
         clear H
         try go_wp2
         have n0_ := AM (blk_drew BK164.out)
         have n1_ := AM (blk_drew BK172.out)
         have n2_ := AM (below_drew1 HB.out)
         clear BK164
         clear BK172
         clear HB
         have BK164 := n0_
         have BK172 := n1_
         have HB := n2_
         clear n0_ n1_ n2_
         refine start_ (n := 7) (S := fun w' => True) (ds := []) (bA 7 0) (by kernel_rfl) rfl rfl trivial (fun hHeld => ?_)
         generalize wc.drew = w22 at BK164 BK172 HB hHeld ⊢
         refine pure_ (i := 0) (N := some 37) (v := ?_) (a' := ?_) (bA 7 1) rfl rfl (by kernel_rfl) (fun _ _ _ h => h) (Or.inl ⟨by rfl, ?_⟩) ?_ ?_
         rotate_left
         ·intro w'
          go_simp
          with_reducible rfl
         rotate_left
         ·simp only [Act.put, sT, sZ, sS, i64_w, i32_w]
          rfl
         refine pure_ (i := 1) (N := some 38) (v := ?_) (a' := ?_) (bA 7 3) rfl rfl (by kernel_rfl) (fun _ _ _ h => h) (Or.inl ⟨by rfl, ?_⟩) ?_ ?_
         rotate_left
         ·intro w'
          go_simp
          with_reducible rfl
         rotate_left
         ·simp only [Act.put, sT, sZ, sS, i64_w, i32_w]
          rfl
         refine pure_ (i := 2) (N := some 39) (v := ?_) (a' := ?_) (bA 7 7) rfl rfl (by kernel_rfl) (fun _ _ _ h => h) (Or.inl ⟨by rfl, ?_⟩) ?_ ?_
         rotate_left
         ·intro w'
          go_simp
          with_reducible rfl
         rotate_left
         ·simp only [Act.put, sT, sZ, sS, i64_w, i32_w]
          rfl
         refine pure_ (i := 3) (N := some 40) (v := ?_) (a' := ?_) (bA 7 15) rfl rfl (by kernel_rfl) (fun _ _ _ h => h) (Or.inl ⟨by rfl, ?_⟩) ?_ ?_
         rotate_left
         ·intro w'
          go_simp
          with_reducible rfl
         rotate_left
         ·simp only [Act.put, sT, sZ, sS, i64_w, i32_w]
          rfl
         refine pure_ (i := 4) (N := some 41) (v := ?_) (a' := ?_) (bA 7 31) rfl rfl (by kernel_rfl) (fun _ _ _ h => h) (Or.inl ⟨by rfl, ?_⟩) ?_ ?_
         rotate_left
         ·intro w'
          go_simp
          with_reducible rfl
         rotate_left
         ·simp only [Act.put, sT, sZ, sS, i64_w, i32_w]
          rfl
         refine one_ (i := 5) (N := none) (bA 7 63) rfl rfl (by kernel_rfl) (by decide) (fun K hK => ?_)
         have hs23 : w22.cell? ⟨gb172, 0, none⟩ = some (.string (⟨#[]⟩ : ByteArray)) := (blk_cell BK172.out 0).trans rfl
         have hfs23 := blk_frozen BK172.out 0
         have hns23_0 := NB164_172.out
         have hms23_0 := NB172_164.out
         refine skip_ (w1 := ?_) (by rfl) rfl ?_ ?_
         rotate_left
         ·go_simp
          rfl
         refine hK.out _ _ trivial (fun hHeld => ?_)
         clear hK K
         refine pure_ (i := 6) (N := some 4) (v := ?_) (a' := ?_) (bA 7 127) rfl rfl (by kernel_rfl) (fun _ _ _ h => h) (Or.inl ⟨by rfl, ?_⟩) ?_ ?_
         rotate_left
         ·intro w'
          go_simp
          with_reducible rfl
         rotate_left
         ·simp only [Act.put, sT, sZ, sS, i64_w, i32_w]
          rfl
         refine done_ (by kernel_rfl) ?_
         try go_wp2
         go_meet
         case rel => exact ⟨_, (t165.extract 1 t165.size), (t165.extract 0 1), (by first | rfl | (simp; done) | (simp [*]; done)), H', ⟨by have := HJ6.out; first | omega | exact Nat.le_refl _⟩, ⟨by (with_reducible repeat (first | refine blk_drewN ?_ _ | refine blk_drew ?_ | refine blk_alloc ?_ _)); refine blk_far ?_ NB164_172.out _; (with_reducible repeat (first | refine blk_drewN ?_ _ | refine blk_drew ?_ | refine blk_alloc ?_ _)); exact BK164.out⟩, ⟨by (with_reducible repeat (first | refine blk_drewN ?_ _ | refine blk_drew ?_ | refine blk_alloc ?_ _)); refine blk_put (cs := #[.string (⟨#[]⟩ : ByteArray), .int .i64 0, .int .i64 0]) ?_ 0 _ rfl; (with_reducible repeat (first | refine blk_drewN ?_ _ | refine blk_drew ?_ | refine blk_alloc ?_ _)); exact BK172.out⟩, ⟨by repeat (first | (with_reducible first | exact HB.out | apply below_alloc | apply pw_below_drewN | apply below_drew1 | refine below_set ?_ GE164.out | refine below_set ?_ GE172.out) | exact HB.out)⟩⟩
        ·rw [if_neg c20] at H
         exact absurd H (by simp)
       ·rw [if_neg c19] at H
        exact absurd H (by simp)
      ·replace c18 := Bool.eq_false_iff.mpr c18
       subst c18
       have H1 : (impl_ExpandRange.j1 kj6 a0 t165 t166 (⟨#[]⟩ : ByteArray) 0 0) = some (r1, r2, r3, r4) := by rw [if_neg (show ¬ (false = true) by decide)] at H; exact H
       clear H
       have H := H1
       clear H1
       have H' := AM H
       clear H
       go_wp2
       go_meet
       case rel => exact ⟨_, (t165), ((⟨#[]⟩ : ByteArray)), (by first | rfl | (simp; done) | (simp [*]; done)), H', ⟨by have := HJ6.out; first | omega | exact Nat.le_refl _⟩, ⟨by (with_reducible repeat (first | refine blk_drewN ?_ _ | refine blk_drew ?_ | refine blk_alloc ?_ _)); exact BK164.out⟩, ⟨by (with_reducible repeat (first | refine blk_drewN ?_ _ | refine blk_drew ?_ | refine blk_alloc ?_ _)); exact BK172.out⟩, ⟨by repeat (first | (with_reducible first | exact HB.out | apply below_alloc | apply pw_below_drewN | apply below_drew1 | refine below_set ?_ GE164.out | refine below_set ?_ GE172.out) | exact HB.out)⟩⟩
     case rest =>
      clear HC17
      try clear c1
      try clear p1
      try clear q1
      try clear hx1
      try clear qi1
      try clear c2
      try clear c2b0
      try clear c2b1
      try clear p2
      try clear c4
      try clear c6
      try clear c11
      try clear c13
      try clear c13b0
      try clear c13b1
      try clear c13b2
      try clear c14
      try clear c14b0
      try clear c14b1
      try clear p15
      try clear q15
      try clear hx15
      try clear qi15
      try clear c18
      try clear c19
      try clear c19b0
      try clear c19b1
      try clear c20
      try clear c20b0
      try clear c20b1
      try clear c21
      try clear c21b0
      try clear hcz12_0
      try clear hcz12_1
      try clear hcz12_2
      try clear hcz4_0
      try clear hcz4_1
      try clear hcz4_2
      try clear hfz12_0
      try clear hfz12_1
      try clear hfz12_2
      try clear hfz4_0
      try clear hfz4_1
      try clear hfz4_2
      try clear p1
      try clear p15
      try clear p2
      try clear q1
      try clear q15
      obtain ⟨kq, x4_16, x173000_16, rfl, HA, HJ16, BK164, BK172, HB⟩ := hcut
      cases kq with
      | zero => exact absurd HA.out (by simp [impl_ExpandRange.j1])
      | succ kj16 =>
       have H := HA.out
       clear HA
       simp only [impl_ExpandRange.j1] at H
       replace H := Option.bind_eq_some_iff.mp H
       obtain ⟨t174, A240, H⟩ := H
       replace H : (if (t174.size : Int) < (x4_16.size : Int) then (if 0 ≤ (wrap64 ((x4_16.size : Int) - (t174.size : Int))) then (if (wrap64 ((x4_16.size : Int) - (t174.size : Int))) ≤ (x4_16.size : Int) then (if (x4_16.extract 0 ((wrap64 ((x4_16.size : Int) - (t174.size : Int))) : Int).toNat).size + t174.size ≤ 9223372036854775807 then (impl_ExpandRange.j2 kj16 a0 x4_16 ((x4_16.extract 0 ((wrap64 ((x4_16.size : Int) - (t174.size : Int))) : Int).toNat) ++ t174) x173000_16 0 0) else (none)) else (none)) else (none)) else (impl_ExpandRange.j2 kj16 a0 x4_16 t174 x173000_16 0 0)) = some (r1, r2, r3, r4) := H
       have A24 := AM A240
       clear A240
       have HC25 := AM H
       clear H
       have hnb26 := NB172_164.out
       have hnc26 := NB164_172.out
       have hcz27_0 : wc.cell? ⟨gb172, 0, none⟩ = some (.string x173000_16) := (blk_cell BK172.out 0).trans rfl
       have hcz27_1 : wc.cell? ⟨gb172, 1, none⟩ = some (.int .i64 0) := (blk_cell BK172.out 1).trans rfl
       have hcz27_2 : wc.cell? ⟨gb172, 2, none⟩ = some (.int .i64 0) := (blk_cell BK172.out 2).trans rfl
       have hfz27_0 := blk_frozen BK172.out 0
       have hfz27_1 := blk_frozen BK172.out 1
       have hfz27_2 := blk_frozen BK172.out 2
       go_upto_if 50 with (first | ((with_reducible refine gate_callee (f := 51) rfl ?_); refine goesL_ (some 45) rfl rfl Tryd.func51 (by kernel_rfl) rfl #[.string t166, .string x173000_16] rfl (by (try simp only [List.map_toArray, List.map_cons, List.map_nil]); first | done | rfl | (simp only [List.length_drop, List.length_take]; rfl)) ?_; (with_reducible refine (strings_TrimPrefix.calls t166 x173000_16 t174 _ A24.out).mono ?_); rintro e w' ⟨rfl, ⟨nd, rfl⟩⟩; refine ⟨_, rfl, ?_⟩))
       (try simp only [Act.put, sT, sZ, sS])
       go_cut [5] (fun v5 wc => ∃ (kq : Nat) (x5_24 : ByteArray), v5 = .string x5_24 ∧ Aside0 (impl_ExpandRange.j2 kq a0 x4_16 x5_24 x173000_16 0 0 = some (r1, r2, r3, r4)) ∧ Aside0 (kq ≤ kj16) ∧ Aside0 (wc.heap[gb164]? = some (.cells #[.string (⟨#[]⟩ : ByteArray), .int .i64 0, .int .i64 0] 27 (0, 0))) ∧ Aside0 (wc.heap[gb172]? = some (.cells #[.string x173000_16, .int .i64 0, .int .i64 0] 27 (0, 0))) ∧ Aside0 (Below w.heap.size w wc))
       case first =>
        have H := HC25.out
        clear HC25
        by_cases c28 : (t174.size : Int) < (x4_16.size : Int)
        ·rw [if_pos c28] at H
         have c28b0 : decide ((t174.size : Int) < (x4_16.size : Int)) = true := decide_eq_true c28
         have c28b1 : decide (t174.size < x4_16.size) = true := decide_eq_true (Int.ofNat_lt.mp c28)
         clear c28
         (first | rw [c28b0] | rw [c28b1] | rw [c28b2] | (simp only [i64_w, i32_w]; rw [c28b0]) | skip)
         obtain ⟨ji29, hji29⟩ : ∃ j_ : Int, (wrap64 ((x4_16.size : Int) - (t174.size : Int))) = j_ := ⟨_, rfl⟩
         replace H : (if 0 ≤ (ji29) then (if (ji29) ≤ (x4_16.size : Int) then (if (x4_16.extract 0 ((ji29) : Int).toNat).size + t174.size ≤ 9223372036854775807 then (impl_ExpandRange.j2 kj16 a0 x4_16 ((x4_16.extract 0 ((ji29) : Int).toNat) ++ t174) x173000_16 0 0) else (none)) else (none)) else (none)) = some (r1, r2, r3, r4) := by first | (rw [hji29] at H; exact H) | (simp only [hji29] at H ⊢; exact H)
         have hji29w : (IntKind.i64.wrap ((x4_16.size : Int) - (t174.size : Int))) = ji29 := (i64_w _).trans hji29
         by_cases c30 : 0 ≤ (ji29)
         ·rw [if_pos c30] at H
          have c30b0 := eq_true c30
          have c30b1 : decide (0 ≤ (ji29)) = true := decide_eq_true c30
          clear c30
          by_cases c31 : (ji29) ≤ (x4_16.size : Int)
          ·rw [if_pos c31] at H
           have c31b0 := eq_true c31
           have c31b1 : decide ((ji29) ≤ (x4_16.size : Int)) = true := decide_eq_true c31
           clear c31
           by_cases c32 : (x4_16.extract 0 ((ji29) : Int).toNat).size + t174.size ≤ 9223372036854775807
           ·rw [if_pos c32] at H
            have c32b0 := eq_true c32
            have c32b1 : decide ((x4_16.extract 0 ((ji29) : Int).toNat).size + t174.size ≤ 9223372036854775807) = true := decide_eq_true c32
            try have c32b2 : (9223372036854775807 < (x4_16.extract 0 ((ji29) : Int).toNat).size + t174.size) = False := eq_false (Nat.not_lt.2 c32)
            try have c32b3 : (9223372036854775807 < ((ji29) : Int).toNat + t174.size) = False := eq_false (by have h_ := c32; simp only [ByteArray.size_append, ByteArray.size_extract] at h_; (try have q0_ := of_eq_true c2b0); (try have q2_ := of_eq_true c28b0); (try have q4_ := of_eq_true c30b0); (try have q6_ := of_eq_true c31b0); omega)
            have H' := AM H
            clear H
            go_wp2
            go_meet
            case rel => exact ⟨_, ((x4_16.extract 0 ((ji29) : Int).toNat) ++ t174), (by first | rfl | (simp; done) | (simp only [← hji29] <;> (first | rfl | simp)) | (simp [*]; done)), H', ⟨by have := HJ6.out; have := HJ16.out; first | omega | exact Nat.le_refl _⟩, ⟨by (with_reducible repeat (first | refine blk_drewN ?_ _ | refine blk_drew ?_ | refine blk_alloc ?_ _)); exact BK164.out⟩, ⟨by (with_reducible repeat (first | refine blk_drewN ?_ _ | refine blk_drew ?_ | refine blk_alloc ?_ _)); exact BK172.out⟩, ⟨by repeat (first | (with_reducible first | exact HB.out | apply below_alloc | apply pw_below_drewN | apply below_drew1 | refine below_set ?_ GE164.out | refine below_set ?_ GE172.out) | exact HB.out)⟩⟩
           ·rw [if_neg c32] at H
            exact absurd H (by simp)
          ·rw [if_neg c31] at H
           exact absurd H (by simp)
         ·rw [if_neg c30] at H
          exact absurd H (by simp)
        ·rw [if_neg c28] at H
         have c28b0 : decide ((t174.size : Int) < (x4_16.size : Int)) = false := decide_eq_false c28
         have c28b1 : decide (t174.size < x4_16.size) = false := decide_eq_false (fun h => c28 (Int.ofNat_lt.mpr h))
         clear c28
         (first | rw [c28b0] | rw [c28b1] | rw [c28b2] | (simp only [i64_w, i32_w]; rw [c28b0]) | skip)
         have H' := AM H
         clear H
         go_wp2
         go_meet
         case rel => exact ⟨_, (t174), (by first | rfl | (simp; done) | (simp [*]; done)), H', ⟨by have := HJ6.out; have := HJ16.out; first | omega | exact Nat.le_refl _⟩, ⟨by (with_reducible repeat (first | refine blk_drewN ?_ _ | refine blk_drew ?_ | refine blk_alloc ?_ _)); exact BK164.out⟩, ⟨by (with_reducible repeat (first | refine blk_drewN ?_ _ | refine blk_drew ?_ | refine blk_alloc ?_ _)); exact BK172.out⟩, ⟨by repeat (first | (with_reducible first | exact HB.out | apply below_alloc | apply pw_below_drewN | apply below_drew1 | refine below_set ?_ GE164.out | refine below_set ?_ GE172.out) | exact HB.out)⟩⟩
       case rest =>
        clear HC25
        try clear c1
        try clear p1
        try clear q1
        try clear hx1
        try clear qi1
        try clear c2
        try clear c2b0
        try clear c2b1
        try clear p2
        try clear q2
        try clear c3
        try clear c4
        try clear q4
        try clear c5
        try clear c6
        try clear p6
        try clear q6
        try clear c11
        try clear c13
        try clear c13b0
        try clear c13b1
        try clear c13b2
        try clear c14
        try clear c14b0
        try clear c14b1
        try clear p15
        try clear q15
        try clear hx15
        try clear qi15
        try clear c18
        try clear c19
        try clear c19b0
        try clear c19b1
        try clear c20
        try clear c20b0
        try clear c20b1
        try clear c21
        try clear c21b0
        try clear c26
        try clear c28
        try clear c28b0
        try clear c28b1
        try clear c28b2
        try clear c30
        try clear c30b0
        try clear c30b1
        try clear c31
        try clear c31b0
        try clear c31b1
        try clear c32
        try clear c32b0
        try clear c32b1
        try clear c32b2
        try clear hcz12_0
        try clear hcz12_1
        try clear hcz12_2
        try clear hcz27_0
        try clear hcz27_1
        try clear hcz27_2
        try clear hcz4_0
        try clear hcz4_1
        try clear hcz4_2
        try clear hfz12_0
        try clear hfz12_1
        try clear hfz12_2
        try clear hfz27_0
        try clear hfz27_1
        try clear hfz27_2
        try clear hfz4_0
        try clear hfz4_1
        try clear hfz4_2
        try clear p1
        try clear p15
        try clear p2
        try clear q1
        try clear q15
        obtain ⟨kq, x5_24, rfl, HA, HJ24, BK164, BK172, HB⟩ := hcut
        cases kq with
        | zero => exact absurd HA.out (by simp [impl_ExpandRange.j2])
        | succ kj24 =>
         have H := HA.out
         clear HA
         simp only [impl_ExpandRange.j2] at H
         replace H := Option.bind_eq_some_iff.mp H
         obtain ⟨⟨t175, t176⟩, A330, H⟩ := H
         replace H : ((impl_ParseInt.f x5_24).bind fun bt177 => (if t176 = true then (if bt177.2 = true then ((impl_isRange.f x173000_16 t175 bt177.1).bind fun t179 => (impl_ExpandRange.j3 kj24 a0 (!t179) x173000_16 t175 bt177.1)) else (impl_ExpandRange.j3 kj24 a0 true x173000_16 t175 bt177.1)) else (impl_ExpandRange.j3 kj24 a0 true x173000_16 t175 bt177.1))) = some (r1, r2, r3, r4) := H
         have A33 := AM A330
         clear A330
         replace H := Option.bind_eq_some_iff.mp H
         obtain ⟨⟨t177, t178⟩, A340, H⟩ := H
         replace H : (if t176 = true then (if t178 = true then ((impl_isRange.f x173000_16 t175 t177).bind fun t179 => (impl_ExpandRange.j3 kj24 a0 (!t179) x173000_16 t175 t177)) else (impl_ExpandRange.j3 kj24 a0 true x173000_16 t175 t177)) else (impl_ExpandRange.j3 kj24 a0 true x173000_16 t175 t177)) = some (r1, r2, r3, r4) := H
         have A34 := AM A340
         clear A340
         have HC35 := AM H
         clear H
         go_upto_region 15 with (first | ((with_reducible refine gate_callee (f := 52) rfl ?_); refine goesL_ (some 62) rfl rfl Tryd.func52 (by kernel_rfl) rfl #[.string x4_16] rfl (by (try simp only [List.map_toArray, List.map_cons, List.map_nil]); first | done | rfl | (simp only [List.length_drop, List.length_take]; rfl)) ?_; (with_reducible refine (impl_ParseInt.calls x4_16 t175 t176 _ ?side1 A33.out).mono ?_); (case side1 => exact Go.Proofs.YtjckholdcgjdnaaDoorW.Envs.Env.below HENV.out (by repeat (first | (with_reducible first | exact HB.out | apply below_alloc | apply pw_below_drewN | apply below_drew1 | refine below_set ?_ GE164.out | refine below_set ?_ GE172.out) | exact HB.out))); rintro e w36 ⟨rfl, hb⟩; refine ⟨_, rfl, ?_⟩; have n0_ := AM (blk_below (g := gb164) (o := .cells #[.string (⟨#[]⟩ : ByteArray), .int .i64 0, .int .i64 0] 27 (0, 0)) (by (with_reducible repeat (first | refine blk_drewN ?_ _ | refine blk_drew ?_ | refine blk_alloc ?_ _)); exact BK164.out) hb); have n1_ := AM (blk_below (g := gb172) (o := .cells #[.string x173000_16, .int .i64 0, .int .i64 0] 27 (0, 0)) (by (with_reducible repeat (first | refine blk_drewN ?_ _ | refine blk_drew ?_ | refine blk_alloc ?_ _)); exact BK172.out) hb); have n2_ := AM (below_step (by repeat (first | (with_reducible first | exact HB.out | apply below_alloc | apply pw_below_drewN | apply below_drew1 | refine below_set ?_ GE164.out | refine below_set ?_ GE172.out) | exact HB.out)) hb); clear BK164; clear BK172; clear HB; have BK164 := n0_; have BK172 := n1_; have HB := n2_; clear n0_ n1_ n2_; (try clear hb); (try clear hb2); (try clear hk); (try clear hi)) | ((with_reducible refine gate_callee (f := 52) rfl ?_); refine goesL_ (some 67) rfl rfl Tryd.func52 (by kernel_rfl) rfl #[.string x5_24] rfl (by (try simp only [List.map_toArray, List.map_cons, List.map_nil]); first | done | rfl | (simp only [List.length_drop, List.length_take]; rfl)) ?_; (with_reducible refine (impl_ParseInt.calls x5_24 t177 t178 _ ?side1 A34.out).mono ?_); (case side1 => exact Go.Proofs.YtjckholdcgjdnaaDoorW.Envs.Env.below HENV.out (by repeat (first | (with_reducible first | exact HB.out | apply below_alloc | apply pw_below_drewN | apply below_drew1 | refine below_set ?_ GE164.out | refine below_set ?_ GE172.out) | exact HB.out))); rintro e w37 ⟨rfl, hb⟩; refine ⟨_, rfl, ?_⟩; have n0_ := AM (blk_below (g := gb164) (o := .cells #[.string (⟨#[]⟩ : ByteArray), .int .i64 0, .int .i64 0] 27 (0, 0)) (by (with_reducible repeat (first | refine blk_drewN ?_ _ | refine blk_drew ?_ | refine blk_alloc ?_ _)); exact BK164.out) hb); have n1_ := AM (blk_below (g := gb172) (o := .cells #[.string x173000_16, .int .i64 0, .int .i64 0] 27 (0, 0)) (by (with_reducible repeat (first | refine blk_drewN ?_ _ | refine blk_drew ?_ | refine blk_alloc ?_ _)); exact BK172.out) hb); have n2_ := AM (below_step (by repeat (first | (with_reducible first | exact HB.out | apply below_alloc | apply pw_below_drewN | apply below_drew1 | refine below_set ?_ GE164.out | refine below_set ?_ GE172.out) | exact HB.out)) hb); clear BK164; clear BK172; clear HB; have BK164 := n0_; have BK172 := n1_; have HB := n2_; clear n0_ n1_ n2_; (try clear hb); (try clear hb2); (try clear hk); (try clear hi); have hnb38 := NB172_164.out; have hnc38 := NB164_172.out; have hcz39_0 : w37.cell? ⟨gb172, 0, none⟩ = some (.string x173000_16) := (blk_cell BK172.out 0).trans rfl; have hcz39_1 : w37.cell? ⟨gb172, 1, none⟩ = some (.int .i64 0) := (blk_cell BK172.out 1).trans rfl; have hcz39_2 : w37.cell? ⟨gb172, 2, none⟩ = some (.int .i64 0) := (blk_cell BK172.out 2).trans rfl; have hfz39_0 := blk_frozen BK172.out 0; have hfz39_1 := blk_frozen BK172.out 1; have hfz39_2 := blk_frozen BK172.out 2))
         (try simp only [Act.put, sT, sZ, sS])
         go_cut [84] (fun v84 wc => ∃ (kq : Nat) (x84_34 : Bool), v84 = .bool x84_34 ∧ Aside0 (impl_ExpandRange.j3 kq a0 x84_34 x173000_16 t175 t177 = some (r1, r2, r3, r4)) ∧ Aside0 (kq ≤ kj24) ∧ Aside0 (wc.heap[gb164]? = some (.cells #[.string (⟨#[]⟩ : ByteArray), .int .i64 0, .int .i64 0] 27 (0, 0))) ∧ Aside0 (wc.heap[gb172]? = some (.cells #[.string x173000_16, .int .i64 t175, .int .i64 t177] 27 (0, 0))) ∧ Aside0 (Below w.heap.size w wc))
         case first =>
          have H := HC35.out
          clear HC35
          by_cases c40 : t176 = true
          ·subst c40
           have H1 : (if t178 = true then ((impl_isRange.f x173000_16 t175 t177).bind fun t179 => (impl_ExpandRange.j3 kj24 a0 (!t179) x173000_16 t175 t177)) else (impl_ExpandRange.j3 kj24 a0 true x173000_16 t175 t177)) = some (r1, r2, r3, r4) := by rw [if_pos rfl] at H; exact H
           clear H
           have H := H1
           clear H1
           by_cases c41 : t178 = true
           ·subst c41
            have H1 : ((impl_isRange.f x173000_16 t175 t177).bind fun t179 => (impl_ExpandRange.j3 kj24 a0 (!t179) x173000_16 t175 t177)) = some (r1, r2, r3, r4) := by rw [if_pos rfl] at H; exact H
            clear H
            have H := H1
            clear H1
            replace H := Option.bind_eq_some_iff.mp H
            obtain ⟨t179, A420, H⟩ := H
            replace H : (impl_ExpandRange.j3 kj24 a0 (!t179) x173000_16 t175 t177) = some (r1, r2, r3, r4) := H
            have A42 := AM A420
            clear A420
            have H' := AM H
            clear H
            have hnb43 := NB172_164.out
            have hnc43 := NB164_172.out
            have hcz44_0 : w37.cell? ⟨gb172, 0, none⟩ = some (.string x173000_16) := (blk_cell BK172.out 0).trans rfl
            have hcz44_1 : w37.cell? ⟨gb172, 1, none⟩ = some (.int .i64 0) := (blk_cell BK172.out 1).trans rfl
            have hcz44_2 : w37.cell? ⟨gb172, 2, none⟩ = some (.int .i64 0) := (blk_cell BK172.out 2).trans rfl
            have hfz44_0 := blk_frozen BK172.out 0
            have hfz44_1 := blk_frozen BK172.out 1
            have hfz44_2 := blk_frozen BK172.out 2
            go_wp2_with (first | (go_at_call 38; (with_reducible refine (impl_isRange.calls x173000_16 t175 t177 t179 _ A42.out).mono ?_); rintro e w45 ⟨rfl, hb⟩; have n0_ := AM (blk_below (g := gb164) (o := .cells #[.string (⟨#[]⟩ : ByteArray), .int .i64 0, .int .i64 0] 27 (0, 0)) (by (with_reducible repeat (first | refine blk_drewN ?_ _ | refine blk_drew ?_ | refine blk_alloc ?_ _)); refine blk_far ?_ NB164_172.out _; (with_reducible repeat (first | refine blk_drewN ?_ _ | refine blk_drew ?_ | refine blk_alloc ?_ _)); refine blk_far ?_ NB164_172.out _; (with_reducible repeat (first | refine blk_drewN ?_ _ | refine blk_drew ?_ | refine blk_alloc ?_ _)); exact BK164.out) hb); have n1_ := AM (blk_below (g := gb172) (o := .cells #[.string x173000_16, .int .i64 t175, .int .i64 t177] 27 (0, 0)) (by (with_reducible repeat (first | refine blk_drewN ?_ _ | refine blk_drew ?_ | refine blk_alloc ?_ _)); refine blk_put (cs := #[.string x173000_16, .int .i64 t175, .int .i64 0]) ?_ 2 _ rfl; (with_reducible repeat (first | refine blk_drewN ?_ _ | refine blk_drew ?_ | refine blk_alloc ?_ _)); refine blk_put (cs := #[.string x173000_16, .int .i64 0, .int .i64 0]) ?_ 1 _ rfl; (with_reducible repeat (first | refine blk_drewN ?_ _ | refine blk_drew ?_ | refine blk_alloc ?_ _)); exact BK172.out) hb); have n2_ := AM (below_step (by repeat (first | (with_reducible first | exact HB.out | apply below_alloc | apply pw_below_drewN | apply below_drew1 | refine below_set ?_ GE164.out | refine below_set ?_ GE172.out) | exact HB.out)) hb); clear BK164; clear BK172; clear HB; have BK164 := n0_; have BK172 := n1_; have HB := n2_; clear n0_ n1_ n2_; (try clear hb); (try clear hb2); (try clear hk); (try clear hi)))
            go_meet
            case rel => exact ⟨_, (!t179), (by first | rfl | (simp; done) | (simp [*]; done)), H', ⟨by have := HJ6.out; have := HJ16.out; have := HJ24.out; first | omega | exact Nat.le_refl _⟩, ⟨by (with_reducible repeat (first | refine blk_drewN ?_ _ | refine blk_drew ?_ | refine blk_alloc ?_ _)); exact BK164.out⟩, ⟨by (with_reducible repeat (first | refine blk_drewN ?_ _ | refine blk_drew ?_ | refine blk_alloc ?_ _)); exact BK172.out⟩, ⟨by repeat (first | (with_reducible first | exact HB.out | apply below_alloc | apply pw_below_drewN | apply below_drew1 | refine below_set ?_ GE164.out | refine below_set ?_ GE172.out) | exact HB.out)⟩⟩
           ·replace c41 := Bool.eq_false_iff.mpr c41
            subst c41
            have H1 : (impl_ExpandRange.j3 kj24 a0 true x173000_16 t175 t177) = some (r1, r2, r3, r4) := by rw [if_neg (show ¬ (false = true) by decide)] at H; exact H
            clear H
            have H := H1
            clear H1
            have H' := AM H
            clear H
            go_wp2
            go_meet
            case rel => exact ⟨_, (true), (by first | rfl | (simp; done) | (simp [*]; done)), H', ⟨by have := HJ6.out; have := HJ16.out; have := HJ24.out; first | omega | exact Nat.le_refl _⟩, ⟨by (with_reducible repeat (first | refine blk_drewN ?_ _ | refine blk_drew ?_ | refine blk_alloc ?_ _)); refine blk_far ?_ NB164_172.out _; (with_reducible repeat (first | refine blk_drewN ?_ _ | refine blk_drew ?_ | refine blk_alloc ?_ _)); refine blk_far ?_ NB164_172.out _; (with_reducible repeat (first | refine blk_drewN ?_ _ | refine blk_drew ?_ | refine blk_alloc ?_ _)); exact BK164.out⟩, ⟨by (with_reducible repeat (first | refine blk_drewN ?_ _ | refine blk_drew ?_ | refine blk_alloc ?_ _)); refine blk_put (cs := #[.string x173000_16, .int .i64 t175, .int .i64 0]) ?_ 2 _ rfl; (with_reducible repeat (first | refine blk_drewN ?_ _ | refine blk_drew ?_ | refine blk_alloc ?_ _)); refine blk_put (cs := #[.string x173000_16, .int .i64 0, .int .i64 0]) ?_ 1 _ rfl; (with_reducible repeat (first | refine blk_drewN ?_ _ | refine blk_drew ?_ | refine blk_alloc ?_ _)); exact BK172.out⟩, ⟨by repeat (first | (with_reducible first | exact HB.out | apply below_alloc | apply pw_below_drewN | apply below_drew1 | refine below_set ?_ GE164.out | refine below_set ?_ GE172.out) | exact HB.out)⟩⟩
          ·replace c40 := Bool.eq_false_iff.mpr c40
           subst c40
           have H1 : (impl_ExpandRange.j3 kj24 a0 true x173000_16 t175 t177) = some (r1, r2, r3, r4) := by rw [if_neg (show ¬ (false = true) by decide)] at H; exact H
           clear H
           have H := H1
           clear H1
           have H' := AM H
           clear H
           go_wp2
           go_meet
           case rel => exact ⟨_, (true), (by first | rfl | (simp; done) | (simp [*]; done)), H', ⟨by have := HJ6.out; have := HJ16.out; have := HJ24.out; first | omega | exact Nat.le_refl _⟩, ⟨by (with_reducible repeat (first | refine blk_drewN ?_ _ | refine blk_drew ?_ | refine blk_alloc ?_ _)); refine blk_far ?_ NB164_172.out _; (with_reducible repeat (first | refine blk_drewN ?_ _ | refine blk_drew ?_ | refine blk_alloc ?_ _)); refine blk_far ?_ NB164_172.out _; (with_reducible repeat (first | refine blk_drewN ?_ _ | refine blk_drew ?_ | refine blk_alloc ?_ _)); exact BK164.out⟩, ⟨by (with_reducible repeat (first | refine blk_drewN ?_ _ | refine blk_drew ?_ | refine blk_alloc ?_ _)); refine blk_put (cs := #[.string x173000_16, .int .i64 t175, .int .i64 0]) ?_ 2 _ rfl; (with_reducible repeat (first | refine blk_drewN ?_ _ | refine blk_drew ?_ | refine blk_alloc ?_ _)); refine blk_put (cs := #[.string x173000_16, .int .i64 0, .int .i64 0]) ?_ 1 _ rfl; (with_reducible repeat (first | refine blk_drewN ?_ _ | refine blk_drew ?_ | refine blk_alloc ?_ _)); exact BK172.out⟩, ⟨by repeat (first | (with_reducible first | exact HB.out | apply below_alloc | apply pw_below_drewN | apply below_drew1 | refine below_set ?_ GE164.out | refine below_set ?_ GE172.out) | exact HB.out)⟩⟩
         case rest =>
          clear HC35
          try clear c1
          try clear p1
          try clear q1
          try clear hx1
          try clear qi1
          try clear c2
          try clear c2b0
          try clear c2b1
          try clear p2
          try clear q2
          try clear c3
          try clear c4
          try clear q4
          try clear c5
          try clear c6
          try clear p6
          try clear q6
          try clear c11
          try clear c13
          try clear c13b0
          try clear c13b1
          try clear c13b2
          try clear c14
          try clear c14b0
          try clear c14b1
          try clear p15
          try clear q15
          try clear hx15
          try clear qi15
          try clear c18
          try clear c19
          try clear c19b0
          try clear c19b1
          try clear c20
          try clear c20b0
          try clear c20b1
          try clear c21
          try clear c21b0
          try clear c26
          try clear c28
          try clear c28b0
          try clear c28b1
          try clear c28b2
          try clear c30
          try clear c30b0
          try clear c30b1
          try clear c31
          try clear c31b0
          try clear c31b1
          try clear c32
          try clear c32b0
          try clear c32b1
          try clear c32b2
          try clear c38
          try clear c40
          try clear c41
          try clear c43
          try clear hcz12_0
          try clear hcz12_1
          try clear hcz12_2
          try clear hcz27_0
          try clear hcz27_1
          try clear hcz27_2
          try clear hcz39_0
          try clear hcz39_1
          try clear hcz39_2
          try clear hcz44_0
          try clear hcz44_1
          try clear hcz44_2
          try clear hcz4_0
          try clear hcz4_1
          try clear hcz4_2
          try clear hfz12_0
          try clear hfz12_1
          try clear hfz12_2
          try clear hfz27_0
          try clear hfz27_1
          try clear hfz27_2
          try clear hfz39_0
          try clear hfz39_1
          try clear hfz39_2
          try clear hfz44_0
          try clear hfz44_1
          try clear hfz44_2
          try clear hfz4_0
          try clear hfz4_1
          try clear hfz4_2
          try clear p1
          try clear p15
          try clear p2
          try clear p6
          try clear q1
          try clear q15
          try clear q2
          try clear q4
          try clear q6
          obtain ⟨kq, x84_34, rfl, HA, HJ34, BK164, BK172, HB⟩ := hcut
          cases kq with
          | zero => exact absurd HA.out (by simp [impl_ExpandRange.j3])
          | succ kj34 =>
           have H := HA.out
           clear HA
           simp only [impl_ExpandRange.j3] at H
           by_cases c46 : x84_34 = true
           ·subst c46
            have H1 : (some ((⟨#[]⟩ : ByteArray), 0, 0, false)) = some (r1, r2, r3, r4) := by rw [if_pos rfl] at H; exact H
            clear H
            have H := H1
            clear H1
            simp only [Option.some.injEq, Prod.mk.injEq] at H
            obtain ⟨rfl, rfl, rfl, rfl⟩ := H
            have hnb47 := NB164_172.out
            have hnc47 := NB172_164.out
            have hcz48_0 : wc.cell? ⟨gb164, 0, none⟩ = some (.string (⟨#[]⟩ : ByteArray)) := (blk_cell BK164.out 0).trans rfl
            have hcz48_1 : wc.cell? ⟨gb164, 1, none⟩ = some (.int .i64 0) := (blk_cell BK164.out 1).trans rfl
            have hcz48_2 : wc.cell? ⟨gb164, 2, none⟩ = some (.int .i64 0) := (blk_cell BK164.out 2).trans rfl
            have hfz48_0 := blk_frozen BK164.out 0
            have hfz48_1 := blk_frozen BK164.out 1
            have hfz48_2 := blk_frozen BK164.out 2
            go_wp2
            refine bodyPost_ret (results_ct rfl _ _ gb164 27 #[.string (⟨#[]⟩ : ByteArray), .int .i64 0, .int .i64 0] (0, 0) _ rfl (by (with_reducible repeat (first | refine blk_drewN ?_ _ | refine blk_drew ?_ | refine blk_alloc ?_ _)); refine blk_put (cs := #[.string (⟨#[]⟩ : ByteArray), .int .i64 0, .int .i64 0]) ?_ 2 _ rfl; (with_reducible repeat (first | refine blk_drewN ?_ _ | refine blk_drew ?_ | refine blk_alloc ?_ _)); refine blk_put (cs := #[.string (⟨#[]⟩ : ByteArray), .int .i64 0, .int .i64 0]) ?_ 1 _ rfl; (with_reducible repeat (first | refine blk_drewN ?_ _ | refine blk_drew ?_ | refine blk_alloc ?_ _)); refine blk_put (cs := #[.string (⟨#[]⟩ : ByteArray), .int .i64 0, .int .i64 0]) ?_ 0 _ rfl; (with_reducible repeat (first | refine blk_drewN ?_ _ | refine blk_drew ?_ | refine blk_alloc ?_ _)); exact BK164.out) Tryd.underlying27 rfl (by kernel_rfl)) rfl ?_
            exact ⟨by first | rfl | (simp [errW_none, errW_some] <;> rfl) | (simp [*, errW_none, errW_some] <;> rfl) | (simp [errW_none, errW_some] <;> (apply Bool.eq_iff_iff.2; simp [List.isEmpty_iff])), by repeat (first | (with_reducible first | exact HB.out | apply below_alloc | apply pw_below_drewN | apply below_drew1 | refine below_set ?_ GE164.out | refine below_set ?_ GE172.out) | exact HB.out)⟩
           ·replace c46 := Bool.eq_false_iff.mpr c46
            subst c46
            have H1 : (impl_ExpandRange.l0 kj34 a0 1 x173000_16 t175 t177) = some (r1, r2, r3, r4) := by rw [if_neg (show ¬ (false = true) by decide)] at H; exact H
            clear H
            have H := H1
            clear H1
            have H' := AM H
            clear H
            go_wp2
            go_loopg [12] kj34 (fun kq v12 w' => ∃ (x12_5 : Int) (x165000_5 : ByteArray) (x165001_5 : Int) (x165002_5 : Int), v12 = .int .i64 x12_5 ∧ Aside0 (impl_ExpandRange.l0 kq a0 x12_5 x173000_16 t175 t177 = some (r1, r2, r3, r4)) ∧ Aside0 (kq ≤ kj34) ∧ Aside0 (w'.heap[gb164]? = some (.cells #[.string x165000_5, .int .i64 x165001_5, .int .i64 x165002_5] 27 (0, 0))) ∧ Aside0 (w'.heap[gb172]? = some (.cells #[.string x173000_16, .int .i64 t175, .int .i64 t177] 27 (0, 0))) ∧ Aside0 (Below w.heap.size w w'))
            case atStart => exact ⟨(1), ((⟨#[]⟩ : ByteArray)), (0), (0), (by first | rfl | (simp; done) | (simp [*]; done)), H', ⟨Nat.le_refl _⟩, ⟨by (with_reducible repeat (first | refine blk_drewN ?_ _ | refine blk_drew ?_ | refine blk_alloc ?_ _)); exact BK164.out⟩, ⟨by (with_reducible repeat (first | refine blk_drewN ?_ _ | refine blk_drew ?_ | refine blk_alloc ?_ _)); exact BK172.out⟩, ⟨by repeat (first | (with_reducible first | exact HB.out | apply below_alloc | apply pw_below_drewN | apply below_drew1 | refine below_set ?_ GE164.out | refine below_set ?_ GE172.out) | exact HB.out)⟩⟩
            case round =>
             clear H'
             try clear c1
             try clear p1
             try clear q1
             try clear hx1
             try clear qi1
             try clear c2
             try clear c2b0
             try clear c2b1
             try clear p2
             try clear q2
             try clear c3
             try clear c4
             try clear q4
             try clear c5
             try clear c6
             try clear p6
             try clear q6
             try clear c11
             try clear c13
             try clear c13b0
             try clear c13b1
             try clear c13b2
             try clear c14
             try clear c14b0
             try clear c14b1
             try clear p15
             try clear q15
             try clear hx15
             try clear qi15
             try clear c18
             try clear c19
             try clear c19b0
             try clear c19b1
             try clear c20
             try clear c20b0
             try clear c20b1
             try clear c21
             try clear c21b0
             try clear c26
             try clear c28
             try clear c28b0
             try clear c28b1
             try clear c28b2
             try clear c30
             try clear c30b0
             try clear c30b1
             try clear c31
             try clear c31b0
             try clear c31b1
             try clear c32
             try clear c32b0
             try clear c32b1
             try clear c32b2
             try clear c38
             try clear c40
             try clear c41
             try clear c43
             try clear c46
             try clear c47
             try clear hcz12_0
             try clear hcz12_1
             try clear hcz12_2
             try clear hcz27_0
             try clear hcz27_1
             try clear hcz27_2
             try clear hcz39_0
             try clear hcz39_1
             try clear hcz39_2
             try clear hcz44_0
             try clear hcz44_1
             try clear hcz44_2
             try clear hcz48_0
             try clear hcz48_1
             try clear hcz48_2
             try clear hcz4_0
             try clear hcz4_1
             try clear hcz4_2
             try clear hfz12_0
             try clear hfz12_1
             try clear hfz12_2
             try clear hfz27_0
             try clear hfz27_1
             try clear hfz27_2
             try clear hfz39_0
             try clear hfz39_1
             try clear hfz39_2
             try clear hfz44_0
             try clear hfz44_1
             try clear hfz44_2
             try clear hfz48_0
             try clear hfz48_1
             try clear hfz48_2
             try clear hfz4_0
             try clear hfz4_1
             try clear hfz4_2
             try clear p1
             try clear p15
             try clear p2
             try clear p6
             try clear q1
             try clear q15
             try clear q2
             try clear q4
             try clear q6
             obtain ⟨x12_5, x165000_5, x165001_5, x165002_5, rfl, HA, HK5, BK164, BK172, HB⟩ := hrel
             cases gk with
             | zero => exact absurd HA.out (by simp [impl_ExpandRange.l0])
             | succ k5 =>
              have H := HA.out
              clear HA
              simp only [impl_ExpandRange.l0] at H
              by_cases c49 : x12_5 ≤ 3
              ·rw [if_pos c49] at H
               have c49b0 : decide (x12_5 ≤ 3) = true := decide_eq_true c49
               clear c49
               replace H := Option.bind_eq_some_iff.mp H
               obtain ⟨t180, A500, H⟩ := H
               replace H : (if t180.toList = a0.toList then (some (x173000_16, t175, t177, true)) else (impl_ExpandRange.l0 k5 a0 (wrap64 (x12_5 + 1)) x173000_16 t175 t177)) = some (r1, r2, r3, r4) := H
               have A50 := AM A500
               clear A500
               by_cases c51 : t180.toList = a0.toList
               ·rw [if_pos c51] at H
                have c51b0 : (t180.toList == a0.toList) = true := beq_iff_eq.mpr c51
                have c51b1 : (t180.toList != a0.toList) = false := bne_eq_false_iff_eq.mpr c51
                clear c51
                simp only [Option.some.injEq, Prod.mk.injEq] at H
                obtain ⟨rfl, rfl, rfl, rfl⟩ := H
                have hnb52 := NB172_164.out
                have hnc52 := NB164_172.out
                have hcz53_0 : wr.cell? ⟨gb172, 0, none⟩ = some (.string x173000_16) := (blk_cell BK172.out 0).trans rfl
                have hcz53_1 : wr.cell? ⟨gb172, 1, none⟩ = some (.int .i64 t175) := (blk_cell BK172.out 1).trans rfl
                have hcz53_2 : wr.cell? ⟨gb172, 2, none⟩ = some (.int .i64 t177) := (blk_cell BK172.out 2).trans rfl
                have hfz53_0 := blk_frozen BK172.out 0
                have hfz53_1 := blk_frozen BK172.out 1
                have hfz53_2 := blk_frozen BK172.out 2
                go_wp2_with (first | ((with_reducible refine gate_callee (f := 40) rfl ?_); refine goesL_ (some 92) rfl rfl Tryd.func40 (by kernel_rfl) rfl #[.agg #[.string x173000_16, .int .i64 t175, .int .i64 t177], .int .i64 x12_5] rfl (by (try simp only [List.map_toArray, List.map_cons, List.map_nil]); first | done | rfl | (simp only [List.length_drop, List.length_take]; rfl)) ?_; (with_reducible refine (impl_collapseRange.calls k5 x173000_16 t175 t177 x12_5 t180 _ ?side1 A50.out).mono ?_); (case side1 => exact Go.Proofs.YtjckholdcgjdnaaDoorW.Envs.Env.below (Go.Proofs.YtjckholdcgjdnaaDoorW.Envs.Env.sub HENV.out (S := [1]) (by decide)) (by repeat (first | (with_reducible first | exact HB.out | apply below_alloc | apply pw_below_drewN | apply below_drew1 | refine below_set ?_ GE164.out | refine below_set ?_ GE172.out) | exact HB.out))); rintro e w54 ⟨rfl, hb⟩; refine ⟨_, rfl, ?_⟩; have n0_ := AM (blk_below (g := gb164) (o := .cells #[.string x165000_5, .int .i64 x165001_5, .int .i64 x165002_5] 27 (0, 0)) (by (with_reducible repeat (first | refine blk_drewN ?_ _ | refine blk_drew ?_ | refine blk_alloc ?_ _)); exact BK164.out) hb); have n1_ := AM (blk_below (g := gb172) (o := .cells #[.string x173000_16, .int .i64 t175, .int .i64 t177] 27 (0, 0)) (by (with_reducible repeat (first | refine blk_drewN ?_ _ | refine blk_drew ?_ | refine blk_alloc ?_ _)); exact BK172.out) hb); have n2_ := AM (below_step (by repeat (first | (with_reducible first | exact HB.out | apply below_alloc | apply pw_below_drewN | apply below_drew1 | refine below_set ?_ GE164.out | refine below_set ?_ GE172.out) | exact HB.out)) hb); clear BK164; clear BK172; clear HB; have BK164 := n0_; have BK172 := n1_; have HB := n2_; clear n0_ n1_ n2_; (try clear hb); (try clear hb2); (try clear hk); (try clear hi); have hcz55_0 : w54.cell? ⟨gb172, 0, none⟩ = some (.string x173000_16) := (blk_cell BK172.out 0).trans rfl; have hcz55_1 : w54.cell? ⟨gb172, 1, none⟩ = some (.int .i64 t175) := (blk_cell BK172.out 1).trans rfl; have hcz55_2 : w54.cell? ⟨gb172, 2, none⟩ = some (.int .i64 t177) := (blk_cell BK172.out 2).trans rfl; have hfz55_0 := blk_frozen BK172.out 0; have hfz55_1 := blk_frozen BK172.out 1; have hfz55_2 := blk_frozen BK172.out 2; have hcz56_0 : w54.cell? ⟨gb164, 0, none⟩ = some (.string x165000_5) := (blk_cell BK164.out 0).trans rfl; have hcz56_1 : w54.cell? ⟨gb164, 1, none⟩ = some (.int .i64 x165001_5) := (blk_cell BK164.out 1).trans rfl; have hcz56_2 : w54.cell? ⟨gb164, 2, none⟩ = some (.int .i64 x165002_5) := (blk_cell BK164.out 2).trans rfl; have hfz56_0 := blk_frozen BK164.out 0; have hfz56_1 := blk_frozen BK164.out 1; have hfz56_2 := blk_frozen BK164.out 2))
                refine bodyPost_ret (results_ct rfl _ _ gb164 27 #[.string x173000_16, .int .i64 t175, .int .i64 t177] (0, 0) _ rfl (by (with_reducible repeat (first | refine blk_drewN ?_ _ | refine blk_drew ?_ | refine blk_alloc ?_ _)); refine blk_put (cs := #[.string x173000_16, .int .i64 t175, .int .i64 x165002_5]) ?_ 2 _ rfl; (with_reducible repeat (first | refine blk_drewN ?_ _ | refine blk_drew ?_ | refine blk_alloc ?_ _)); refine blk_put (cs := #[.string x173000_16, .int .i64 x165001_5, .int .i64 x165002_5]) ?_ 1 _ rfl; (with_reducible repeat (first | refine blk_drewN ?_ _ | refine blk_drew ?_ | refine blk_alloc ?_ _)); refine blk_put (cs := #[.string x165000_5, .int .i64 x165001_5, .int .i64 x165002_5]) ?_ 0 _ rfl; (with_reducible repeat (first | refine blk_drewN ?_ _ | refine blk_drew ?_ | refine blk_alloc ?_ _)); exact BK164.out) Tryd.underlying27 rfl (by kernel_rfl)) rfl ?_
                exact ⟨by first | rfl | (simp [errW_none, errW_some] <;> rfl) | (simp [*, errW_none, errW_some] <;> rfl) | (simp [errW_none, errW_some] <;> (apply Bool.eq_iff_iff.2; simp [List.isEmpty_iff])), by repeat (first | (with_reducible first | exact HB.out | apply below_alloc | apply pw_below_drewN | apply below_drew1 | refine below_set ?_ GE164.out | refine below_set ?_ GE172.out) | exact HB.out)⟩
               ·rw [if_neg c51] at H
                have c51b0 : (t180.toList == a0.toList) = false := beq_eq_false_iff_ne.mpr c51
                have c51b1 : (t180.toList != a0.toList) = true := bne_iff_ne.mpr c51
                have H' := AM H
                clear H
                have hnb57 := NB172_164.out
                have hnc57 := NB164_172.out
                have hcz58_0 : wr.cell? ⟨gb172, 0, none⟩ = some (.string x173000_16) := (blk_cell BK172.out 0).trans rfl
                have hcz58_1 : wr.cell? ⟨gb172, 1, none⟩ = some (.int .i64 t175) := (blk_cell BK172.out 1).trans rfl
                have hcz58_2 : wr.cell? ⟨gb172, 2, none⟩ = some (.int .i64 t177) := (blk_cell BK172.out 2).trans rfl
                have hfz58_0 := blk_frozen BK172.out 0
                have hfz58_1 := blk_frozen BK172.out 1
                have hfz58_2 := blk_frozen BK172.out 2
                go_wp2_with (first | ((with_reducible refine gate_callee (f := 40) rfl ?_); refine goesL_ (some 92) rfl rfl Tryd.func40 (by kernel_rfl) rfl #[.agg #[.string x173000_16, .int .i64 t175, .int .i64 t177], .int .i64 x12_5] rfl (by (try simp only [List.map_toArray, List.map_cons, List.map_nil]); first | done | rfl | (simp only [List.length_drop, List.length_take]; rfl)) ?_; (with_reducible refine (impl_collapseRange.calls k5 x173000_16 t175 t177 x12_5 t180 _ ?side1 A50.out).mono ?_); (case side1 => exact Go.Proofs.YtjckholdcgjdnaaDoorW.Envs.Env.below (Go.Proofs.YtjckholdcgjdnaaDoorW.Envs.Env.sub HENV.out (S := [1]) (by decide)) (by repeat (first | (with_reducible first | exact HB.out | apply below_alloc | apply pw_below_drewN | apply below_drew1 | refine below_set ?_ GE164.out | refine below_set ?_ GE172.out) | exact HB.out))); rintro e w59 ⟨rfl, hb⟩; refine ⟨_, rfl, ?_⟩; have n0_ := AM (blk_below (g := gb164) (o := .cells #[.string x165000_5, .int .i64 x165001_5, .int .i64 x165002_5] 27 (0, 0)) (by (with_reducible repeat (first | refine blk_drewN ?_ _ | refine blk_drew ?_ | refine blk_alloc ?_ _)); exact BK164.out) hb); have n1_ := AM (blk_below (g := gb172) (o := .cells #[.string x173000_16, .int .i64 t175, .int .i64 t177] 27 (0, 0)) (by (with_reducible repeat (first | refine blk_drewN ?_ _ | refine blk_drew ?_ | refine blk_alloc ?_ _)); exact BK172.out) hb); have n2_ := AM (below_step (by repeat (first | (with_reducible first | exact HB.out | apply below_alloc | apply pw_below_drewN | apply below_drew1 | refine below_set ?_ GE164.out | refine below_set ?_ GE172.out) | exact HB.out)) hb); clear BK164; clear BK172; clear HB; have BK164 := n0_; have BK172 := n1_; have HB := n2_; clear n0_ n1_ n2_; (try clear hb); (try clear hb2); (try clear hk); (try clear hi)))
                go_roundg k5
                case measure => have := HJ6.out; have := HJ16.out; have := HJ24.out; have := HJ34.out; have := HK5.out; omega
                case rel => exact ⟨(wrap64 (x12_5 + 1)), (x165000_5), (x165001_5), (x165002_5), (by first | rfl | (simp; done) | (simp [*]; done)), H', ⟨by have := HJ6.out; have := HJ16.out; have := HJ24.out; have := HJ34.out; have := HK5.out; omega⟩, ⟨by (with_reducible repeat (first | refine blk_drewN ?_ _ | refine blk_drew ?_ | refine blk_alloc ?_ _)); exact BK164.out⟩, ⟨by (with_reducible repeat (first | refine blk_drewN ?_ _ | refine blk_drew ?_ | refine blk_alloc ?_ _)); exact BK172.out⟩, ⟨by repeat (first | (with_reducible first | exact HB.out | apply below_alloc | apply pw_below_drewN | apply below_drew1 | refine below_set ?_ GE164.out | refine below_set ?_ GE172.out) | exact HB.out)⟩⟩
              ·rw [if_neg c49] at H
               have c49b0 : decide (x12_5 ≤ 3) = false := decide_eq_false c49
               clear c49
               simp only [Option.some.injEq, Prod.mk.injEq] at H
               obtain ⟨rfl, rfl, rfl, rfl⟩ := H
               have hnb60 := NB164_172.out
               have hnc60 := NB172_164.out
               have hcz61_0 : wr.cell? ⟨gb164, 0, none⟩ = some (.string x165000_5) := (blk_cell BK164.out 0).trans rfl
               have hcz61_1 : wr.cell? ⟨gb164, 1, none⟩ = some (.int .i64 x165001_5) := (blk_cell BK164.out 1).trans rfl
               have hcz61_2 : wr.cell? ⟨gb164, 2, none⟩ = some (.int .i64 x165002_5) := (blk_cell BK164.out 2).trans rfl
               have hfz61_0 := blk_frozen BK164.out 0
               have hfz61_1 := blk_frozen BK164.out 1
               have hfz61_2 := blk_frozen BK164.out 2
               go_wp2
               refine bodyPost_ret (results_ct rfl _ _ gb164 27 #[.string (⟨#[]⟩ : ByteArray), .int .i64 0, .int .i64 0] (0, 0) _ rfl (by (with_reducible repeat (first | refine blk_drewN ?_ _ | refine blk_drew ?_ | refine blk_alloc ?_ _)); refine blk_put (cs := #[.string (⟨#[]⟩ : ByteArray), .int .i64 0, .int .i64 x165002_5]) ?_ 2 _ rfl; (with_reducible repeat (first | refine blk_drewN ?_ _ | refine blk_drew ?_ | refine blk_alloc ?_ _)); refine blk_put (cs := #[.string (⟨#[]⟩ : ByteArray), .int .i64 x165001_5, .int .i64 x165002_5]) ?_ 1 _ rfl; (with_reducible repeat (first | refine blk_drewN ?_ _ | refine blk_drew ?_ | refine blk_alloc ?_ _)); refine blk_put (cs := #[.string x165000_5, .int .i64 x165001_5, .int .i64 x165002_5]) ?_ 0 _ rfl; (with_reducible repeat (first | refine blk_drewN ?_ _ | refine blk_drew ?_ | refine blk_alloc ?_ _)); exact BK164.out) Tryd.underlying27 rfl (by kernel_rfl)) rfl ?_
               exact ⟨by first | rfl | (simp [errW_none, errW_some] <;> rfl) | (simp [*, errW_none, errW_some] <;> rfl) | (simp [errW_none, errW_some] <;> (apply Bool.eq_iff_iff.2; simp [List.isEmpty_iff])), by repeat (first | (with_reducible first | exact HB.out | apply below_alloc | apply pw_below_drewN | apply below_drew1 | refine below_set ?_ GE164.out | refine below_set ?_ GE172.out) | exact HB.out)⟩
  ·replace c6 := Bool.eq_false_iff.mpr c6
   subst c6
   have H1 : ((impl_parseRange.f k a0).bind fun bt168 => (some (bt168.1, bt168.2.1, bt168.2.2.1, bt168.2.2.2))) = some (r1, r2, r3, r4) := by rw [if_neg (show ¬ (false = true) by decide)] at H; exact H
   clear H
   have H := H1
   clear H1
   replace H := Option.bind_eq_some_iff.mp H
   obtain ⟨⟨t168, t169, t170, t171⟩, A620, H⟩ := H
   replace H : (some (t168, t169, t170, t171)) = some (r1, r2, r3, r4) := H
   have A62 := AM A620
   clear A620
   simp only [Option.some.injEq, Prod.mk.injEq] at H
   obtain ⟨rfl, rfl, rfl, rfl⟩ := H
   go_enter Tryd.func19, Tryd.ntmps19
   go_wp2_with (first | ((with_reducible refine gate_dst (N := 2) rfl ?_); refine box_event ?hg (N := 2) ?hd (cs := #[.string (⟨#[]⟩ : ByteArray), .int .i64 0, .int .i64 0]) (t := 27) ?hr ?_; (case hd => rfl); (case hg => rfl); (case hr => first | (go_simp; done) | (go_simp; rfl)); intro gb164 hg w63 hbox hb; have n0_ := AM (below_step (by repeat (first | (with_reducible first | exact HB.out | apply below_alloc | apply pw_below_drewN | apply below_drew1) | exact HB.out)) hb); have n1_ := AM (hbox); have n2_ := AM ((by rw [hg]; exact (below_size (by repeat (first | (with_reducible first | exact HB.out | apply below_alloc | apply pw_below_drewN | apply below_drew1) | exact HB.out))) : w.heap.size ≤ gb164)); have n3_ := AM ((by rw [hg]; exact (below_size (by repeat (first | (with_reducible first | exact HB.out | apply below_alloc | apply pw_below_drewN | apply below_drew1) | exact HB.out))) : w.heap.size ≤ gb164)); clear HB; have HB := n0_; have BK164 := n1_; have GW164 := n2_; have GE164 := n3_; clear n0_ n1_ n2_ n3_; clear hb hbox hg) | ((with_reducible refine gate_callee (f := 48) rfl ?_); refine goesL_ (some 19) rfl rfl Tryd.func48 (by kernel_rfl) rfl #[.string a0, .string (⟨#[45]⟩ : ByteArray)] rfl (by (try simp only [List.map_toArray, List.map_cons, List.map_nil]); first | done | rfl | (simp only [List.length_drop, List.length_take]; rfl)) ?_; (with_reducible refine (strings_Cut.calls a0 (⟨#[45]⟩ : ByteArray) t165 t166 false _ ?side1 A5.out).mono ?_); (case side1 => exact Go.Proofs.YtjckholdcgjdnaaDoorW.Envs.Env.below (Go.Proofs.YtjckholdcgjdnaaDoorW.Envs.Env.sub HENV.out (S := [0]) (by decide)) (by repeat (first | (with_reducible first | exact HB.out | apply below_alloc | apply pw_below_drewN | apply below_drew1 | refine below_set ?_ GE164.out) | exact HB.out))); rintro e w64 ⟨rfl, hb⟩; refine ⟨_, rfl, ?_⟩; have n0_ := AM (blk_below (g := gb164) (o := .cells #[.string (⟨#[]⟩ : ByteArray), .int .i64 0, .int .i64 0] 27 (0, 0)) (by (with_reducible repeat (first | refine blk_drewN ?_ _ | refine blk_drew ?_ | refine blk_alloc ?_ _)); exact BK164.out) hb); have n1_ := AM (below_step (by repeat (first | (with_reducible first | exact HB.out | apply below_alloc | apply pw_below_drewN | apply below_drew1 | refine below_set ?_ GE164.out) | exact HB.out)) hb); clear BK164; clear HB; have BK164 := n0_; have HB := n1_; clear n0_ n1_; (try clear hb); (try clear hb2); (try clear hk); (try clear hi)) | ((with_reducible refine gate_callee (f := 49) rfl ?_); refine goesL_ (some 26) rfl rfl Tryd.func49 (by kernel_rfl) rfl #[.string a0] rfl (by (try simp only [List.map_toArray, List.map_cons, List.map_nil]); first | done | rfl | (simp only [List.length_drop, List.length_take]; rfl)) ?_; (with_reducible refine (impl_parseRange.calls k a0 t168 t169 t170 t171 _ ?side1 A62.out).mono ?_); (case side1 => exact Go.Proofs.YtjckholdcgjdnaaDoorW.Envs.Env.below HENV.out (by repeat (first | (with_reducible first | exact HB.out | apply below_alloc | apply pw_below_drewN | apply below_drew1 | refine below_set ?_ GE164.out) | exact HB.out))); rintro e w65 ⟨rfl, hb⟩; refine ⟨_, rfl, ?_⟩; have n0_ := AM (blk_below (g := gb164) (o := .cells #[.string (⟨#[]⟩ : ByteArray), .int .i64 0, .int .i64 0] 27 (0, 0)) (by (with_reducible repeat (first | refine blk_drewN ?_ _ | refine blk_drew ?_ | refine blk_alloc ?_ _)); exact BK164.out) hb); have n1_ := AM (below_step (by repeat (first | (with_reducible first | exact HB.out | apply below_alloc | apply pw_below_drewN | apply below_drew1 | refine below_set ?_ GE164.out) | exact HB.out)) hb); clear BK164; clear HB; have BK164 := n0_; have HB := n1_; clear n0_ n1_; (try clear hb); (try clear hb2); (try clear hk); (try clear hi); have hcz66_0 : w65.cell? ⟨gb164, 0, none⟩ = some (.string (⟨#[]⟩ : ByteArray)) := (blk_cell BK164.out 0).trans rfl; have hcz66_1 : w65.cell? ⟨gb164, 1, none⟩ = some (.int .i64 0) := (blk_cell BK164.out 1).trans rfl; have hcz66_2 : w65.cell? ⟨gb164, 2, none⟩ = some (.int .i64 0) := (blk_cell BK164.out 2).trans rfl; have hfz66_0 := blk_frozen BK164.out 0; have hfz66_1 := blk_frozen BK164.out 1; have hfz66_2 := blk_frozen BK164.out 2))
   refine bodyPost_ret (results_ct rfl _ _ gb164 27 #[.string t168, .int .i64 t169, .int .i64 t170] (0, 0) _ rfl (by (with_reducible repeat (first | refine blk_drewN ?_ _ | refine blk_drew ?_ | refine blk_alloc ?_ _)); refine blk_put (cs := #[.string t168, .int .i64 t169, .int .i64 0]) ?_ 2 _ rfl; (with_reducible repeat (first | refine blk_drewN ?_ _ | refine blk_drew ?_ | refine blk_alloc ?_ _)); refine blk_put (cs := #[.string t168, .int .i64 0, .int .i64 0]) ?_ 1 _ rfl; (with_reducible repeat (first | refine blk_drewN ?_ _ | refine blk_drew ?_ | refine blk_alloc ?_ _)); refine blk_put (cs := #[.string (⟨#[]⟩ : ByteArray), .int .i64 0, .int .i64 0]) ?_ 0 _ rfl; (with_reducible repeat (first | refine blk_drewN ?_ _ | refine blk_drew ?_ | refine blk_alloc ?_ _)); exact BK164.out) Tryd.underlying27 rfl (by kernel_rfl)) rfl ?_
   exact ⟨by first | rfl | (simp [errW_none, errW_some] <;> rfl) | (simp [*, errW_none, errW_some] <;> rfl) | (simp [errW_none, errW_some] <;> (apply Bool.eq_iff_iff.2; simp [List.isEmpty_iff])), by repeat (first | (with_reducible first | exact HB.out | apply below_alloc | apply pw_below_drewN | apply below_drew1 | refine below_set ?_ GE164.out) | exact HB.out)⟩

end Go.Proofs.YtjckholdcgjdnaaDoor.Px
