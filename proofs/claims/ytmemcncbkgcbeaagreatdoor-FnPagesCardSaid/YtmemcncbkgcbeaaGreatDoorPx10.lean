/- Calls of Go functions come to what the Lean functions beside them say; written by a program of this session (wip/xprint); no conditions. -/
import Derived.Test.YtmemcncbkgcbeaaGreatDoorPx8
import Derived.Test.YtmemcncbkgcbeaaGreatDoorPx9
namespace Go.Proofs.YtmemcncbkgcbeaaGreatDoor.Px
open Go.RowKit Go.Proofs.YtmemcncbkgcbeaaGreatDoorW.PrintWords Go.Proofs.YtmemcncbkgcbeaaGreatDoorW.PrintLast Go.Proofs.YtmemcncbkgcbeaaGreatDoorW.PrintMore
attribute [local go_sem] max2_int min2_int max_two min_two max_three min_three max_four min_four   -- for this text's walks alone
set_option linter.unusedVariables false
set_option linter.unusedSimpArgs false
attribute [local go_sem high] eqA34
/-! ### laws_FnPages: function 3 -/
mutual
def laws_FnPages.j0 : Nat → List Int → List (S34) → ByteArray → Bool → Bool → Option (Bool)
 | 0, _, _, _, _, _ => none
 | k + 1, x0, x3, x4, x5, x55 => if x55 = true then (some false) else (if x5 = true then ((impl_ParsePages.f k x4).bind fun bt409 => (if bt409.2 = true then ((laws_rRanges.f k bt409.1 x3).bind fun t413 => (if t413 = true then (laws_FnPages.j1 k x0) else (some false))) else (some false))) else (laws_FnPages.j1 k x0))
def laws_FnPages.j1 : Nat → List Int → Option (Bool)
 | 0, _ => none
 | k + 1, x0 => (spec_DrawParsePages.f k x0).bind fun t414 => ((impl_ParsePages.f k t414).bind fun bt415 => ((spec_ParsePages.f k t414).bind fun bt419 => (if (bt415.2 != bt419.2) = true then (laws_FnPages.j2 k x0 true) else ((laws_rRanges.f k bt415.1 bt419.1).bind fun t423 => (laws_FnPages.j2 k x0 (!t423))))))
def laws_FnPages.j2 : Nat → List Int → Bool → Option (Bool)
 | 0, _, _ => none
 | k + 1, x0, x90 => if x90 = true then (some false) else ((spec_DrawCollapseRange.f x0).bind fun bt424 => ((impl_CollapseRange.f k bt424.1 bt424.2.1 bt424.2.2.1 bt424.2.2.2).bind fun bt429 => ((spec_CollapseRange.f k bt424.1 bt424.2.1 bt424.2.2.1 bt424.2.2.2).bind fun bt431 => (if bt429.1.toList = bt431.1.toList then (laws_FnPages.j3 k x0 bt429.1 bt429.2 (bt429.2 != bt431.2) bt424.1 bt424.2.1 bt424.2.2.1) else (laws_FnPages.j3 k x0 bt429.1 bt429.2 true bt424.1 bt424.2.1 bt424.2.2.1)))))
def laws_FnPages.j3 : Nat → List Int → ByteArray → Bool → Bool → ByteArray → Int → Int → Option (Bool)
 | 0, _, _, _, _, _, _, _ => none
 | k + 1, x0, x17, x18, x115, x429000, x429001, x429002 => if x115 = true then (some false) else (if x18 = true then ((impl_ExpandRange.f k x17).bind fun bt433 => (if bt433.2.2.2 = true then (laws_FnPages.j4 k x0 (!(bt433.1.toList == x429000.toList) || (!(bt433.2.1 == x429001) || (!(bt433.2.2.1 == x429002))))) else (laws_FnPages.j4 k x0 true))) else ((spec_DrawExpandRange.f k x0).bind fun t449 => ((impl_ExpandRange.f k t449).bind fun bt450 => ((spec_ExpandRange.f k t449).bind fun bt455 => (if (bt450.1.toList == bt455.1.toList && (bt450.2.1 == bt455.2.1 && (bt450.2.2.1 == bt455.2.2.1))) = true then (some (bt450.2.2.2 == bt455.2.2.2)) else (some false))))))
def laws_FnPages.j4 : Nat → List Int → Bool → Option (Bool)
 | 0, _, _ => none
 | k + 1, x0, x128 => if x128 = true then (some false) else ((spec_DrawExpandRange.f k x0).bind fun t438 => ((impl_ExpandRange.f k t438).bind fun bt439 => ((spec_ExpandRange.f k t438).bind fun bt444 => (if (bt439.1.toList == bt444.1.toList && (bt439.2.1 == bt444.2.1 && (bt439.2.2.1 == bt444.2.2.1))) = true then (some (bt439.2.2.2 == bt444.2.2.2)) else (some false)))))
end
def laws_FnPages.f (k : Nat) (l0 : List Int) : Option (Bool) := (laws_rBig.f l0).bind fun t400 => (if t400 = true then (some true) else ((spec_DrawFormatPages.f k l0).bind fun t401 => ((impl_FormatPages.f k t401).bind fun bt404 => ((spec_FormatPages.f k t401).bind fun bt406 => (if bt404.1.toList = bt406.1.toList then (if (bt404.2 != bt406.2) = true then (laws_FnPages.j0 k l0 t401 bt404.1 bt404.2 true) else ((impl_IsValidPages.f t401).bind fun t408 => (laws_FnPages.j0 k l0 t401 bt404.1 bt404.2 (bt404.2 != t408)))) else (laws_FnPages.j0 k l0 t401 bt404.1 bt404.2 true))))))
theorem laws_FnPages.mono_l : ∀ k, (∀ y0 y1 y2 y3 y4, LeO (laws_FnPages.j0 k y0 y1 y2 y3 y4) (laws_FnPages.j0 (k + 1) y0 y1 y2 y3 y4)) ∧ (∀ y0, LeO (laws_FnPages.j1 k y0) (laws_FnPages.j1 (k + 1) y0)) ∧ (∀ y0 y1, LeO (laws_FnPages.j2 k y0 y1) (laws_FnPages.j2 (k + 1) y0 y1)) ∧ (∀ y0 y1 y2 y3 y4 y5 y6, LeO (laws_FnPages.j3 k y0 y1 y2 y3 y4 y5 y6) (laws_FnPages.j3 (k + 1) y0 y1 y2 y3 y4 y5 y6)) ∧ (∀ y0 y1, LeO (laws_FnPages.j4 k y0 y1) (laws_FnPages.j4 (k + 1) y0 y1))
 | 0 => ⟨fun _ _ _ _ _ r h => by simp [laws_FnPages.j0] at h, fun _ r h => by simp [laws_FnPages.j1] at h, fun _ _ r h => by simp [laws_FnPages.j2] at h, fun _ _ _ _ _ _ _ r h => by simp [laws_FnPages.j3] at h, fun _ _ r h => by simp [laws_FnPages.j4] at h⟩
 | k + 1 => by
  obtain ⟨ih0, ih1, ih2, ih3, ih4⟩ := laws_FnPages.mono_l k
  refine ⟨?_, ?_, ?_, ?_, ?_⟩
  ·intro y0 y1 y2 y3 y4
   unfold laws_FnPages.j0
   repeat' first
   | (with_reducible exact ih0 _ _ _ _ _)
   | (with_reducible exact ih1 _)
   | (with_reducible exact ih2 _ _)
   | (with_reducible exact ih3 _ _ _ _ _ _ _)
   | (with_reducible exact ih4 _ _)
   | (with_reducible exact impl_CollapseRange.mono _ _ _ _ _)
   | (with_reducible exact impl_ExpandRange.mono _ _)
   | (with_reducible exact impl_FormatPages.mono _ _)
   | (with_reducible exact impl_ParsePages.mono _ _)
   | (with_reducible exact laws_rRanges.mono _ _ _)
   | (with_reducible exact spec_CollapseRange.mono _ _ _ _ _)
   | (with_reducible exact spec_DrawExpandRange.mono _ _)
   | (with_reducible exact spec_DrawFormatPages.mono _ _)
   | (with_reducible exact spec_DrawParsePages.mono _ _)
   | (with_reducible exact spec_ExpandRange.mono _ _)
   | (with_reducible exact spec_FormatPages.mono _ _)
   | (with_reducible exact spec_ParsePages.mono _ _)
   | (with_reducible exact LeO.refl _)
   | (with_reducible exact LeO.none _)
   | (with_reducible refine LeO.ite ?_ ?_)
   | (with_reducible refine LeO.bind ?_ (fun _ => ?_))
   | exact ih0 _ _ _ _ _
   | exact ih1 _
   | exact ih2 _ _
   | exact ih3 _ _ _ _ _ _ _
   | exact ih4 _ _
   | exact impl_CollapseRange.mono _ _ _ _ _
   | exact impl_ExpandRange.mono _ _
   | exact impl_FormatPages.mono _ _
   | exact impl_ParsePages.mono _ _
   | exact laws_rRanges.mono _ _ _
   | exact spec_CollapseRange.mono _ _ _ _ _
   | exact spec_DrawExpandRange.mono _ _
   | exact spec_DrawFormatPages.mono _ _
   | exact spec_DrawParsePages.mono _ _
   | exact spec_ExpandRange.mono _ _
   | exact spec_FormatPages.mono _ _
   | exact spec_ParsePages.mono _ _
   | exact LeO.none _
   | refine LeO.ite ?_ ?_
   | refine LeO.bind ?_ (fun _ => ?_)
  ·intro y0
   unfold laws_FnPages.j1
   repeat' first
   | (with_reducible exact ih0 _ _ _ _ _)
   | (with_reducible exact ih1 _)
   | (with_reducible exact ih2 _ _)
   | (with_reducible exact ih3 _ _ _ _ _ _ _)
   | (with_reducible exact ih4 _ _)
   | (with_reducible exact impl_CollapseRange.mono _ _ _ _ _)
   | (with_reducible exact impl_ExpandRange.mono _ _)
   | (with_reducible exact impl_FormatPages.mono _ _)
   | (with_reducible exact impl_ParsePages.mono _ _)
   | (with_reducible exact laws_rRanges.mono _ _ _)
   | (with_reducible exact spec_CollapseRange.mono _ _ _ _ _)
   | (with_reducible exact spec_DrawExpandRange.mono _ _)
   | (with_reducible exact spec_DrawFormatPages.mono _ _)
   | (with_reducible exact spec_DrawParsePages.mono _ _)
   | (with_reducible exact spec_ExpandRange.mono _ _)
   | (with_reducible exact spec_FormatPages.mono _ _)
   | (with_reducible exact spec_ParsePages.mono _ _)
   | (with_reducible exact LeO.refl _)
   | (with_reducible exact LeO.none _)
   | (with_reducible refine LeO.ite ?_ ?_)
   | (with_reducible refine LeO.bind ?_ (fun _ => ?_))
   | exact ih0 _ _ _ _ _
   | exact ih1 _
   | exact ih2 _ _
   | exact ih3 _ _ _ _ _ _ _
   | exact ih4 _ _
   | exact impl_CollapseRange.mono _ _ _ _ _
   | exact impl_ExpandRange.mono _ _
   | exact impl_FormatPages.mono _ _
   | exact impl_ParsePages.mono _ _
   | exact laws_rRanges.mono _ _ _
   | exact spec_CollapseRange.mono _ _ _ _ _
   | exact spec_DrawExpandRange.mono _ _
   | exact spec_DrawFormatPages.mono _ _
   | exact spec_DrawParsePages.mono _ _
   | exact spec_ExpandRange.mono _ _
   | exact spec_FormatPages.mono _ _
   | exact spec_ParsePages.mono _ _
   | exact LeO.none _
   | refine LeO.ite ?_ ?_
   | refine LeO.bind ?_ (fun _ => ?_)
  ·intro y0 y1
   unfold laws_FnPages.j2
   repeat' first
   | (with_reducible exact ih0 _ _ _ _ _)
   | (with_reducible exact ih1 _)
   | (with_reducible exact ih2 _ _)
   | (with_reducible exact ih3 _ _ _ _ _ _ _)
   | (with_reducible exact ih4 _ _)
   | (with_reducible exact impl_CollapseRange.mono _ _ _ _ _)
   | (with_reducible exact impl_ExpandRange.mono _ _)
   | (with_reducible exact impl_FormatPages.mono _ _)
   | (with_reducible exact impl_ParsePages.mono _ _)
   | (with_reducible exact laws_rRanges.mono _ _ _)
   | (with_reducible exact spec_CollapseRange.mono _ _ _ _ _)
   | (with_reducible exact spec_DrawExpandRange.mono _ _)
   | (with_reducible exact spec_DrawFormatPages.mono _ _)
   | (with_reducible exact spec_DrawParsePages.mono _ _)
   | (with_reducible exact spec_ExpandRange.mono _ _)
   | (with_reducible exact spec_FormatPages.mono _ _)
   | (with_reducible exact spec_ParsePages.mono _ _)
   | (with_reducible exact LeO.refl _)
   | (with_reducible exact LeO.none _)
   | (with_reducible refine LeO.ite ?_ ?_)
   | (with_reducible refine LeO.bind ?_ (fun _ => ?_))
   | exact ih0 _ _ _ _ _
   | exact ih1 _
   | exact ih2 _ _
   | exact ih3 _ _ _ _ _ _ _
   | exact ih4 _ _
   | exact impl_CollapseRange.mono _ _ _ _ _
   | exact impl_ExpandRange.mono _ _
   | exact impl_FormatPages.mono _ _
   | exact impl_ParsePages.mono _ _
   | exact laws_rRanges.mono _ _ _
   | exact spec_CollapseRange.mono _ _ _ _ _
   | exact spec_DrawExpandRange.mono _ _
   | exact spec_DrawFormatPages.mono _ _
   | exact spec_DrawParsePages.mono _ _
   | exact spec_ExpandRange.mono _ _
   | exact spec_FormatPages.mono _ _
   | exact spec_ParsePages.mono _ _
   | exact LeO.none _
   | refine LeO.ite ?_ ?_
   | refine LeO.bind ?_ (fun _ => ?_)
  ·intro y0 y1 y2 y3 y4 y5 y6
   unfold laws_FnPages.j3
   repeat' first
   | (with_reducible exact ih0 _ _ _ _ _)
   | (with_reducible exact ih1 _)
   | (with_reducible exact ih2 _ _)
   | (with_reducible exact ih3 _ _ _ _ _ _ _)
   | (with_reducible exact ih4 _ _)
   | (with_reducible exact impl_CollapseRange.mono _ _ _ _ _)
   | (with_reducible exact impl_ExpandRange.mono _ _)
   | (with_reducible exact impl_FormatPages.mono _ _)
   | (with_reducible exact impl_ParsePages.mono _ _)
   | (with_reducible exact laws_rRanges.mono _ _ _)
   | (with_reducible exact spec_CollapseRange.mono _ _ _ _ _)
   | (with_reducible exact spec_DrawExpandRange.mono _ _)
   | (with_reducible exact spec_DrawFormatPages.mono _ _)
   | (with_reducible exact spec_DrawParsePages.mono _ _)
   | (with_reducible exact spec_ExpandRange.mono _ _)
   | (with_reducible exact spec_FormatPages.mono _ _)
   | (with_reducible exact spec_ParsePages.mono _ _)
   | (with_reducible exact LeO.refl _)
   | (with_reducible exact LeO.none _)
   | (with_reducible refine LeO.ite ?_ ?_)
   | (with_reducible refine LeO.bind ?_ (fun _ => ?_))
   | exact ih0 _ _ _ _ _
   | exact ih1 _
   | exact ih2 _ _
   | exact ih3 _ _ _ _ _ _ _
   | exact ih4 _ _
   | exact impl_CollapseRange.mono _ _ _ _ _
   | exact impl_ExpandRange.mono _ _
   | exact impl_FormatPages.mono _ _
   | exact impl_ParsePages.mono _ _
   | exact laws_rRanges.mono _ _ _
   | exact spec_CollapseRange.mono _ _ _ _ _
   | exact spec_DrawExpandRange.mono _ _
   | exact spec_DrawFormatPages.mono _ _
   | exact spec_DrawParsePages.mono _ _
   | exact spec_ExpandRange.mono _ _
   | exact spec_FormatPages.mono _ _
   | exact spec_ParsePages.mono _ _
   | exact LeO.none _
   | refine LeO.ite ?_ ?_
   | refine LeO.bind ?_ (fun _ => ?_)
  ·intro y0 y1
   unfold laws_FnPages.j4
   repeat' first
   | (with_reducible exact ih0 _ _ _ _ _)
   | (with_reducible exact ih1 _)
   | (with_reducible exact ih2 _ _)
   | (with_reducible exact ih3 _ _ _ _ _ _ _)
   | (with_reducible exact ih4 _ _)
   | (with_reducible exact impl_CollapseRange.mono _ _ _ _ _)
   | (with_reducible exact impl_ExpandRange.mono _ _)
   | (with_reducible exact impl_FormatPages.mono _ _)
   | (with_reducible exact impl_ParsePages.mono _ _)
   | (with_reducible exact laws_rRanges.mono _ _ _)
   | (with_reducible exact spec_CollapseRange.mono _ _ _ _ _)
   | (with_reducible exact spec_DrawExpandRange.mono _ _)
   | (with_reducible exact spec_DrawFormatPages.mono _ _)
   | (with_reducible exact spec_DrawParsePages.mono _ _)
   | (with_reducible exact spec_ExpandRange.mono _ _)
   | (with_reducible exact spec_FormatPages.mono _ _)
   | (with_reducible exact spec_ParsePages.mono _ _)
   | (with_reducible exact LeO.refl _)
   | (with_reducible exact LeO.none _)
   | (with_reducible refine LeO.ite ?_ ?_)
   | (with_reducible refine LeO.bind ?_ (fun _ => ?_))
   | exact ih0 _ _ _ _ _
   | exact ih1 _
   | exact ih2 _ _
   | exact ih3 _ _ _ _ _ _ _
   | exact ih4 _ _
   | exact impl_CollapseRange.mono _ _ _ _ _
   | exact impl_ExpandRange.mono _ _
   | exact impl_FormatPages.mono _ _
   | exact impl_ParsePages.mono _ _
   | exact laws_rRanges.mono _ _ _
   | exact spec_CollapseRange.mono _ _ _ _ _
   | exact spec_DrawExpandRange.mono _ _
   | exact spec_DrawFormatPages.mono _ _
   | exact spec_DrawParsePages.mono _ _
   | exact spec_ExpandRange.mono _ _
   | exact spec_FormatPages.mono _ _
   | exact spec_ParsePages.mono _ _
   | exact LeO.none _
   | refine LeO.ite ?_ ?_
   | refine LeO.bind ?_ (fun _ => ?_)
theorem laws_FnPages.mono : ∀ a0 k, LeO (laws_FnPages.f k a0) (laws_FnPages.f (k + 1) a0) := by
 intro a0 k
 obtain ⟨ih0, ih1, ih2, ih3, ih4⟩ := laws_FnPages.mono_l k
 unfold laws_FnPages.f
 repeat' first
   | (with_reducible exact ih0 _ _ _ _ _)
   | (with_reducible exact ih1 _)
   | (with_reducible exact ih2 _ _)
   | (with_reducible exact ih3 _ _ _ _ _ _ _)
   | (with_reducible exact ih4 _ _)
   | (with_reducible exact impl_CollapseRange.mono _ _ _ _ _)
   | (with_reducible exact impl_ExpandRange.mono _ _)
   | (with_reducible exact impl_FormatPages.mono _ _)
   | (with_reducible exact impl_ParsePages.mono _ _)
   | (with_reducible exact laws_rRanges.mono _ _ _)
   | (with_reducible exact spec_CollapseRange.mono _ _ _ _ _)
   | (with_reducible exact spec_DrawExpandRange.mono _ _)
   | (with_reducible exact spec_DrawFormatPages.mono _ _)
   | (with_reducible exact spec_DrawParsePages.mono _ _)
   | (with_reducible exact spec_ExpandRange.mono _ _)
   | (with_reducible exact spec_FormatPages.mono _ _)
   | (with_reducible exact spec_ParsePages.mono _ _)
   | (with_reducible exact LeO.refl _)
   | (with_reducible exact LeO.none _)
   | (with_reducible refine LeO.ite ?_ ?_)
   | (with_reducible refine LeO.bind ?_ (fun _ => ?_))
   | exact ih0 _ _ _ _ _
   | exact ih1 _
   | exact ih2 _ _
   | exact ih3 _ _ _ _ _ _ _
   | exact ih4 _ _
   | exact impl_CollapseRange.mono _ _ _ _ _
   | exact impl_ExpandRange.mono _ _
   | exact impl_FormatPages.mono _ _
   | exact impl_ParsePages.mono _ _
   | exact laws_rRanges.mono _ _ _
   | exact spec_CollapseRange.mono _ _ _ _ _
   | exact spec_DrawExpandRange.mono _ _
   | exact spec_DrawFormatPages.mono _ _
   | exact spec_DrawParsePages.mono _ _
   | exact spec_ExpandRange.mono _ _
   | exact spec_FormatPages.mono _ _
   | exact spec_ParsePages.mono _ _
   | exact LeO.none _
   | refine LeO.ite ?_ ?_
   | refine LeO.bind ?_ (fun _ => ?_)
set_option maxHeartbeats 8000000 in
set_option maxRecDepth 100000 in
theorem laws_FnPages.calls (k : Nat) (A0 : Option Addr) (c0 : Nat) (l0 : List Int) (r : Bool) (w : World) (hr0 : Kd.C (Kd.int .u8) w A0 l0.length l0) (hc0 : l0.length ≤ c0) (henv : Go.Proofs.YtmemcncbkgcbeaaGreatDoorW.Envs.Env [0, 1, 2] w) (h : laws_FnPages.f k l0 = some r) :
  Calls Tryz.prog 3 #[.slice A0 l0.length c0] w fun e w' => e = .returned (.bool r) ∧ Below w.heap.size w w' := by
 have hu34 := Tryz.underlying34
 have HR0 := Aside0.mk hr0
 have HC0 := Aside0.mk hc0
 clear hr0 hc0
 have HB := Aside0.mk (Below.refl w.heap.size w)
 have HENV := Aside0.mk henv
 clear henv
 have H : ((laws_rBig.f l0).bind fun t400 => (if t400 = true then (some true) else ((spec_DrawFormatPages.f k l0).bind fun t401 => ((impl_FormatPages.f k t401).bind fun bt404 => ((spec_FormatPages.f k t401).bind fun bt406 => (if bt404.1.toList = bt406.1.toList then (if (bt404.2 != bt406.2) = true then (laws_FnPages.j0 k l0 t401 bt404.1 bt404.2 true) else ((impl_IsValidPages.f t401).bind fun t408 => (laws_FnPages.j0 k l0 t401 bt404.1 bt404.2 (bt404.2 != t408)))) else (laws_FnPages.j0 k l0 t401 bt404.1 bt404.2 true))))))) = some r := h
 clear h
 replace H := Option.bind_eq_some_iff.mp H
 obtain ⟨t400, A20, H⟩ := H
 replace H : (if t400 = true then (some true) else ((spec_DrawFormatPages.f k l0).bind fun t401 => ((impl_FormatPages.f k t401).bind fun bt404 => ((spec_FormatPages.f k t401).bind fun bt406 => (if bt404.1.toList = bt406.1.toList then (if (bt404.2 != bt406.2) = true then (laws_FnPages.j0 k l0 t401 bt404.1 bt404.2 true) else ((impl_IsValidPages.f t401).bind fun t408 => (laws_FnPages.j0 k l0 t401 bt404.1 bt404.2 (bt404.2 != t408)))) else (laws_FnPages.j0 k l0 t401 bt404.1 bt404.2 true)))))) = some r := H
 have A2 := Aside0.mk A20
 clear A20
 by_cases c3 : t400 = true
 ·subst c3
  have H1 : (some true) = some r := by rw [if_pos rfl] at H; exact H
  clear H
  have H := H1
  clear H1
  obtain rfl := Option.some.inj H
  go_enter Tryz.func3, Tryz.ntmps3
  go_wp2_with (first | ((with_reducible refine gate_callee (f := 4) rfl ?_); refine goesL_ (some 29) rfl rfl Tryz.func4 (by kernel_rfl) rfl #[.slice A0 l0.length c0] rfl (by (try simp only [List.map_toArray, List.map_cons, List.map_nil]); first | done | rfl | (simp only [List.length_drop, List.length_take]; rfl)) ?_; (with_reducible refine (laws_rBig.calls _ _ l0 true _ ?side1 ?side2 A2.out).mono ?_); (case side1 => repeat (first | exact HR0.out | (with_reducible refine Kd.C_alloc ?_ _) | (with_reducible refine Kd.C_drewN ?_ _) | (with_reducible refine Kd.C_drew ?_))); (case side2 => exact HC0.out); rintro e w' ⟨rfl, ⟨nd, rfl⟩⟩; refine ⟨_, rfl, ?_⟩))
  go_ret
  exact ⟨by first | rfl | (simp [errW_none, errW_some] <;> rfl) | (simp [*, errW_none, errW_some] <;> rfl) | (simp [errW_none, errW_some] <;> (apply Bool.eq_iff_iff.2; simp [List.isEmpty_iff])), by repeat (first | (with_reducible first | exact HB.out | apply below_alloc | apply pw_below_drewN | apply below_drew1) | exact HB.out)⟩
 ·replace c3 := Bool.eq_false_iff.mpr c3
  subst c3
  have H1 : ((spec_DrawFormatPages.f k l0).bind fun t401 => ((impl_FormatPages.f k t401).bind fun bt404 => ((spec_FormatPages.f k t401).bind fun bt406 => (if bt404.1.toList = bt406.1.toList then (if (bt404.2 != bt406.2) = true then (laws_FnPages.j0 k l0 t401 bt404.1 bt404.2 true) else ((impl_IsValidPages.f t401).bind fun t408 => (laws_FnPages.j0 k l0 t401 bt404.1 bt404.2 (bt404.2 != t408)))) else (laws_FnPages.j0 k l0 t401 bt404.1 bt404.2 true))))) = some r := by rw [if_neg (show ¬ (false = true) by decide)] at H; exact H
  clear H
  have H := H1
  clear H1
  replace H := Option.bind_eq_some_iff.mp H
  obtain ⟨t401, A40, H⟩ := H
  replace H : ((impl_FormatPages.f k t401).bind fun bt404 => ((spec_FormatPages.f k t401).bind fun bt406 => (if bt404.1.toList = bt406.1.toList then (if (bt404.2 != bt406.2) = true then (laws_FnPages.j0 k l0 t401 bt404.1 bt404.2 true) else ((impl_IsValidPages.f t401).bind fun t408 => (laws_FnPages.j0 k l0 t401 bt404.1 bt404.2 (bt404.2 != t408)))) else (laws_FnPages.j0 k l0 t401 bt404.1 bt404.2 true)))) = some r := H
  have A4 := Aside0.mk A40
  clear A40
  replace H := Option.bind_eq_some_iff.mp H
  obtain ⟨⟨t404, t405⟩, A50, H⟩ := H
  replace H : ((spec_FormatPages.f k t401).bind fun bt406 => (if t404.toList = bt406.1.toList then (if (t405 != bt406.2) = true then (laws_FnPages.j0 k l0 t401 t404 t405 true) else ((impl_IsValidPages.f t401).bind fun t408 => (laws_FnPages.j0 k l0 t401 t404 t405 (t405 != t408)))) else (laws_FnPages.j0 k l0 t401 t404 t405 true))) = some r := H
  have A5 := Aside0.mk A50
  clear A50
  replace H := Option.bind_eq_some_iff.mp H
  obtain ⟨⟨t406, t407⟩, A60, H⟩ := H
  replace H : (if t404.toList = t406.toList then (if (t405 != t407) = true then (laws_FnPages.j0 k l0 t401 t404 t405 true) else ((impl_IsValidPages.f t401).bind fun t408 => (laws_FnPages.j0 k l0 t401 t404 t405 (t405 != t408)))) else (laws_FnPages.j0 k l0 t401 t404 t405 true)) = some r := H
  have A6 := Aside0.mk A60
  clear A60
  have HC7 := Aside0.mk H
  clear H
  go_enter Tryz.func3, Tryz.ntmps3
  go_upto_region 6 with (first | ((with_reducible refine gate_callee (f := 4) rfl ?_); refine goesL_ (some 29) rfl rfl Tryz.func4 (by kernel_rfl) rfl #[.slice A0 l0.length c0] rfl (by (try simp only [List.map_toArray, List.map_cons, List.map_nil]); first | done | rfl | (simp only [List.length_drop, List.length_take]; rfl)) ?_; (with_reducible refine (laws_rBig.calls _ _ l0 false _ ?side1 ?side2 A2.out).mono ?_); (case side1 => repeat (first | exact HR0.out | (with_reducible refine Kd.C_alloc ?_ _) | (with_reducible refine Kd.C_drewN ?_ _) | (with_reducible refine Kd.C_drew ?_))); (case side2 => exact HC0.out); rintro e w' ⟨rfl, ⟨nd, rfl⟩⟩; refine ⟨_, rfl, ?_⟩) | ((with_reducible refine gate_callee (f := 5) rfl ?_); refine goesL_ (some 31) rfl rfl Tryz.func5 (by kernel_rfl) rfl #[.slice A0 l0.length c0] rfl (by (try simp only [List.map_toArray, List.map_cons, List.map_nil]); first | done | rfl | (simp only [List.length_drop, List.length_take]; rfl)) ?_; (with_reducible refine (spec_DrawFormatPages.calls k _ _ l0 t401 _ ?side1 ?side2 A4.out).mono ?_); (case side1 => repeat (first | exact HR0.out | (with_reducible refine Kd.C_alloc ?_ _) | (with_reducible refine Kd.C_drewN ?_ _) | (with_reducible refine Kd.C_drew ?_))); (case side2 => exact HC0.out); rintro e w8 ⟨v402, rfl, ho0, hb⟩; refine ⟨_, rfl, ?_⟩; have n0_ := Aside0.mk (Kd.R_lower ho0 (below_size (by repeat (first | (with_reducible first | exact HB.out | apply below_alloc | apply pw_below_drewN | apply below_drew1) | exact HB.out)))); have n1_ := Aside0.mk (below_step (by repeat (first | (with_reducible first | exact HB.out | apply below_alloc | apply pw_below_drewN | apply below_drew1) | exact HB.out)) hb); clear HB; have HO403 := n0_; have HB := n1_; clear n0_ n1_; (try clear hb); (try clear hb2); (try clear hk); (try clear hi); (try clear ho0); obtain ⟨Ao9, co9, eo9⟩ := Kd.R_slice HO403.out; subst eo9) | ((with_reducible refine gate_callee (f := 6) rfl ?_); refine goesL_ (some 34) rfl rfl Tryz.func6 (by kernel_rfl) rfl #[.slice Ao9 t401.length co9] rfl (by (try simp only [List.map_toArray, List.map_cons, List.map_nil]); first | done | rfl | (simp only [List.length_drop, List.length_take]; rfl)) ?_; (with_reducible refine (impl_FormatPages.calls k _ _ t401 t404 t405 _ ?side1 ?side2 ?side3 A5.out).mono ?_); (case side1 => repeat (first | exact (Kd.R_reads' HO403.out).2.2 | (with_reducible refine Kd.C_alloc ?_ _) | (with_reducible refine Kd.C_drewN ?_ _) | (with_reducible refine Kd.C_drew ?_))); (case side2 => exact (Kd.R_reads' HO403.out).2.1); (case side3 => exact Go.Proofs.YtmemcncbkgcbeaaGreatDoorW.Envs.Env.below (Go.Proofs.YtmemcncbkgcbeaaGreatDoorW.Envs.Env.sub HENV.out (S := [1]) (by decide)) (by repeat (first | (with_reducible first | exact HB.out | apply below_alloc | apply pw_below_drewN | apply below_drew1) | exact HB.out))); rintro e w10 ⟨rfl, hb⟩; refine ⟨_, rfl, ?_⟩; have n0_ := Aside0.mk (Kd.R_below (by (with_reducible repeat (first | apply Kd.R_alloc | apply Kd.R_drewN | apply Kd.R_drew)); exact HO403.out) hb); have n1_ := Aside0.mk (below_step (by repeat (first | (with_reducible first | exact HB.out | apply below_alloc | apply pw_below_drewN | apply below_drew1) | exact HB.out)) hb); clear HO403; clear HB; have HO403 := n0_; have HB := n1_; clear n0_ n1_; (try clear hb); (try clear hb2); (try clear hk); (try clear hi)) | ((with_reducible refine gate_callee (f := 7) rfl ?_); refine goesL_ (some 39) rfl rfl Tryz.func7 (by kernel_rfl) rfl #[.slice Ao9 t401.length co9] rfl (by (try simp only [List.map_toArray, List.map_cons, List.map_nil]); first | done | rfl | (simp only [List.length_drop, List.length_take]; rfl)) ?_; (with_reducible refine (spec_FormatPages.calls k _ _ t401 t406 t407 _ ?side1 ?side2 A6.out).mono ?_); (case side1 => repeat (first | exact (Kd.R_reads' HO403.out).2.2 | (with_reducible refine Kd.C_alloc ?_ _) | (with_reducible refine Kd.C_drewN ?_ _) | (with_reducible refine Kd.C_drew ?_))); (case side2 => exact (Kd.R_reads' HO403.out).2.1); rintro e w11 ⟨rfl, hb⟩; refine ⟨_, rfl, ?_⟩; have n0_ := Aside0.mk (Kd.R_below (by (with_reducible repeat (first | apply Kd.R_alloc | apply Kd.R_drewN | apply Kd.R_drew)); exact HO403.out) hb); have n1_ := Aside0.mk (below_step (by repeat (first | (with_reducible first | exact HB.out | apply below_alloc | apply pw_below_drewN | apply below_drew1) | exact HB.out)) hb); clear HO403; clear HB; have HO403 := n0_; have HB := n1_; clear n0_ n1_; (try clear hb); (try clear hb2); (try clear hk); (try clear hi)))
  (try simp only [Act.put, List.setIfInBounds_toArray, List.set_cons_zero, List.set_cons_succ])
  go_cut [55] (fun v55 wc => ∃ (kq : Nat) (x55_6 : Bool), v55 = .bool x55_6 ∧ Aside0 (laws_FnPages.j0 kq l0 t401 t404 t405 x55_6 = some r) ∧ Aside0 (kq ≤ k) ∧ Aside0 (Kd.R k34 34 wc w.heap.size (fun _ => True) (.slice Ao9 t401.length co9) t401) ∧ Aside0 (Below w.heap.size w wc))
  case first =>
   have H := HC7.out
   clear HC7
   by_cases c12 : t404.toList = t406.toList
   ·rw [if_pos c12] at H
    have c12b0 : (t404.toList == t406.toList) = true := beq_iff_eq.mpr c12
    have c12b1 : (t404.toList != t406.toList) = false := bne_eq_false_iff_eq.mpr c12
    clear c12
    (first | rw [c12b0] | rw [c12b1] | rw [c12b2] | (simp only [i64_w, i32_w]; rw [c12b0]) | skip)
    by_cases c13 : (t405 != t407) = true
    ·rw [if_pos c13] at H
     have c13b0 : (t405 != t407) = true := c13
     (try (have c13b1 : decide (t405 = t407) = false := by simpa using c13))
     (try (have c13b2 : (t405 == t407) = false := by simpa using c13))
     (try (have c13b3 : ¬ (t405 = t407) := by simpa using c13))
     clear c13
     have H' := Aside0.mk H
     clear H
     go_wp2
     go_meet
     case rel => exact ⟨_, (true), (by first | rfl | (simp; done) | (simp [*]; done)), H', ⟨by first | omega | exact Nat.le_refl _⟩, ⟨by (with_reducible repeat (first | apply Kd.R_alloc | apply Kd.R_drewN | apply Kd.R_drew)); exact HO403.out⟩, ⟨by repeat (first | (with_reducible first | exact HB.out | apply below_alloc | apply pw_below_drewN | apply below_drew1) | exact HB.out)⟩⟩
    ·rw [if_neg c13] at H
     have c13b0 : (t405 != t407) = false := by simpa using c13
     (try (have c13b1 : decide (t405 = t407) = true := by simpa using c13))
     (try (have c13b2 : (t405 == t407) = true := by simpa using c13))
     clear c13
     replace H := Option.bind_eq_some_iff.mp H
     obtain ⟨t408, A140, H⟩ := H
     replace H : (laws_FnPages.j0 k l0 t401 t404 t405 (t405 != t408)) = some r := H
     have A14 := Aside0.mk A140
     clear A140
     have H' := Aside0.mk H
     clear H
     go_wp2_with (first | (go_at_call 8; (with_reducible refine (impl_IsValidPages.calls _ _ t401 t408 _ ?side1 ?side2 A14.out).mono ?_); (case side1 => repeat (first | exact (Kd.R_reads' HO403.out).2.2 | (with_reducible refine Kd.C_alloc ?_ _) | (with_reducible refine Kd.C_drewN ?_ _) | (with_reducible refine Kd.C_drew ?_))); (case side2 => exact (Kd.R_reads' HO403.out).2.1); rintro e w15 ⟨rfl, hb⟩; have n0_ := Aside0.mk (Kd.R_below (by (with_reducible repeat (first | apply Kd.R_alloc | apply Kd.R_drewN | apply Kd.R_drew)); exact HO403.out) hb); have n1_ := Aside0.mk (below_step (by repeat (first | (with_reducible first | exact HB.out | apply below_alloc | apply pw_below_drewN | apply below_drew1) | exact HB.out)) hb); clear HO403; clear HB; have HO403 := n0_; have HB := n1_; clear n0_ n1_; (try clear hb); (try clear hb2); (try clear hk); (try clear hi)))
     go_meet
     case rel => exact ⟨_, ((t405 != t408)), (by first | rfl | (simp; done) | (simp [*]; done)), H', ⟨by first | omega | exact Nat.le_refl _⟩, ⟨by (with_reducible repeat (first | apply Kd.R_alloc | apply Kd.R_drewN | apply Kd.R_drew)); exact HO403.out⟩, ⟨by repeat (first | (with_reducible first | exact HB.out | apply below_alloc | apply pw_below_drewN | apply below_drew1) | exact HB.out)⟩⟩
   ·rw [if_neg c12] at H
    have c12b0 : (t404.toList == t406.toList) = false := beq_eq_false_iff_ne.mpr c12
    have c12b1 : (t404.toList != t406.toList) = true := bne_iff_ne.mpr c12
    (first | rw [c12b0] | rw [c12b1] | rw [c12b2] | (simp only [i64_w, i32_w]; rw [c12b0]) | skip)
    have H' := Aside0.mk H
    clear H
    go_wp2
    go_meet
    case rel => exact ⟨_, (true), (by first | rfl | (simp; done) | (simp [*]; done)), H', ⟨by first | omega | exact Nat.le_refl _⟩, ⟨by (with_reducible repeat (first | apply Kd.R_alloc | apply Kd.R_drewN | apply Kd.R_drew)); exact HO403.out⟩, ⟨by repeat (first | (with_reducible first | exact HB.out | apply below_alloc | apply pw_below_drewN | apply below_drew1) | exact HB.out)⟩⟩
  case rest =>
   clear HC7
   try clear c1
   try clear p2
   try clear c3
   try clear c4
   try clear c5
   try clear c6
   try clear c7
   try clear c12
   try clear c12b0
   try clear c12b1
   try clear c12b2
   try clear c13
   try clear c13b0
   try clear c13b1
   try clear c13b2
   obtain ⟨kq, x55_6, rfl, HA, HJ6, HO_3, HB⟩ := hcut
   cases kq with
   | zero => exact absurd HA.out (by simp [laws_FnPages.j0])
   | succ kj6 =>
    have H := HA.out
    clear HA
    simp only [laws_FnPages.j0] at H
    by_cases c16 : x55_6 = true
    ·subst c16
     have H1 : (some false) = some r := by rw [if_pos rfl] at H; exact H
     clear H
     have H := H1
     clear H1
     obtain rfl := Option.some.inj H
     go_wp2
     go_ret
     exact ⟨by first | rfl | (simp [errW_none, errW_some] <;> rfl) | (simp [*, errW_none, errW_some] <;> rfl) | (simp [errW_none, errW_some] <;> (apply Bool.eq_iff_iff.2; simp [List.isEmpty_iff])), by repeat (first | (with_reducible first | exact HB.out | apply below_alloc | apply pw_below_drewN | apply below_drew1) | exact HB.out)⟩
    ·replace c16 := Bool.eq_false_iff.mpr c16
     subst c16
     have H1 : (if t405 = true then ((impl_ParsePages.f kj6 t404).bind fun bt409 => (if bt409.2 = true then ((laws_rRanges.f kj6 bt409.1 t401).bind fun t413 => (if t413 = true then (laws_FnPages.j1 kj6 l0) else (some false))) else (some false))) else (laws_FnPages.j1 kj6 l0)) = some r := by rw [if_neg (show ¬ (false = true) by decide)] at H; exact H
     clear H
     have H := H1
     clear H1
     have HC17 := Aside0.mk H
     clear H
     go_upto_if 56 with (fail)
     go_cut [] (fun wc => ∃ (kq : Nat), Aside0 (laws_FnPages.j1 kq l0 = some r) ∧ Aside0 (kq ≤ kj6) ∧ Aside0 (Below w.heap.size w wc))
     case first =>
      have H := HC17.out
      clear HC17
      by_cases c18 : t405 = true
      ·subst c18
       have H1 : ((impl_ParsePages.f kj6 t404).bind fun bt409 => (if bt409.2 = true then ((laws_rRanges.f kj6 bt409.1 t401).bind fun t413 => (if t413 = true then (laws_FnPages.j1 kj6 l0) else (some false))) else (some false))) = some r := by rw [if_pos rfl] at H; exact H
       clear H
       have H := H1
       clear H1
       replace H := Option.bind_eq_some_iff.mp H
       obtain ⟨⟨t409, t410⟩, A190, H⟩ := H
       replace H : (if t410 = true then ((laws_rRanges.f kj6 t409 t401).bind fun t413 => (if t413 = true then (laws_FnPages.j1 kj6 l0) else (some false))) else (some false)) = some r := H
       have A19 := Aside0.mk A190
       clear A190
       by_cases c20 : t410 = true
       ·subst c20
        have H1 : ((laws_rRanges.f kj6 t409 t401).bind fun t413 => (if t413 = true then (laws_FnPages.j1 kj6 l0) else (some false))) = some r := by rw [if_pos rfl] at H; exact H
        clear H
        have H := H1
        clear H1
        replace H := Option.bind_eq_some_iff.mp H
        obtain ⟨t413, A210, H⟩ := H
        replace H : (if t413 = true then (laws_FnPages.j1 kj6 l0) else (some false)) = some r := H
        have A21 := Aside0.mk A210
        clear A210
        have HC22 := Aside0.mk H
        clear H
        go_upto_if 69 with (first | ((with_reducible refine gate_callee (f := 9) rfl ?_); refine goesL_ (some 59) rfl rfl Tryz.func9 (by kernel_rfl) rfl #[.string t404] rfl (by (try simp only [List.map_toArray, List.map_cons, List.map_nil]); first | done | rfl | (simp only [List.length_drop, List.length_take]; rfl)) ?_; (with_reducible refine (impl_ParsePages.calls kj6 t404 t409 true _ ?side1 A19.out).mono ?_); (case side1 => exact Go.Proofs.YtmemcncbkgcbeaaGreatDoorW.Envs.Env.below HENV.out (by repeat (first | (with_reducible first | exact HB.out | apply below_alloc | apply pw_below_drewN | apply below_drew1) | exact HB.out))); rintro e w23 ⟨v411, rfl, ho0, hb⟩; refine ⟨_, rfl, ?_⟩; have n0_ := Aside0.mk (Kd.R_elder' (by (with_reducible repeat (first | apply Kd.R_alloc | apply Kd.R_drewN | apply Kd.R_drew)); exact HO_3.out) (Kd.R_base ho0) hb); have n1_ := Aside0.mk (Kd.R_lower (Kd.R_new' ho0 (Kd.R_lt (by (with_reducible repeat (first | apply Kd.R_alloc | apply Kd.R_drewN | apply Kd.R_drew)); exact HO_3.out))) (below_size (by repeat (first | (with_reducible first | exact HB.out | apply below_alloc | apply pw_below_drewN | apply below_drew1) | exact HB.out)))); have n2_ := Aside0.mk (below_step (by repeat (first | (with_reducible first | exact HB.out | apply below_alloc | apply pw_below_drewN | apply below_drew1) | exact HB.out)) hb); clear HO_3; clear HB; have HO_3 := n0_; have HO412 := n1_; have HB := n2_; clear n0_ n1_ n2_; (try clear hb); (try clear hb2); (try clear hk); (try clear hi); (try clear ho0); obtain ⟨Ao24, co24, eo24⟩ := Kd.R_slice HO412.out; subst eo24) | (go_at_call 10; (with_reducible refine (laws_rRanges.calls kj6 _ _ t409 _ _ t401 t413 _ ?side1 ?side2 ?side3 ?side4 A21.out).mono ?_); (case side1 => repeat (first | exact (Kd.R_reads' HO412.out).2.2 | (with_reducible refine Kd.C_alloc ?_ _) | (with_reducible refine Kd.C_drewN ?_ _) | (with_reducible refine Kd.C_drew ?_))); (case side2 => exact (Kd.R_reads' HO412.out).2.1); (case side3 => repeat (first | exact (Kd.R_reads' HO_3.out).2.2 | (with_reducible refine Kd.C_alloc ?_ _) | (with_reducible refine Kd.C_drewN ?_ _) | (with_reducible refine Kd.C_drew ?_))); (case side4 => exact (Kd.R_reads' HO_3.out).2.1); rintro e w' ⟨rfl, ⟨nd, rfl⟩⟩))
        (try (rw [drewN_self w23]; generalize hq_ : World.drewN w23 _ = w23; have n0_ : Aside0 (Kd.R k34 34 w23 w.heap.size (fun k_ => some k_ ≠ (.slice Ao9 t401.length co9 : Value).ownBlock) (.slice Ao24 t409.length co24) t409) := ⟨by rw [← hq_]; exact (by (with_reducible repeat (first | apply Kd.R_alloc | apply Kd.R_drewN | apply Kd.R_drew)); exact Kd.R_mono HO412.out (fun _ hk => hk.2))⟩; have n1_ : Aside0 (Kd.R k34 34 w23 w.heap.size (fun k_ => some k_ ≠ (.slice Ao24 t409.length co24 : Value).ownBlock) (.slice Ao9 t401.length co9) t401) := ⟨by rw [← hq_]; exact (by (with_reducible repeat (first | apply Kd.R_alloc | apply Kd.R_drewN | apply Kd.R_drew)); exact Kd.R_mono HO_3.out (fun _ hk => hk.2))⟩; have n2_ : Aside0 (Below w.heap.size w w23) := ⟨by rw [← hq_]; exact (by repeat (first | (with_reducible first | exact HB.out | apply below_alloc | apply pw_below_drewN | apply below_drew1) | exact HB.out))⟩; clear HO412 HO_3 HB hq_; have HO412 := n0_; have HO_3 := n1_; have HB := n2_; clear n0_ n1_ n2_))
        have H := HC22.out
        clear HC22
        by_cases c25 : t413 = true
        ·subst c25
         have H1 : (laws_FnPages.j1 kj6 l0) = some r := by rw [if_pos rfl] at H; exact H
         clear H
         have H := H1
         clear H1
         have H' := Aside0.mk H
         clear H
         go_wp2
         go_meet
         case rel => exact ⟨_, H', ⟨by have := HJ6.out; first | omega | exact Nat.le_refl _⟩, ⟨by repeat (first | (with_reducible first | exact HB.out | apply below_alloc | apply pw_below_drewN | apply below_drew1) | exact HB.out)⟩⟩
        ·replace c25 := Bool.eq_false_iff.mpr c25
         subst c25
         have H1 : (some false) = some r := by rw [if_neg (show ¬ (false = true) by decide)] at H; exact H
         clear H
         have H := H1
         clear H1
         obtain rfl := Option.some.inj H
         go_wp2
         go_ret
         exact ⟨by first | rfl | (simp [errW_none, errW_some] <;> rfl) | (simp [*, errW_none, errW_some] <;> rfl) | (simp [errW_none, errW_some] <;> (apply Bool.eq_iff_iff.2; simp [List.isEmpty_iff])), by repeat (first | (with_reducible first | exact HB.out | apply below_alloc | apply pw_below_drewN | apply below_drew1) | exact HB.out)⟩
       ·replace c20 := Bool.eq_false_iff.mpr c20
        subst c20
        have H1 : (some false) = some r := by rw [if_neg (show ¬ (false = true) by decide)] at H; exact H
        clear H
        have H := H1
        clear H1
        obtain rfl := Option.some.inj H
        go_wp2_with (first | ((with_reducible refine gate_callee (f := 9) rfl ?_); refine goesL_ (some 59) rfl rfl Tryz.func9 (by kernel_rfl) rfl #[.string t404] rfl (by (try simp only [List.map_toArray, List.map_cons, List.map_nil]); first | done | rfl | (simp only [List.length_drop, List.length_take]; rfl)) ?_; (with_reducible refine (impl_ParsePages.calls kj6 t404 t409 false _ ?side1 A19.out).mono ?_); (case side1 => exact Go.Proofs.YtmemcncbkgcbeaaGreatDoorW.Envs.Env.below HENV.out (by repeat (first | (with_reducible first | exact HB.out | apply below_alloc | apply pw_below_drewN | apply below_drew1) | exact HB.out))); rintro e w26 ⟨v411, rfl, ho0, hb⟩; refine ⟨_, rfl, ?_⟩; have n0_ := Aside0.mk (Kd.R_elder' (by (with_reducible repeat (first | apply Kd.R_alloc | apply Kd.R_drewN | apply Kd.R_drew)); exact HO_3.out) (Kd.R_base ho0) hb); have n1_ := Aside0.mk (Kd.R_lower (Kd.R_new' ho0 (Kd.R_lt (by (with_reducible repeat (first | apply Kd.R_alloc | apply Kd.R_drewN | apply Kd.R_drew)); exact HO_3.out))) (below_size (by repeat (first | (with_reducible first | exact HB.out | apply below_alloc | apply pw_below_drewN | apply below_drew1) | exact HB.out)))); have n2_ := Aside0.mk (below_step (by repeat (first | (with_reducible first | exact HB.out | apply below_alloc | apply pw_below_drewN | apply below_drew1) | exact HB.out)) hb); clear HO_3; clear HB; have HO_3 := n0_; have HO412 := n1_; have HB := n2_; clear n0_ n1_ n2_; (try clear hb); (try clear hb2); (try clear hk); (try clear hi); (try clear ho0)))
        go_ret
        exact ⟨by first | rfl | (simp [errW_none, errW_some] <;> rfl) | (simp [*, errW_none, errW_some] <;> rfl) | (simp [errW_none, errW_some] <;> (apply Bool.eq_iff_iff.2; simp [List.isEmpty_iff])), by repeat (first | (with_reducible first | exact HB.out | apply below_alloc | apply pw_below_drewN | apply below_drew1) | exact HB.out)⟩
      ·replace c18 := Bool.eq_false_iff.mpr c18
       subst c18
       have H1 : (laws_FnPages.j1 kj6 l0) = some r := by rw [if_neg (show ¬ (false = true) by decide)] at H; exact H
       clear H
       have H := H1
       clear H1
       have H' := Aside0.mk H
       clear H
       go_wp2
       go_meet
       case rel => exact ⟨_, H', ⟨by have := HJ6.out; first | omega | exact Nat.le_refl _⟩, ⟨by repeat (first | (with_reducible first | exact HB.out | apply below_alloc | apply pw_below_drewN | apply below_drew1) | exact HB.out)⟩⟩
     case rest =>
      clear HC17
      try clear c1
      try clear c2
      try clear p2
      try clear c3
      try clear c4
      try clear c5
      try clear c6
      try clear c7
      try clear c9
      try clear c12
      try clear c12b0
      try clear c12b1
      try clear c12b2
      try clear c13
      try clear c13b0
      try clear c13b1
      try clear c13b2
      try clear c16
      try clear c18
      try clear c20
      try clear c25
      try clear p2
      obtain ⟨kq, HA, HJ16, HB⟩ := hcut
      cases kq with
      | zero => exact absurd HA.out (by simp [laws_FnPages.j1])
      | succ kj16 =>
       have H := HA.out
       clear HA
       simp only [laws_FnPages.j1] at H
       replace H := Option.bind_eq_some_iff.mp H
       obtain ⟨t414, A270, H⟩ := H
       replace H : ((impl_ParsePages.f kj16 t414).bind fun bt415 => ((spec_ParsePages.f kj16 t414).bind fun bt419 => (if (bt415.2 != bt419.2) = true then (laws_FnPages.j2 kj16 l0 true) else ((laws_rRanges.f kj16 bt415.1 bt419.1).bind fun t423 => (laws_FnPages.j2 kj16 l0 (!t423)))))) = some r := H
       have A27 := Aside0.mk A270
       clear A270
       replace H := Option.bind_eq_some_iff.mp H
       obtain ⟨⟨t415, t416⟩, A280, H⟩ := H
       replace H : ((spec_ParsePages.f kj16 t414).bind fun bt419 => (if (t416 != bt419.2) = true then (laws_FnPages.j2 kj16 l0 true) else ((laws_rRanges.f kj16 t415 bt419.1).bind fun t423 => (laws_FnPages.j2 kj16 l0 (!t423))))) = some r := H
       have A28 := Aside0.mk A280
       clear A280
       replace H := Option.bind_eq_some_iff.mp H
       obtain ⟨⟨t419, t420⟩, A290, H⟩ := H
       replace H : (if (t416 != t420) = true then (laws_FnPages.j2 kj16 l0 true) else ((laws_rRanges.f kj16 t415 t419).bind fun t423 => (laws_FnPages.j2 kj16 l0 (!t423)))) = some r := H
       have A29 := Aside0.mk A290
       clear A290
       have HC30 := Aside0.mk H
       clear H
       go_upto_region 15 with (first | ((with_reducible refine gate_callee (f := 11) rfl ?_); refine goesL_ (some 71) rfl rfl Tryz.func11 (by kernel_rfl) rfl #[.slice A0 l0.length c0] rfl (by (try simp only [List.map_toArray, List.map_cons, List.map_nil]); first | done | rfl | (simp only [List.length_drop, List.length_take]; rfl)) ?_; (with_reducible refine (spec_DrawParsePages.calls kj16 _ _ l0 t414 _ ?side1 ?side2 A27.out).mono ?_); (case side1 => repeat (first | exact (Kd.C_below HR0.out HB.out) | (with_reducible refine Kd.C_alloc ?_ _) | (with_reducible refine Kd.C_drewN ?_ _) | (with_reducible refine Kd.C_drew ?_))); (case side2 => exact HC0.out); rintro e w31 ⟨rfl, hb⟩; refine ⟨_, rfl, ?_⟩; have n0_ := Aside0.mk (below_step (by repeat (first | (with_reducible first | exact HB.out | apply below_alloc | apply pw_below_drewN | apply below_drew1) | exact HB.out)) hb); clear HB; have HB := n0_; clear n0_; (try clear hb); (try clear hb2); (try clear hk); (try clear hi)) | ((with_reducible refine gate_callee (f := 9) rfl ?_); refine goesL_ (some 74) rfl rfl Tryz.func9 (by kernel_rfl) rfl #[.string t414] rfl (by (try simp only [List.map_toArray, List.map_cons, List.map_nil]); first | done | rfl | (simp only [List.length_drop, List.length_take]; rfl)) ?_; (with_reducible refine (impl_ParsePages.calls kj16 t414 t415 t416 _ ?side1 A28.out).mono ?_); (case side1 => exact Go.Proofs.YtmemcncbkgcbeaaGreatDoorW.Envs.Env.below HENV.out (by repeat (first | (with_reducible first | exact HB.out | apply below_alloc | apply pw_below_drewN | apply below_drew1) | exact HB.out))); rintro e w32 ⟨v417, rfl, ho0, hb⟩; refine ⟨_, rfl, ?_⟩; have n0_ := Aside0.mk (Kd.R_lower ho0 (below_size (by repeat (first | (with_reducible first | exact HB.out | apply below_alloc | apply pw_below_drewN | apply below_drew1) | exact HB.out)))); have n1_ := Aside0.mk (below_step (by repeat (first | (with_reducible first | exact HB.out | apply below_alloc | apply pw_below_drewN | apply below_drew1) | exact HB.out)) hb); clear HB; have HO418 := n0_; have HB := n1_; clear n0_ n1_; (try clear hb); (try clear hb2); (try clear hk); (try clear hi); (try clear ho0)) | ((with_reducible refine gate_callee (f := 12) rfl ?_); refine goesL_ (some 79) rfl rfl Tryz.func12 (by kernel_rfl) rfl #[.string t414] rfl (by (try simp only [List.map_toArray, List.map_cons, List.map_nil]); first | done | rfl | (simp only [List.length_drop, List.length_take]; rfl)) ?_; (with_reducible refine (spec_ParsePages.calls kj16 t414 t419 t420 _ A29.out).mono ?_); rintro e w33 ⟨v421, rfl, ho0, hb⟩; refine ⟨_, rfl, ?_⟩; have n0_ := Aside0.mk (Kd.R_elder' (by (with_reducible repeat (first | apply Kd.R_alloc | apply Kd.R_drewN | apply Kd.R_drew)); exact HO418.out) (Kd.R_base ho0) hb); have n1_ := Aside0.mk (Kd.R_lower (Kd.R_new' ho0 (Kd.R_lt (by (with_reducible repeat (first | apply Kd.R_alloc | apply Kd.R_drewN | apply Kd.R_drew)); exact HO418.out))) (below_size (by repeat (first | (with_reducible first | exact HB.out | apply below_alloc | apply pw_below_drewN | apply below_drew1) | exact HB.out)))); have n2_ := Aside0.mk (below_step (by repeat (first | (with_reducible first | exact HB.out | apply below_alloc | apply pw_below_drewN | apply below_drew1) | exact HB.out)) hb); clear HO418; clear HB; have HO418 := n0_; have HO422 := n1_; have HB := n2_; clear n0_ n1_ n2_; (try clear hb); (try clear hb2); (try clear hk); (try clear hi); (try clear ho0)))
       (try simp only [Act.put, List.setIfInBounds_toArray, List.set_cons_zero, List.set_cons_succ])
       go_cut [90] (fun v90 wc => ∃ (kq : Nat) (x90_29 : Bool), v90 = .bool x90_29 ∧ Aside0 (laws_FnPages.j2 kq l0 x90_29 = some r) ∧ Aside0 (kq ≤ kj16) ∧ Aside0 (Below w.heap.size w wc))
       case first =>
        have H := HC30.out
        clear HC30
        by_cases c34 : (t416 != t420) = true
        ·rw [if_pos c34] at H
         have c34b0 : (t416 != t420) = true := c34
         (try (have c34b1 : decide (t416 = t420) = false := by simpa using c34))
         (try (have c34b2 : (t416 == t420) = false := by simpa using c34))
         (try (have c34b3 : ¬ (t416 = t420) := by simpa using c34))
         clear c34
         (first | rw [c34b0] | rw [c34b1] | rw [c34b2] | (simp only [i64_w, i32_w]; rw [c34b0]) | skip)
         have H' := Aside0.mk H
         clear H
         go_wp2
         go_meet
         case rel => exact ⟨_, (true), (by first | rfl | (simp; done) | (simp [*]; done)), H', ⟨by have := HJ6.out; have := HJ16.out; first | omega | exact Nat.le_refl _⟩, ⟨by repeat (first | (with_reducible first | exact HB.out | apply below_alloc | apply pw_below_drewN | apply below_drew1) | exact HB.out)⟩⟩
        ·rw [if_neg c34] at H
         have c34b0 : (t416 != t420) = false := by simpa using c34
         (try (have c34b1 : decide (t416 = t420) = true := by simpa using c34))
         (try (have c34b2 : (t416 == t420) = true := by simpa using c34))
         clear c34
         (first | rw [c34b0] | rw [c34b1] | rw [c34b2] | (simp only [i64_w, i32_w]; rw [c34b0]) | skip)
         replace H := Option.bind_eq_some_iff.mp H
         obtain ⟨t423, A350, H⟩ := H
         replace H : (laws_FnPages.j2 kj16 l0 (!t423)) = some r := H
         have A35 := Aside0.mk A350
         clear A350
         have H' := Aside0.mk H
         clear H
         obtain ⟨Ao36, co36, eo36⟩ := Kd.R_slice HO418.out
         subst eo36
         obtain ⟨Ao37, co37, eo37⟩ := Kd.R_slice HO422.out
         subst eo37
         go_wp2_with (first | (go_at_call 10; (with_reducible refine (laws_rRanges.calls kj16 _ _ t415 _ _ t419 t423 _ ?side1 ?side2 ?side3 ?side4 A35.out).mono ?_); (case side1 => repeat (first | exact (Kd.R_reads' HO418.out).2.2 | (with_reducible refine Kd.C_alloc ?_ _) | (with_reducible refine Kd.C_drewN ?_ _) | (with_reducible refine Kd.C_drew ?_))); (case side2 => exact (Kd.R_reads' HO418.out).2.1); (case side3 => repeat (first | exact (Kd.R_reads' HO422.out).2.2 | (with_reducible refine Kd.C_alloc ?_ _) | (with_reducible refine Kd.C_drewN ?_ _) | (with_reducible refine Kd.C_drew ?_))); (case side4 => exact (Kd.R_reads' HO422.out).2.1); rintro e w' ⟨rfl, ⟨nd, rfl⟩⟩))
         go_meet
         case rel => exact ⟨_, (!t423), (by first | rfl | (simp; done) | (simp [*]; done)), H', ⟨by have := HJ6.out; have := HJ16.out; first | omega | exact Nat.le_refl _⟩, ⟨by repeat (first | (with_reducible first | exact HB.out | apply below_alloc | apply pw_below_drewN | apply below_drew1) | exact HB.out)⟩⟩
       case rest =>
        clear HC30
        try clear c1
        try clear c2
        try clear p2
        try clear c3
        try clear c4
        try clear c5
        try clear c6
        try clear c7
        try clear c9
        try clear c11
        try clear c12
        try clear c12b0
        try clear c12b1
        try clear c12b2
        try clear c13
        try clear c13b0
        try clear c13b1
        try clear c13b2
        try clear c16
        try clear c18
        try clear c20
        try clear c25
        try clear c34
        try clear c34b0
        try clear c34b1
        try clear c34b2
        try clear p2
        obtain ⟨kq, x90_29, rfl, HA, HJ29, HB⟩ := hcut
        cases kq with
        | zero => exact absurd HA.out (by simp [laws_FnPages.j2])
        | succ kj29 =>
         have H := HA.out
         clear HA
         simp only [laws_FnPages.j2] at H
         by_cases c38 : x90_29 = true
         ·subst c38
          have H1 : (some false) = some r := by rw [if_pos rfl] at H; exact H
          clear H
          have H := H1
          clear H1
          obtain rfl := Option.some.inj H
          go_wp2
          go_ret
          exact ⟨by first | rfl | (simp [errW_none, errW_some] <;> rfl) | (simp [*, errW_none, errW_some] <;> rfl) | (simp [errW_none, errW_some] <;> (apply Bool.eq_iff_iff.2; simp [List.isEmpty_iff])), by repeat (first | (with_reducible first | exact HB.out | apply below_alloc | apply pw_below_drewN | apply below_drew1) | exact HB.out)⟩
         ·replace c38 := Bool.eq_false_iff.mpr c38
          subst c38
          have H1 : ((spec_DrawCollapseRange.f l0).bind fun bt424 => ((impl_CollapseRange.f kj29 bt424.1 bt424.2.1 bt424.2.2.1 bt424.2.2.2).bind fun bt429 => ((spec_CollapseRange.f kj29 bt424.1 bt424.2.1 bt424.2.2.1 bt424.2.2.2).bind fun bt431 => (if bt429.1.toList = bt431.1.toList then (laws_FnPages.j3 kj29 l0 bt429.1 bt429.2 (bt429.2 != bt431.2) bt424.1 bt424.2.1 bt424.2.2.1) else (laws_FnPages.j3 kj29 l0 bt429.1 bt429.2 true bt424.1 bt424.2.1 bt424.2.2.1))))) = some r := by rw [if_neg (show ¬ (false = true) by decide)] at H; exact H
          clear H
          have H := H1
          clear H1
          replace H := Option.bind_eq_some_iff.mp H
          obtain ⟨⟨t424, t425, t426, t427⟩, A390, H⟩ := H
          replace H : ((impl_CollapseRange.f kj29 t424 t425 t426 t427).bind fun bt429 => ((spec_CollapseRange.f kj29 t424 t425 t426 t427).bind fun bt431 => (if bt429.1.toList = bt431.1.toList then (laws_FnPages.j3 kj29 l0 bt429.1 bt429.2 (bt429.2 != bt431.2) t424 t425 t426) else (laws_FnPages.j3 kj29 l0 bt429.1 bt429.2 true t424 t425 t426)))) = some r := H
          have A39 := Aside0.mk A390
          clear A390
          replace H := Option.bind_eq_some_iff.mp H
          obtain ⟨⟨t429, t430⟩, A400, H⟩ := H
          replace H : ((spec_CollapseRange.f kj29 t424 t425 t426 t427).bind fun bt431 => (if t429.toList = bt431.1.toList then (laws_FnPages.j3 kj29 l0 t429 t430 (t430 != bt431.2) t424 t425 t426) else (laws_FnPages.j3 kj29 l0 t429 t430 true t424 t425 t426))) = some r := H
          have A40 := Aside0.mk A400
          clear A400
          replace H := Option.bind_eq_some_iff.mp H
          obtain ⟨⟨t431, t432⟩, A410, H⟩ := H
          replace H : (if t429.toList = t431.toList then (laws_FnPages.j3 kj29 l0 t429 t430 (t430 != t432) t424 t425 t426) else (laws_FnPages.j3 kj29 l0 t429 t430 true t424 t425 t426)) = some r := H
          have A41 := Aside0.mk A410
          clear A410
          have HC42 := Aside0.mk H
          clear H
          go_upto_region 20 with (first | ((with_reducible refine gate_callee (f := 13) rfl ?_); refine goesL_ (some 93) rfl rfl Tryz.func13 (by kernel_rfl) rfl #[.slice A0 l0.length c0] rfl (by (try simp only [List.map_toArray, List.map_cons, List.map_nil]); first | done | rfl | (simp only [List.length_drop, List.length_take]; rfl)) ?_; (with_reducible refine (spec_DrawCollapseRange.calls _ _ l0 t424 t425 t426 t427 _ ?side1 ?side2 A39.out).mono ?_); (case side1 => repeat (first | exact (Kd.C_below HR0.out HB.out) | (with_reducible refine Kd.C_alloc ?_ _) | (with_reducible refine Kd.C_drewN ?_ _) | (with_reducible refine Kd.C_drew ?_))); (case side2 => exact HC0.out); rintro e w43 ⟨rfl, hb⟩; refine ⟨_, rfl, ?_⟩; have n0_ := Aside0.mk (below_step (by repeat (first | (with_reducible first | exact HB.out | apply below_alloc | apply pw_below_drewN | apply below_drew1) | exact HB.out)) hb); clear HB; have HB := n0_; clear n0_; (try clear hb); (try clear hb2); (try clear hk); (try clear hi)) | ((with_reducible refine gate_dst (N := 15) rfl ?_); refine box_event ?hg (N := 15) ?hd (cs := #[.string (⟨#[]⟩ : ByteArray), .int .i64 0, .int .i64 0]) (t := 34) ?hr ?_; (case hd => rfl); (case hg => rfl); (case hr => first | (go_simp; done) | (go_simp; rfl)); intro gb428 hg w44 hbox hb; have n0_ := Aside0.mk (below_step (by repeat (first | (with_reducible first | exact HB.out | apply below_alloc | apply pw_below_drewN | apply below_drew1) | exact HB.out)) hb); have n1_ := Aside0.mk (hbox); have n2_ := Aside0.mk ((by rw [hg]; exact (below_size (by repeat (first | (with_reducible first | exact HB.out | apply below_alloc | apply pw_below_drewN | apply below_drew1) | exact HB.out))) : w.heap.size ≤ gb428)); have n3_ := Aside0.mk ((by rw [hg]; exact (below_size (by repeat (first | (with_reducible first | exact HB.out | apply below_alloc | apply pw_below_drewN | apply below_drew1) | exact HB.out))) : w.heap.size ≤ gb428)); clear HB; have HB := n0_; have BK428 := n1_; have GW428 := n2_; have GE428 := n3_; clear n0_ n1_ n2_ n3_; clear hb hbox hg; obtain ⟨hcz45_0, hcz45_1, hcz45_2⟩ := cells3 BK428.out; have hfz45_0 := blk_frozen BK428.out 0; have hfz45_1 := blk_frozen BK428.out 1; have hfz45_2 := blk_frozen BK428.out 2) | ((with_reducible refine gate_callee (f := 14) rfl ?_); refine goesL_ (some 99) rfl rfl Tryz.func14 (by kernel_rfl) rfl #[.agg #[.string t424, .int .i64 t425, .int .i64 t426], .int .i64 t427] rfl (by (try simp only [List.map_toArray, List.map_cons, List.map_nil]); first | done | rfl | (simp only [List.length_drop, List.length_take]; rfl)) ?_; (with_reducible refine (impl_CollapseRange.calls kj29 t424 t425 t426 t427 t429 t430 _ ?side1 A40.out).mono ?_); (case side1 => exact Go.Proofs.YtmemcncbkgcbeaaGreatDoorW.Envs.Env.below (Go.Proofs.YtmemcncbkgcbeaaGreatDoorW.Envs.Env.sub HENV.out (S := [1]) (by decide)) (by repeat (first | (with_reducible first | exact HB.out | apply below_alloc | apply pw_below_drewN | apply below_drew1 | refine below_set ?_ GE428.out) | exact HB.out))); rintro e w46 ⟨rfl, hb⟩; refine ⟨_, rfl, ?_⟩; have n0_ := Aside0.mk (blk_below (g := gb428) (o := .cells #[.string t424, .int .i64 t425, .int .i64 t426] 34 (0, 0)) (by (with_reducible repeat (first | refine blk_drewN ?_ _ | refine blk_drew ?_ | refine blk_alloc ?_ _)); refine blk_put (cs := #[.string t424, .int .i64 t425, .int .i64 0]) ?_ 2 _ rfl; (with_reducible repeat (first | refine blk_drewN ?_ _ | refine blk_drew ?_ | refine blk_alloc ?_ _)); refine blk_put (cs := #[.string t424, .int .i64 0, .int .i64 0]) ?_ 1 _ rfl; (with_reducible repeat (first | refine blk_drewN ?_ _ | refine blk_drew ?_ | refine blk_alloc ?_ _)); refine blk_put (cs := #[.string (⟨#[]⟩ : ByteArray), .int .i64 0, .int .i64 0]) ?_ 0 _ rfl; (with_reducible repeat (first | refine blk_drewN ?_ _ | refine blk_drew ?_ | refine blk_alloc ?_ _)); exact BK428.out) hb); have n1_ := Aside0.mk (below_step (by repeat (first | (with_reducible first | exact HB.out | apply below_alloc | apply pw_below_drewN | apply below_drew1 | refine below_set ?_ GE428.out) | exact HB.out)) hb); clear BK428; clear HB; have BK428 := n0_; have HB := n1_; clear n0_ n1_; (try clear hb); (try clear hb2); (try clear hk); (try clear hi); obtain ⟨hcz47_0, hcz47_1, hcz47_2⟩ := cells3 BK428.out; have hfz47_0 := blk_frozen BK428.out 0; have hfz47_1 := blk_frozen BK428.out 1; have hfz47_2 := blk_frozen BK428.out 2) | ((with_reducible refine gate_callee (f := 15) rfl ?_); refine goesL_ (some 105) rfl rfl Tryz.func15 (by kernel_rfl) rfl #[.agg #[.string t424, .int .i64 t425, .int .i64 t426], .int .i64 t427] rfl (by (try simp only [List.map_toArray, List.map_cons, List.map_nil]); first | done | rfl | (simp only [List.length_drop, List.length_take]; rfl)) ?_; (with_reducible refine (spec_CollapseRange.calls kj29 t424 t425 t426 t427 t431 t432 _ A41.out).mono ?_); rintro e w48 ⟨rfl, hb⟩; refine ⟨_, rfl, ?_⟩; have n0_ := Aside0.mk (blk_below (g := gb428) (o := .cells #[.string t424, .int .i64 t425, .int .i64 t426] 34 (0, 0)) (by (with_reducible repeat (first | refine blk_drewN ?_ _ | refine blk_drew ?_ | refine blk_alloc ?_ _)); exact BK428.out) hb); have n1_ := Aside0.mk (below_step (by repeat (first | (with_reducible first | exact HB.out | apply below_alloc | apply pw_below_drewN | apply below_drew1 | refine below_set ?_ GE428.out) | exact HB.out)) hb); clear BK428; clear HB; have BK428 := n0_; have HB := n1_; clear n0_ n1_; (try clear hb); (try clear hb2); (try clear hk); (try clear hi)))
          (try simp only [Act.put, List.setIfInBounds_toArray, List.set_cons_zero, List.set_cons_succ])
          go_cut [115] (fun v115 wc => ∃ (kq : Nat) (x115_41 : Bool), v115 = .bool x115_41 ∧ Aside0 (laws_FnPages.j3 kq l0 t429 t430 x115_41 t424 t425 t426 = some r) ∧ Aside0 (kq ≤ kj29) ∧ Aside0 (wc.heap[gb428]? = some (.cells #[.string t424, .int .i64 t425, .int .i64 t426] 34 (0, 0))) ∧ Aside0 (Below w.heap.size w wc))
          case first =>
           have H := HC42.out
           clear HC42
           by_cases c49 : t429.toList = t431.toList
           ·rw [if_pos c49] at H
            have c49b0 : (t429.toList == t431.toList) = true := beq_iff_eq.mpr c49
            have c49b1 : (t429.toList != t431.toList) = false := bne_eq_false_iff_eq.mpr c49
            clear c49
            (first | rw [c49b0] | rw [c49b1] | rw [c49b2] | (simp only [i64_w, i32_w]; rw [c49b0]) | skip)
            have H' := Aside0.mk H
            clear H
            go_wp2
            go_meet
            case rel => exact ⟨_, ((t430 != t432)), (by first | rfl | (simp; done) | (simp [*]; done)), H', ⟨by have := HJ6.out; have := HJ16.out; have := HJ29.out; first | omega | exact Nat.le_refl _⟩, ⟨by (with_reducible repeat (first | refine blk_drewN ?_ _ | refine blk_drew ?_ | refine blk_alloc ?_ _)); exact BK428.out⟩, ⟨by repeat (first | (with_reducible first | exact HB.out | apply below_alloc | apply pw_below_drewN | apply below_drew1 | refine below_set ?_ GE428.out) | exact HB.out)⟩⟩
           ·rw [if_neg c49] at H
            have c49b0 : (t429.toList == t431.toList) = false := beq_eq_false_iff_ne.mpr c49
            have c49b1 : (t429.toList != t431.toList) = true := bne_iff_ne.mpr c49
            (first | rw [c49b0] | rw [c49b1] | rw [c49b2] | (simp only [i64_w, i32_w]; rw [c49b0]) | skip)
            have H' := Aside0.mk H
            clear H
            go_wp2
            go_meet
            case rel => exact ⟨_, (true), (by first | rfl | (simp; done) | (simp [*]; done)), H', ⟨by have := HJ6.out; have := HJ16.out; have := HJ29.out; first | omega | exact Nat.le_refl _⟩, ⟨by (with_reducible repeat (first | refine blk_drewN ?_ _ | refine blk_drew ?_ | refine blk_alloc ?_ _)); exact BK428.out⟩, ⟨by repeat (first | (with_reducible first | exact HB.out | apply below_alloc | apply pw_below_drewN | apply below_drew1 | refine below_set ?_ GE428.out) | exact HB.out)⟩⟩
          case rest =>
           clear HC42
           try clear c1
           try clear c2
           try clear p2
           try clear c3
           try clear c4
           try clear c5
           try clear c6
           try clear c7
           try clear c9
           try clear c11
           try clear c12
           try clear c12b0
           try clear c12b1
           try clear c12b2
           try clear c13
           try clear c13b0
           try clear c13b1
           try clear c13b2
           try clear c14
           try clear c15
           try clear c16
           try clear c18
           try clear c20
           try clear c25
           try clear c34
           try clear c34b0
           try clear c34b1
           try clear c34b2
           try clear c38
           try clear c49
           try clear c49b0
           try clear c49b1
           try clear c49b2
           try clear hcz45_0
           try clear hcz45_1
           try clear hcz45_2
           try clear hcz47_0
           try clear hcz47_1
           try clear hcz47_2
           try clear hfz45_0
           try clear hfz45_1
           try clear hfz45_2
           try clear hfz47_0
           try clear hfz47_1
           try clear hfz47_2
           try clear p2
           obtain ⟨kq, x115_41, rfl, HA, HJ41, BK428, HB⟩ := hcut
           cases kq with
           | zero => exact absurd HA.out (by simp [laws_FnPages.j3])
           | succ kj41 =>
            have H := HA.out
            clear HA
            simp only [laws_FnPages.j3] at H
            by_cases c50 : x115_41 = true
            ·subst c50
             have H1 : (some false) = some r := by rw [if_pos rfl] at H; exact H
             clear H
             have H := H1
             clear H1
             obtain rfl := Option.some.inj H
             go_wp2
             go_ret
             exact ⟨by first | rfl | (simp [errW_none, errW_some] <;> rfl) | (simp [*, errW_none, errW_some] <;> rfl) | (simp [errW_none, errW_some] <;> (apply Bool.eq_iff_iff.2; simp [List.isEmpty_iff])), by repeat (first | (with_reducible first | exact HB.out | apply below_alloc | apply pw_below_drewN | apply below_drew1 | refine below_set ?_ GE428.out) | exact HB.out)⟩
            ·replace c50 := Bool.eq_false_iff.mpr c50
             subst c50
             have H1 : (if t430 = true then ((impl_ExpandRange.f kj41 t429).bind fun bt433 => (if bt433.2.2.2 = true then (laws_FnPages.j4 kj41 l0 (!(bt433.1.toList == t424.toList) || (!(bt433.2.1 == t425) || (!(bt433.2.2.1 == t426))))) else (laws_FnPages.j4 kj41 l0 true))) else ((spec_DrawExpandRange.f kj41 l0).bind fun t449 => ((impl_ExpandRange.f kj41 t449).bind fun bt450 => ((spec_ExpandRange.f kj41 t449).bind fun bt455 => (if (bt450.1.toList == bt455.1.toList && (bt450.2.1 == bt455.2.1 && (bt450.2.2.1 == bt455.2.2.1))) = true then (some (bt450.2.2.2 == bt455.2.2.2)) else (some false)))))) = some r := by rw [if_neg (show ¬ (false = true) by decide)] at H; exact H
             clear H
             have H := H1
             clear H1
             by_cases c51 : t430 = true
             ·subst c51
              have H1 : ((impl_ExpandRange.f kj41 t429).bind fun bt433 => (if bt433.2.2.2 = true then (laws_FnPages.j4 kj41 l0 (!(bt433.1.toList == t424.toList) || (!(bt433.2.1 == t425) || (!(bt433.2.2.1 == t426))))) else (laws_FnPages.j4 kj41 l0 true))) = some r := by rw [if_pos rfl] at H; exact H
              clear H
              have H := H1
              clear H1
              replace H := Option.bind_eq_some_iff.mp H
              obtain ⟨⟨t433, t434, t435, t436⟩, A520, H⟩ := H
              replace H : (if t436 = true then (laws_FnPages.j4 kj41 l0 (!(t433.toList == t424.toList) || (!(t434 == t425) || (!(t435 == t426))))) else (laws_FnPages.j4 kj41 l0 true)) = some r := H
              have A52 := Aside0.mk A520
              clear A520
              have HC53 := Aside0.mk H
              clear H
              go_upto_region 24 with (first | ((with_reducible refine gate_callee (f := 16) rfl ?_); refine goesL_ (some 119) rfl rfl Tryz.func16 (by kernel_rfl) rfl #[.string t429] rfl (by (try simp only [List.map_toArray, List.map_cons, List.map_nil]); first | done | rfl | (simp only [List.length_drop, List.length_take]; rfl)) ?_; (with_reducible refine (impl_ExpandRange.calls kj41 t429 t433 t434 t435 t436 _ ?side1 A52.out).mono ?_); (case side1 => exact Go.Proofs.YtmemcncbkgcbeaaGreatDoorW.Envs.Env.below HENV.out (by repeat (first | (with_reducible first | exact HB.out | apply below_alloc | apply pw_below_drewN | apply below_drew1 | refine below_set ?_ GE428.out) | exact HB.out))); rintro e w54 ⟨rfl, hb⟩; refine ⟨_, rfl, ?_⟩; have n0_ := Aside0.mk (blk_below (g := gb428) (o := .cells #[.string t424, .int .i64 t425, .int .i64 t426] 34 (0, 0)) (by (with_reducible repeat (first | refine blk_drewN ?_ _ | refine blk_drew ?_ | refine blk_alloc ?_ _)); exact BK428.out) hb); have n1_ := Aside0.mk (below_step (by repeat (first | (with_reducible first | exact HB.out | apply below_alloc | apply pw_below_drewN | apply below_drew1 | refine below_set ?_ GE428.out) | exact HB.out)) hb); clear BK428; clear HB; have BK428 := n0_; have HB := n1_; clear n0_ n1_; (try clear hb); (try clear hb2); (try clear hk); (try clear hi)) | ((with_reducible refine gate_dst (N := 21) rfl ?_); refine box_event ?hg (N := 21) ?hd (cs := #[.string (⟨#[]⟩ : ByteArray), .int .i64 0, .int .i64 0]) (t := 34) ?hr ?_; (case hd => rfl); (case hg => rfl); (case hr => first | (go_simp; done) | (go_simp; rfl)); intro gb437 hg w55 hbox hb; have n0_ := Aside0.mk (blk_below (g := gb428) (o := .cells #[.string t424, .int .i64 t425, .int .i64 t426] 34 (0, 0)) (by (with_reducible repeat (first | refine blk_drewN ?_ _ | refine blk_drew ?_ | refine blk_alloc ?_ _)); exact BK428.out) hb); have n1_ := Aside0.mk (below_step (by repeat (first | (with_reducible first | exact HB.out | apply below_alloc | apply pw_below_drewN | apply below_drew1 | refine below_set ?_ GE428.out) | exact HB.out)) hb); have n2_ := Aside0.mk (hbox); have n3_ := Aside0.mk ((by rw [hg]; exact (below_size (by repeat (first | (with_reducible first | exact HB.out | apply below_alloc | apply pw_below_drewN | apply below_drew1 | refine below_set ?_ GE428.out) | exact HB.out))) : w.heap.size ≤ gb437)); have n4_ := Aside0.mk ((by rw [hg]; exact (below_size (by repeat (first | (with_reducible first | exact HB.out | apply below_alloc | apply pw_below_drewN | apply below_drew1 | refine below_set ?_ GE428.out) | exact HB.out))) : w.heap.size ≤ gb437)); have n5_ := Aside0.mk ((by rw [hg]; exact Nat.ne_of_lt (blk_lt (g := gb428) (o := .cells #[.string t424, .int .i64 t425, .int .i64 t426] 34 (0, 0)) (by (with_reducible repeat (first | refine blk_drewN ?_ _ | refine blk_drew ?_ | refine blk_alloc ?_ _)); exact BK428.out)) : gb428 ≠ gb437)); have n6_ := Aside0.mk ((by rw [hg]; exact Nat.ne_of_gt (blk_lt (g := gb428) (o := .cells #[.string t424, .int .i64 t425, .int .i64 t426] 34 (0, 0)) (by (with_reducible repeat (first | refine blk_drewN ?_ _ | refine blk_drew ?_ | refine blk_alloc ?_ _)); exact BK428.out)) : gb437 ≠ gb428)); clear BK428; clear HB; have BK428 := n0_; have HB := n1_; have BK437 := n2_; have GW437 := n3_; have GE437 := n4_; have NB428_437 := n5_; have NB437_428 := n6_; clear n0_ n1_ n2_ n3_ n4_ n5_ n6_; clear hb hbox hg; have hnb56 := NB437_428.out; have hnc56 := NB428_437.out; obtain ⟨hcz57_0, hcz57_1, hcz57_2⟩ := cells3 BK437.out; have hfz57_0 := blk_frozen BK437.out 0; have hfz57_1 := blk_frozen BK437.out 1; have hfz57_2 := blk_frozen BK437.out 2))
              (try simp only [Act.put, List.setIfInBounds_toArray, List.set_cons_zero, List.set_cons_succ])
              go_cut [128] (fun v128 wc => ∃ (kq : Nat) (x128_52 : Bool), v128 = .bool x128_52 ∧ Aside0 (laws_FnPages.j4 kq l0 x128_52 = some r) ∧ Aside0 (kq ≤ kj41) ∧ Aside0 (wc.heap[gb428]? = some (.cells #[.string t424, .int .i64 t425, .int .i64 t426] 34 (0, 0))) ∧ Aside0 (wc.heap[gb437]? = some (.cells #[.string t433, .int .i64 t434, .int .i64 t435] 34 (0, 0))) ∧ Aside0 (Below w.heap.size w wc))
              case first =>
               have H := HC53.out
               clear HC53
               by_cases c58 : t436 = true
               ·subst c58
                have H1 : (laws_FnPages.j4 kj41 l0 (!(t433.toList == t424.toList) || (!(t434 == t425) || (!(t435 == t426))))) = some r := by rw [if_pos rfl] at H; exact H
                clear H
                have H := H1
                clear H1
                have H' := Aside0.mk H
                clear H
                have hnb59 := NB437_428.out
                have hnc59 := NB428_437.out
                have hcz60_0 : w55.cell? ⟨gb437, 0, none⟩ = some (.string (⟨#[]⟩ : ByteArray)) := (blk_cell BK437.out 0).trans rfl
                have hcz60_1 : w55.cell? ⟨gb437, 1, none⟩ = some (.int .i64 0) := (blk_cell BK437.out 1).trans rfl
                have hcz60_2 : w55.cell? ⟨gb437, 2, none⟩ = some (.int .i64 0) := (blk_cell BK437.out 2).trans rfl
                have hfz60_0 := blk_frozen BK437.out 0
                have hfz60_1 := blk_frozen BK437.out 1
                have hfz60_2 := blk_frozen BK437.out 2
                obtain ⟨hcz61_0, hcz61_1, hcz61_2⟩ := cells3 BK428.out
                have hfz61_0 := blk_frozen BK428.out 0
                have hfz61_1 := blk_frozen BK428.out 1
                have hfz61_2 := blk_frozen BK428.out 2
                go_wp2
                go_meet
                case rel => exact ⟨_, ((!(t433.toList == t424.toList) || (!(t434 == t425) || (!(t435 == t426))))), (by first | rfl | (simp; done) | (simp [*]; done) | (refine congrArg Value.bool (Bool.eq_iff_iff.2 ?_); simp [List.isEmpty_iff])), H', ⟨by have := HJ6.out; have := HJ16.out; have := HJ29.out; have := HJ41.out; first | omega | exact Nat.le_refl _⟩, ⟨by (with_reducible repeat (first | refine blk_drewN ?_ _ | refine blk_drew ?_ | refine blk_alloc ?_ _)); refine blk_far ?_ NB428_437.out _; (with_reducible repeat (first | refine blk_drewN ?_ _ | refine blk_drew ?_ | refine blk_alloc ?_ _)); refine blk_far ?_ NB428_437.out _; (with_reducible repeat (first | refine blk_drewN ?_ _ | refine blk_drew ?_ | refine blk_alloc ?_ _)); refine blk_far ?_ NB428_437.out _; (with_reducible repeat (first | refine blk_drewN ?_ _ | refine blk_drew ?_ | refine blk_alloc ?_ _)); exact BK428.out⟩, ⟨by (with_reducible repeat (first | refine blk_drewN ?_ _ | refine blk_drew ?_ | refine blk_alloc ?_ _)); refine blk_put (cs := #[.string t433, .int .i64 t434, .int .i64 0]) ?_ 2 _ rfl; (with_reducible repeat (first | refine blk_drewN ?_ _ | refine blk_drew ?_ | refine blk_alloc ?_ _)); refine blk_put (cs := #[.string t433, .int .i64 0, .int .i64 0]) ?_ 1 _ rfl; (with_reducible repeat (first | refine blk_drewN ?_ _ | refine blk_drew ?_ | refine blk_alloc ?_ _)); refine blk_put (cs := #[.string (⟨#[]⟩ : ByteArray), .int .i64 0, .int .i64 0]) ?_ 0 _ rfl; (with_reducible repeat (first | refine blk_drewN ?_ _ | refine blk_drew ?_ | refine blk_alloc ?_ _)); exact BK437.out⟩, ⟨by repeat (first | (with_reducible first | exact HB.out | apply below_alloc | apply pw_below_drewN | apply below_drew1 | refine below_set ?_ GE428.out | refine below_set ?_ GE437.out) | exact HB.out)⟩⟩
               ·replace c58 := Bool.eq_false_iff.mpr c58
                subst c58
                have H1 : (laws_FnPages.j4 kj41 l0 true) = some r := by rw [if_neg (show ¬ (false = true) by decide)] at H; exact H
                clear H
                have H := H1
                clear H1
                have H' := Aside0.mk H
                clear H
                go_wp2
                go_meet
                case rel => exact ⟨_, (true), (by first | rfl | (simp; done) | (simp [*]; done)), H', ⟨by have := HJ6.out; have := HJ16.out; have := HJ29.out; have := HJ41.out; first | omega | exact Nat.le_refl _⟩, ⟨by (with_reducible repeat (first | refine blk_drewN ?_ _ | refine blk_drew ?_ | refine blk_alloc ?_ _)); refine blk_far ?_ NB428_437.out _; (with_reducible repeat (first | refine blk_drewN ?_ _ | refine blk_drew ?_ | refine blk_alloc ?_ _)); refine blk_far ?_ NB428_437.out _; (with_reducible repeat (first | refine blk_drewN ?_ _ | refine blk_drew ?_ | refine blk_alloc ?_ _)); refine blk_far ?_ NB428_437.out _; (with_reducible repeat (first | refine blk_drewN ?_ _ | refine blk_drew ?_ | refine blk_alloc ?_ _)); exact BK428.out⟩, ⟨by (with_reducible repeat (first | refine blk_drewN ?_ _ | refine blk_drew ?_ | refine blk_alloc ?_ _)); refine blk_put (cs := #[.string t433, .int .i64 t434, .int .i64 0]) ?_ 2 _ rfl; (with_reducible repeat (first | refine blk_drewN ?_ _ | refine blk_drew ?_ | refine blk_alloc ?_ _)); refine blk_put (cs := #[.string t433, .int .i64 0, .int .i64 0]) ?_ 1 _ rfl; (with_reducible repeat (first | refine blk_drewN ?_ _ | refine blk_drew ?_ | refine blk_alloc ?_ _)); refine blk_put (cs := #[.string (⟨#[]⟩ : ByteArray), .int .i64 0, .int .i64 0]) ?_ 0 _ rfl; (with_reducible repeat (first | refine blk_drewN ?_ _ | refine blk_drew ?_ | refine blk_alloc ?_ _)); exact BK437.out⟩, ⟨by repeat (first | (with_reducible first | exact HB.out | apply below_alloc | apply pw_below_drewN | apply below_drew1 | refine below_set ?_ GE428.out | refine below_set ?_ GE437.out) | exact HB.out)⟩⟩
              case rest =>
               clear HC53
               try clear c1
               try clear c2
               try clear p2
               try clear c3
               try clear c4
               try clear c5
               try clear c6
               try clear c7
               try clear c9
               try clear c11
               try clear c12
               try clear c12b0
               try clear c12b1
               try clear c12b2
               try clear c13
               try clear c13b0
               try clear c13b1
               try clear c13b2
               try clear c14
               try clear c15
               try clear c16
               try clear c18
               try clear c20
               try clear c25
               try clear c34
               try clear c34b0
               try clear c34b1
               try clear c34b2
               try clear c38
               try clear c49
               try clear c49b0
               try clear c49b1
               try clear c49b2
               try clear c50
               try clear c51
               try clear c56
               try clear c58
               try clear c59
               try clear hcz45_0
               try clear hcz45_1
               try clear hcz45_2
               try clear hcz47_0
               try clear hcz47_1
               try clear hcz47_2
               try clear hcz57_0
               try clear hcz57_1
               try clear hcz57_2
               try clear hcz60_0
               try clear hcz60_1
               try clear hcz60_2
               try clear hcz61_0
               try clear hcz61_1
               try clear hcz61_2
               try clear hfz45_0
               try clear hfz45_1
               try clear hfz45_2
               try clear hfz47_0
               try clear hfz47_1
               try clear hfz47_2
               try clear hfz57_0
               try clear hfz57_1
               try clear hfz57_2
               try clear hfz60_0
               try clear hfz60_1
               try clear hfz60_2
               try clear hfz61_0
               try clear hfz61_1
               try clear hfz61_2
               try clear p2
               obtain ⟨kq, x128_52, rfl, HA, HJ52, BK428, BK437, HB⟩ := hcut
               cases kq with
               | zero => exact absurd HA.out (by simp [laws_FnPages.j4])
               | succ kj52 =>
                have H := HA.out
                clear HA
                simp only [laws_FnPages.j4] at H
                by_cases c62 : x128_52 = true
                ·subst c62
                 have H1 : (some false) = some r := by rw [if_pos rfl] at H; exact H
                 clear H
                 have H := H1
                 clear H1
                 obtain rfl := Option.some.inj H
                 go_wp2
                 go_ret
                 exact ⟨by first | rfl | (simp [errW_none, errW_some] <;> rfl) | (simp [*, errW_none, errW_some] <;> rfl) | (simp [errW_none, errW_some] <;> (apply Bool.eq_iff_iff.2; simp [List.isEmpty_iff])), by repeat (first | (with_reducible first | exact HB.out | apply below_alloc | apply pw_below_drewN | apply below_drew1 | refine below_set ?_ GE428.out | refine below_set ?_ GE437.out) | exact HB.out)⟩
                ·replace c62 := Bool.eq_false_iff.mpr c62
                 subst c62
                 have H1 : ((spec_DrawExpandRange.f kj52 l0).bind fun t438 => ((impl_ExpandRange.f kj52 t438).bind fun bt439 => ((spec_ExpandRange.f kj52 t438).bind fun bt444 => (if (bt439.1.toList == bt444.1.toList && (bt439.2.1 == bt444.2.1 && (bt439.2.2.1 == bt444.2.2.1))) = true then (some (bt439.2.2.2 == bt444.2.2.2)) else (some false))))) = some r := by rw [if_neg (show ¬ (false = true) by decide)] at H; exact H
                 clear H
                 have H := H1
                 clear H1
                 replace H := Option.bind_eq_some_iff.mp H
                 obtain ⟨t438, A630, H⟩ := H
                 replace H : ((impl_ExpandRange.f kj52 t438).bind fun bt439 => ((spec_ExpandRange.f kj52 t438).bind fun bt444 => (if (bt439.1.toList == bt444.1.toList && (bt439.2.1 == bt444.2.1 && (bt439.2.2.1 == bt444.2.2.1))) = true then (some (bt439.2.2.2 == bt444.2.2.2)) else (some false)))) = some r := H
                 have A63 := Aside0.mk A630
                 clear A630
                 replace H := Option.bind_eq_some_iff.mp H
                 obtain ⟨⟨t439, t440, t441, t442⟩, A640, H⟩ := H
                 replace H : ((spec_ExpandRange.f kj52 t438).bind fun bt444 => (if (t439.toList == bt444.1.toList && (t440 == bt444.2.1 && (t441 == bt444.2.2.1))) = true then (some (t442 == bt444.2.2.2)) else (some false))) = some r := H
                 have A64 := Aside0.mk A640
                 clear A640
                 replace H := Option.bind_eq_some_iff.mp H
                 obtain ⟨⟨t444, t445, t446, t447⟩, A650, H⟩ := H
                 replace H : (if (t439.toList == t444.toList && (t440 == t445 && (t441 == t446))) = true then (some (t442 == t447)) else (some false)) = some r := H
                 have A65 := Aside0.mk A650
                 clear A650
                 have HC66 := Aside0.mk H
                 clear H
                 go_upto_region 29 with (first | ((with_reducible refine gate_callee (f := 17) rfl ?_); refine goesL_ (some 130) rfl rfl Tryz.func17 (by kernel_rfl) rfl #[.slice A0 l0.length c0] rfl (by (try simp only [List.map_toArray, List.map_cons, List.map_nil]); first | done | rfl | (simp only [List.length_drop, List.length_take]; rfl)) ?_; (with_reducible refine (spec_DrawExpandRange.calls kj52 _ _ l0 t438 _ ?side1 ?side2 A63.out).mono ?_); (case side1 => repeat (first | exact (Kd.C_below HR0.out HB.out) | (with_reducible refine Kd.C_alloc ?_ _) | (with_reducible refine Kd.C_drewN ?_ _) | (with_reducible refine Kd.C_drew ?_))); (case side2 => exact HC0.out); rintro e w67 ⟨rfl, hb⟩; refine ⟨_, rfl, ?_⟩; have n0_ := Aside0.mk (blk_below (g := gb428) (o := .cells #[.string t424, .int .i64 t425, .int .i64 t426] 34 (0, 0)) (by (with_reducible repeat (first | refine blk_drewN ?_ _ | refine blk_drew ?_ | refine blk_alloc ?_ _)); exact BK428.out) hb); have n1_ := Aside0.mk (blk_below (g := gb437) (o := .cells #[.string t433, .int .i64 t434, .int .i64 t435] 34 (0, 0)) (by (with_reducible repeat (first | refine blk_drewN ?_ _ | refine blk_drew ?_ | refine blk_alloc ?_ _)); exact BK437.out) hb); have n2_ := Aside0.mk (below_step (by repeat (first | (with_reducible first | exact HB.out | apply below_alloc | apply pw_below_drewN | apply below_drew1 | refine below_set ?_ GE428.out | refine below_set ?_ GE437.out) | exact HB.out)) hb); clear BK428; clear BK437; clear HB; have BK428 := n0_; have BK437 := n1_; have HB := n2_; clear n0_ n1_ n2_; (try clear hb); (try clear hb2); (try clear hk); (try clear hi)) | ((with_reducible refine gate_callee (f := 16) rfl ?_); refine goesL_ (some 133) rfl rfl Tryz.func16 (by kernel_rfl) rfl #[.string t438] rfl (by (try simp only [List.map_toArray, List.map_cons, List.map_nil]); first | done | rfl | (simp only [List.length_drop, List.length_take]; rfl)) ?_; (with_reducible refine (impl_ExpandRange.calls kj52 t438 t439 t440 t441 t442 _ ?side1 A64.out).mono ?_); (case side1 => exact Go.Proofs.YtmemcncbkgcbeaaGreatDoorW.Envs.Env.below HENV.out (by repeat (first | (with_reducible first | exact HB.out | apply below_alloc | apply pw_below_drewN | apply below_drew1 | refine below_set ?_ GE428.out | refine below_set ?_ GE437.out) | exact HB.out))); rintro e w68 ⟨rfl, hb⟩; refine ⟨_, rfl, ?_⟩; have n0_ := Aside0.mk (blk_below (g := gb428) (o := .cells #[.string t424, .int .i64 t425, .int .i64 t426] 34 (0, 0)) (by (with_reducible repeat (first | refine blk_drewN ?_ _ | refine blk_drew ?_ | refine blk_alloc ?_ _)); exact BK428.out) hb); have n1_ := Aside0.mk (blk_below (g := gb437) (o := .cells #[.string t433, .int .i64 t434, .int .i64 t435] 34 (0, 0)) (by (with_reducible repeat (first | refine blk_drewN ?_ _ | refine blk_drew ?_ | refine blk_alloc ?_ _)); exact BK437.out) hb); have n2_ := Aside0.mk (below_step (by repeat (first | (with_reducible first | exact HB.out | apply below_alloc | apply pw_below_drewN | apply below_drew1 | refine below_set ?_ GE428.out | refine below_set ?_ GE437.out) | exact HB.out)) hb); clear BK428; clear BK437; clear HB; have BK428 := n0_; have BK437 := n1_; have HB := n2_; clear n0_ n1_ n2_; (try clear hb); (try clear hb2); (try clear hk); (try clear hi)) | ((with_reducible refine gate_dst (N := 24) rfl ?_); refine box_event ?hg (N := 24) ?hd (cs := #[.string (⟨#[]⟩ : ByteArray), .int .i64 0, .int .i64 0]) (t := 34) ?hr ?_; (case hd => rfl); (case hg => rfl); (case hr => first | (go_simp; done) | (go_simp; rfl)); intro gb443 hg w69 hbox hb; have n0_ := Aside0.mk (blk_below (g := gb428) (o := .cells #[.string t424, .int .i64 t425, .int .i64 t426] 34 (0, 0)) (by (with_reducible repeat (first | refine blk_drewN ?_ _ | refine blk_drew ?_ | refine blk_alloc ?_ _)); exact BK428.out) hb); have n1_ := Aside0.mk (blk_below (g := gb437) (o := .cells #[.string t433, .int .i64 t434, .int .i64 t435] 34 (0, 0)) (by (with_reducible repeat (first | refine blk_drewN ?_ _ | refine blk_drew ?_ | refine blk_alloc ?_ _)); exact BK437.out) hb); have n2_ := Aside0.mk (below_step (by repeat (first | (with_reducible first | exact HB.out | apply below_alloc | apply pw_below_drewN | apply below_drew1 | refine below_set ?_ GE428.out | refine below_set ?_ GE437.out) | exact HB.out)) hb); have n3_ := Aside0.mk (hbox); have n4_ := Aside0.mk ((by rw [hg]; exact (below_size (by repeat (first | (with_reducible first | exact HB.out | apply below_alloc | apply pw_below_drewN | apply below_drew1 | refine below_set ?_ GE428.out | refine below_set ?_ GE437.out) | exact HB.out))) : w.heap.size ≤ gb443)); have n5_ := Aside0.mk ((by rw [hg]; exact (below_size (by repeat (first | (with_reducible first | exact HB.out | apply below_alloc | apply pw_below_drewN | apply below_drew1 | refine below_set ?_ GE428.out | refine below_set ?_ GE437.out) | exact HB.out))) : w.heap.size ≤ gb443)); have n6_ := Aside0.mk ((by rw [hg]; exact Nat.ne_of_lt (blk_lt (g := gb428) (o := .cells #[.string t424, .int .i64 t425, .int .i64 t426] 34 (0, 0)) (by (with_reducible repeat (first | refine blk_drewN ?_ _ | refine blk_drew ?_ | refine blk_alloc ?_ _)); exact BK428.out)) : gb428 ≠ gb443)); have n7_ := Aside0.mk ((by rw [hg]; exact Nat.ne_of_gt (blk_lt (g := gb428) (o := .cells #[.string t424, .int .i64 t425, .int .i64 t426] 34 (0, 0)) (by (with_reducible repeat (first | refine blk_drewN ?_ _ | refine blk_drew ?_ | refine blk_alloc ?_ _)); exact BK428.out)) : gb443 ≠ gb428)); have n8_ := Aside0.mk ((by rw [hg]; exact Nat.ne_of_lt (blk_lt (g := gb437) (o := .cells #[.string t433, .int .i64 t434, .int .i64 t435] 34 (0, 0)) (by (with_reducible repeat (first | refine blk_drewN ?_ _ | refine blk_drew ?_ | refine blk_alloc ?_ _)); exact BK437.out)) : gb437 ≠ gb443)); have n9_ := Aside0.mk ((by rw [hg]; exact Nat.ne_of_gt (blk_lt (g := gb437) (o := .cells #[.string t433, .int .i64 t434, .int .i64 t435] 34 (0, 0)) (by (with_reducible repeat (first | refine blk_drewN ?_ _ | refine blk_drew ?_ | refine blk_alloc ?_ _)); exact BK437.out)) : gb443 ≠ gb437)); clear BK428; clear BK437; clear HB; have BK428 := n0_; have BK437 := n1_; have HB := n2_; have BK443 := n3_; have GW443 := n4_; have GE443 := n5_; have NB428_443 := n6_; have NB443_428 := n7_; have NB437_443 := n8_; have NB443_437 := n9_; clear n0_ n1_ n2_ n3_ n4_ n5_ n6_ n7_ n8_ n9_; clear hb hbox hg; have hnb70 := NB443_428.out; have hnc70 := NB428_443.out; have hnb71 := NB443_437.out; have hnc71 := NB437_443.out; obtain ⟨hcz72_0, hcz72_1, hcz72_2⟩ := cells3 BK443.out; have hfz72_0 := blk_frozen BK443.out 0; have hfz72_1 := blk_frozen BK443.out 1; have hfz72_2 := blk_frozen BK443.out 2) | ((with_reducible refine gate_callee (f := 18) rfl ?_); refine goesL_ (some 138) rfl rfl Tryz.func18 (by kernel_rfl) rfl #[.string t438] rfl (by (try simp only [List.map_toArray, List.map_cons, List.map_nil]); first | done | rfl | (simp only [List.length_drop, List.length_take]; rfl)) ?_; (with_reducible refine (spec_ExpandRange.calls kj52 t438 t444 t445 t446 t447 _ A65.out).mono ?_); rintro e w73 ⟨rfl, hb⟩; refine ⟨_, rfl, ?_⟩; have n0_ := Aside0.mk (blk_below (g := gb428) (o := .cells #[.string t424, .int .i64 t425, .int .i64 t426] 34 (0, 0)) (by (with_reducible repeat (first | refine blk_drewN ?_ _ | refine blk_drew ?_ | refine blk_alloc ?_ _)); refine blk_far ?_ NB428_443.out _; (with_reducible repeat (first | refine blk_drewN ?_ _ | refine blk_drew ?_ | refine blk_alloc ?_ _)); refine blk_far ?_ NB428_443.out _; (with_reducible repeat (first | refine blk_drewN ?_ _ | refine blk_drew ?_ | refine blk_alloc ?_ _)); refine blk_far ?_ NB428_443.out _; (with_reducible repeat (first | refine blk_drewN ?_ _ | refine blk_drew ?_ | refine blk_alloc ?_ _)); exact BK428.out) hb); have n1_ := Aside0.mk (blk_below (g := gb437) (o := .cells #[.string t433, .int .i64 t434, .int .i64 t435] 34 (0, 0)) (by (with_reducible repeat (first | refine blk_drewN ?_ _ | refine blk_drew ?_ | refine blk_alloc ?_ _)); refine blk_far ?_ NB437_443.out _; (with_reducible repeat (first | refine blk_drewN ?_ _ | refine blk_drew ?_ | refine blk_alloc ?_ _)); refine blk_far ?_ NB437_443.out _; (with_reducible repeat (first | refine blk_drewN ?_ _ | refine blk_drew ?_ | refine blk_alloc ?_ _)); refine blk_far ?_ NB437_443.out _; (with_reducible repeat (first | refine blk_drewN ?_ _ | refine blk_drew ?_ | refine blk_alloc ?_ _)); exact BK437.out) hb); have n2_ := Aside0.mk (blk_below (g := gb443) (o := .cells #[.string t439, .int .i64 t440, .int .i64 t441] 34 (0, 0)) (by (with_reducible repeat (first | refine blk_drewN ?_ _ | refine blk_drew ?_ | refine blk_alloc ?_ _)); refine blk_put (cs := #[.string t439, .int .i64 t440, .int .i64 0]) ?_ 2 _ rfl; (with_reducible repeat (first | refine blk_drewN ?_ _ | refine blk_drew ?_ | refine blk_alloc ?_ _)); refine blk_put (cs := #[.string t439, .int .i64 0, .int .i64 0]) ?_ 1 _ rfl; (with_reducible repeat (first | refine blk_drewN ?_ _ | refine blk_drew ?_ | refine blk_alloc ?_ _)); refine blk_put (cs := #[.string (⟨#[]⟩ : ByteArray), .int .i64 0, .int .i64 0]) ?_ 0 _ rfl; (with_reducible repeat (first | refine blk_drewN ?_ _ | refine blk_drew ?_ | refine blk_alloc ?_ _)); exact BK443.out) hb); have n3_ := Aside0.mk (below_step (by repeat (first | (with_reducible first | exact HB.out | apply below_alloc | apply pw_below_drewN | apply below_drew1 | refine below_set ?_ GE428.out | refine below_set ?_ GE437.out | refine below_set ?_ GE443.out) | exact HB.out)) hb); clear BK428; clear BK437; clear BK443; clear HB; have BK428 := n0_; have BK437 := n1_; have BK443 := n2_; have HB := n3_; clear n0_ n1_ n2_ n3_; (try clear hb); (try clear hb2); (try clear hk); (try clear hi)) | ((with_reducible refine gate_dst (N := 26) rfl ?_); refine box_event ?hg (N := 26) ?hd (cs := #[.string (⟨#[]⟩ : ByteArray), .int .i64 0, .int .i64 0]) (t := 34) ?hr ?_; (case hd => rfl); (case hg => rfl); (case hr => first | (go_simp; done) | (go_simp; rfl)); intro gb448 hg w74 hbox hb; have n0_ := Aside0.mk (blk_below (g := gb428) (o := .cells #[.string t424, .int .i64 t425, .int .i64 t426] 34 (0, 0)) (by (with_reducible repeat (first | refine blk_drewN ?_ _ | refine blk_drew ?_ | refine blk_alloc ?_ _)); exact BK428.out) hb); have n1_ := Aside0.mk (blk_below (g := gb437) (o := .cells #[.string t433, .int .i64 t434, .int .i64 t435] 34 (0, 0)) (by (with_reducible repeat (first | refine blk_drewN ?_ _ | refine blk_drew ?_ | refine blk_alloc ?_ _)); exact BK437.out) hb); have n2_ := Aside0.mk (blk_below (g := gb443) (o := .cells #[.string t439, .int .i64 t440, .int .i64 t441] 34 (0, 0)) (by (with_reducible repeat (first | refine blk_drewN ?_ _ | refine blk_drew ?_ | refine blk_alloc ?_ _)); exact BK443.out) hb); have n3_ := Aside0.mk (below_step (by repeat (first | (with_reducible first | exact HB.out | apply below_alloc | apply pw_below_drewN | apply below_drew1 | refine below_set ?_ GE428.out | refine below_set ?_ GE437.out | refine below_set ?_ GE443.out) | exact HB.out)) hb); have n4_ := Aside0.mk (hbox); have n5_ := Aside0.mk ((by rw [hg]; exact (below_size (by repeat (first | (with_reducible first | exact HB.out | apply below_alloc | apply pw_below_drewN | apply below_drew1 | refine below_set ?_ GE428.out | refine below_set ?_ GE437.out | refine below_set ?_ GE443.out) | exact HB.out))) : w.heap.size ≤ gb448)); have n6_ := Aside0.mk ((by rw [hg]; exact (below_size (by repeat (first | (with_reducible first | exact HB.out | apply below_alloc | apply pw_below_drewN | apply below_drew1 | refine below_set ?_ GE428.out | refine below_set ?_ GE437.out | refine below_set ?_ GE443.out) | exact HB.out))) : w.heap.size ≤ gb448)); have n7_ := Aside0.mk ((by rw [hg]; exact Nat.ne_of_lt (blk_lt (g := gb428) (o := .cells #[.string t424, .int .i64 t425, .int .i64 t426] 34 (0, 0)) (by (with_reducible repeat (first | refine blk_drewN ?_ _ | refine blk_drew ?_ | refine blk_alloc ?_ _)); exact BK428.out)) : gb428 ≠ gb448)); have n8_ := Aside0.mk ((by rw [hg]; exact Nat.ne_of_gt (blk_lt (g := gb428) (o := .cells #[.string t424, .int .i64 t425, .int .i64 t426] 34 (0, 0)) (by (with_reducible repeat (first | refine blk_drewN ?_ _ | refine blk_drew ?_ | refine blk_alloc ?_ _)); exact BK428.out)) : gb448 ≠ gb428)); have n9_ := Aside0.mk ((by rw [hg]; exact Nat.ne_of_lt (blk_lt (g := gb437) (o := .cells #[.string t433, .int .i64 t434, .int .i64 t435] 34 (0, 0)) (by (with_reducible repeat (first | refine blk_drewN ?_ _ | refine blk_drew ?_ | refine blk_alloc ?_ _)); exact BK437.out)) : gb437 ≠ gb448)); have n10_ := Aside0.mk ((by rw [hg]; exact Nat.ne_of_gt (blk_lt (g := gb437) (o := .cells #[.string t433, .int .i64 t434, .int .i64 t435] 34 (0, 0)) (by (with_reducible repeat (first | refine blk_drewN ?_ _ | refine blk_drew ?_ | refine blk_alloc ?_ _)); exact BK437.out)) : gb448 ≠ gb437)); have n11_ := Aside0.mk ((by rw [hg]; exact Nat.ne_of_lt (blk_lt (g := gb443) (o := .cells #[.string t439, .int .i64 t440, .int .i64 t441] 34 (0, 0)) (by (with_reducible repeat (first | refine blk_drewN ?_ _ | refine blk_drew ?_ | refine blk_alloc ?_ _)); exact BK443.out)) : gb443 ≠ gb448)); have n12_ := Aside0.mk ((by rw [hg]; exact Nat.ne_of_gt (blk_lt (g := gb443) (o := .cells #[.string t439, .int .i64 t440, .int .i64 t441] 34 (0, 0)) (by (with_reducible repeat (first | refine blk_drewN ?_ _ | refine blk_drew ?_ | refine blk_alloc ?_ _)); exact BK443.out)) : gb448 ≠ gb443)); clear BK428; clear BK437; clear BK443; clear HB; have BK428 := n0_; have BK437 := n1_; have BK443 := n2_; have HB := n3_; have BK448 := n4_; have GW448 := n5_; have GE448 := n6_; have NB428_448 := n7_; have NB448_428 := n8_; have NB437_448 := n9_; have NB448_437 := n10_; have NB443_448 := n11_; have NB448_443 := n12_; clear n0_ n1_ n2_ n3_ n4_ n5_ n6_ n7_ n8_ n9_ n10_ n11_ n12_; clear hb hbox hg; have hnb75 := NB448_428.out; have hnc75 := NB428_448.out; have hnb76 := NB448_437.out; have hnc76 := NB437_448.out; have hnb77 := NB448_443.out; have hnc77 := NB443_448.out; obtain ⟨hcz78_0, hcz78_1, hcz78_2⟩ := cells3 BK448.out; have hfz78_0 := blk_frozen BK448.out 0; have hfz78_1 := blk_frozen BK448.out 1; have hfz78_2 := blk_frozen BK448.out 2))
                 have H := HC66.out
                 clear HC66
                 by_cases c79 : (t439.toList == t444.toList && (t440 == t445 && (t441 == t446))) = true
                 ·rw [if_pos c79] at H
                  have c79b0 : (t439.toList == t444.toList && (t440 == t445 && (t441 == t446))) = true := c79
                  (try (have c79b1 : decide (t439.toList = t444.toList && (t440 == t445 && (t441 == t446))) = true := by simpa using c79))
                  (try (have c79b2 : (t439.toList == t444.toList && (t440 == t445 && (t441 == t446))) = true := by simpa using c79))
                  clear c79
                  (first | rw [c79b0] | rw [c79b1] | rw [c79b2] | (simp only [i64_w, i32_w]; rw [c79b0]) | skip)
                  obtain rfl := Option.some.inj H
                  have hnb80 := NB443_428.out
                  have hnc80 := NB428_443.out
                  have hnb81 := NB443_437.out
                  have hnc81 := NB437_443.out
                  have hnb82 := NB443_448.out
                  have hnc82 := NB448_443.out
                  obtain ⟨hcz83_0, hcz83_1, hcz83_2⟩ := cells3 BK443.out
                  have hfz83_0 := blk_frozen BK443.out 0
                  have hfz83_1 := blk_frozen BK443.out 1
                  have hfz83_2 := blk_frozen BK443.out 2
                  have hnb84 := NB448_428.out
                  have hnc84 := NB428_448.out
                  have hnb85 := NB448_437.out
                  have hnc85 := NB437_448.out
                  have hcz86_0 : w74.cell? ⟨gb448, 0, none⟩ = some (.string (⟨#[]⟩ : ByteArray)) := (blk_cell BK448.out 0).trans rfl
                  have hcz86_1 : w74.cell? ⟨gb448, 1, none⟩ = some (.int .i64 0) := (blk_cell BK448.out 1).trans rfl
                  have hcz86_2 : w74.cell? ⟨gb448, 2, none⟩ = some (.int .i64 0) := (blk_cell BK448.out 2).trans rfl
                  have hfz86_0 := blk_frozen BK448.out 0
                  have hfz86_1 := blk_frozen BK448.out 1
                  have hfz86_2 := blk_frozen BK448.out 2
                  go_wp2
                  go_ret
                  exact ⟨by first | rfl | (simp [errW_none, errW_some] <;> rfl) | (simp [*, errW_none, errW_some] <;> rfl) | (simp [errW_none, errW_some] <;> (apply Bool.eq_iff_iff.2; simp [List.isEmpty_iff])), by repeat (first | (with_reducible first | exact HB.out | apply below_alloc | apply pw_below_drewN | apply below_drew1 | refine below_set ?_ GE428.out | refine below_set ?_ GE437.out | refine below_set ?_ GE443.out | refine below_set ?_ GE448.out) | exact HB.out)⟩
                 ·rw [if_neg c79] at H
                  have c79b0 : (t439.toList == t444.toList && (t440 == t445 && (t441 == t446))) = false := by simpa using c79
                  (try (have c79b1 : decide (t439.toList = t444.toList && (t440 == t445 && (t441 == t446))) = false := by simpa using c79))
                  (try (have c79b2 : (t439.toList == t444.toList && (t440 == t445 && (t441 == t446))) = false := by simpa using c79))
                  (try (have c79b3 : ¬ (t439.toList = t444.toList && (t440 == t445 && (t441 == t446))) := by simpa using c79))
                  clear c79
                  (first | rw [c79b0] | rw [c79b1] | rw [c79b2] | (simp only [i64_w, i32_w]; rw [c79b0]) | skip)
                  obtain rfl := Option.some.inj H
                  have hnb87 := NB443_428.out
                  have hnc87 := NB428_443.out
                  have hnb88 := NB443_437.out
                  have hnc88 := NB437_443.out
                  have hnb89 := NB443_448.out
                  have hnc89 := NB448_443.out
                  obtain ⟨hcz90_0, hcz90_1, hcz90_2⟩ := cells3 BK443.out
                  have hfz90_0 := blk_frozen BK443.out 0
                  have hfz90_1 := blk_frozen BK443.out 1
                  have hfz90_2 := blk_frozen BK443.out 2
                  have hnb91 := NB448_428.out
                  have hnc91 := NB428_448.out
                  have hnb92 := NB448_437.out
                  have hnc92 := NB437_448.out
                  have hcz93_0 : w74.cell? ⟨gb448, 0, none⟩ = some (.string (⟨#[]⟩ : ByteArray)) := (blk_cell BK448.out 0).trans rfl
                  have hcz93_1 : w74.cell? ⟨gb448, 1, none⟩ = some (.int .i64 0) := (blk_cell BK448.out 1).trans rfl
                  have hcz93_2 : w74.cell? ⟨gb448, 2, none⟩ = some (.int .i64 0) := (blk_cell BK448.out 2).trans rfl
                  have hfz93_0 := blk_frozen BK448.out 0
                  have hfz93_1 := blk_frozen BK448.out 1
                  have hfz93_2 := blk_frozen BK448.out 2
                  go_wp2
                  go_ret
                  exact ⟨by first | rfl | (simp [errW_none, errW_some] <;> rfl) | (simp [*, errW_none, errW_some] <;> rfl) | (simp [errW_none, errW_some] <;> (apply Bool.eq_iff_iff.2; simp [List.isEmpty_iff])), by repeat (first | (with_reducible first | exact HB.out | apply below_alloc | apply pw_below_drewN | apply below_drew1 | refine below_set ?_ GE428.out | refine below_set ?_ GE437.out | refine below_set ?_ GE443.out | refine below_set ?_ GE448.out) | exact HB.out)⟩
             ·replace c51 := Bool.eq_false_iff.mpr c51
              subst c51
              have H1 : ((spec_DrawExpandRange.f kj41 l0).bind fun t449 => ((impl_ExpandRange.f kj41 t449).bind fun bt450 => ((spec_ExpandRange.f kj41 t449).bind fun bt455 => (if (bt450.1.toList == bt455.1.toList && (bt450.2.1 == bt455.2.1 && (bt450.2.2.1 == bt455.2.2.1))) = true then (some (bt450.2.2.2 == bt455.2.2.2)) else (some false))))) = some r := by rw [if_neg (show ¬ (false = true) by decide)] at H; exact H
              clear H
              have H := H1
              clear H1
              replace H := Option.bind_eq_some_iff.mp H
              obtain ⟨t449, A940, H⟩ := H
              replace H : ((impl_ExpandRange.f kj41 t449).bind fun bt450 => ((spec_ExpandRange.f kj41 t449).bind fun bt455 => (if (bt450.1.toList == bt455.1.toList && (bt450.2.1 == bt455.2.1 && (bt450.2.2.1 == bt455.2.2.1))) = true then (some (bt450.2.2.2 == bt455.2.2.2)) else (some false)))) = some r := H
              have A94 := Aside0.mk A940
              clear A940
              replace H := Option.bind_eq_some_iff.mp H
              obtain ⟨⟨t450, t451, t452, t453⟩, A950, H⟩ := H
              replace H : ((spec_ExpandRange.f kj41 t449).bind fun bt455 => (if (t450.toList == bt455.1.toList && (t451 == bt455.2.1 && (t452 == bt455.2.2.1))) = true then (some (t453 == bt455.2.2.2)) else (some false))) = some r := H
              have A95 := Aside0.mk A950
              clear A950
              replace H := Option.bind_eq_some_iff.mp H
              obtain ⟨⟨t455, t456, t457, t458⟩, A960, H⟩ := H
              replace H : (if (t450.toList == t455.toList && (t451 == t456 && (t452 == t457))) = true then (some (t453 == t458)) else (some false)) = some r := H
              have A96 := Aside0.mk A960
              clear A960
              have HC97 := Aside0.mk H
              clear H
              go_upto_region 29 with (first | ((with_reducible refine gate_callee (f := 17) rfl ?_); refine goesL_ (some 130) rfl rfl Tryz.func17 (by kernel_rfl) rfl #[.slice A0 l0.length c0] rfl (by (try simp only [List.map_toArray, List.map_cons, List.map_nil]); first | done | rfl | (simp only [List.length_drop, List.length_take]; rfl)) ?_; (with_reducible refine (spec_DrawExpandRange.calls kj41 _ _ l0 t449 _ ?side1 ?side2 A94.out).mono ?_); (case side1 => repeat (first | exact (Kd.C_below HR0.out HB.out) | (with_reducible refine Kd.C_alloc ?_ _) | (with_reducible refine Kd.C_drewN ?_ _) | (with_reducible refine Kd.C_drew ?_))); (case side2 => exact HC0.out); rintro e w98 ⟨rfl, hb⟩; refine ⟨_, rfl, ?_⟩; have n0_ := Aside0.mk (blk_below (g := gb428) (o := .cells #[.string t424, .int .i64 t425, .int .i64 t426] 34 (0, 0)) (by (with_reducible repeat (first | refine blk_drewN ?_ _ | refine blk_drew ?_ | refine blk_alloc ?_ _)); exact BK428.out) hb); have n1_ := Aside0.mk (below_step (by repeat (first | (with_reducible first | exact HB.out | apply below_alloc | apply pw_below_drewN | apply below_drew1 | refine below_set ?_ GE428.out) | exact HB.out)) hb); clear BK428; clear HB; have BK428 := n0_; have HB := n1_; clear n0_ n1_; (try clear hb); (try clear hb2); (try clear hk); (try clear hi)) | ((with_reducible refine gate_callee (f := 16) rfl ?_); refine goesL_ (some 133) rfl rfl Tryz.func16 (by kernel_rfl) rfl #[.string t449] rfl (by (try simp only [List.map_toArray, List.map_cons, List.map_nil]); first | done | rfl | (simp only [List.length_drop, List.length_take]; rfl)) ?_; (with_reducible refine (impl_ExpandRange.calls kj41 t449 t450 t451 t452 t453 _ ?side1 A95.out).mono ?_); (case side1 => exact Go.Proofs.YtmemcncbkgcbeaaGreatDoorW.Envs.Env.below HENV.out (by repeat (first | (with_reducible first | exact HB.out | apply below_alloc | apply pw_below_drewN | apply below_drew1 | refine below_set ?_ GE428.out) | exact HB.out))); rintro e w99 ⟨rfl, hb⟩; refine ⟨_, rfl, ?_⟩; have n0_ := Aside0.mk (blk_below (g := gb428) (o := .cells #[.string t424, .int .i64 t425, .int .i64 t426] 34 (0, 0)) (by (with_reducible repeat (first | refine blk_drewN ?_ _ | refine blk_drew ?_ | refine blk_alloc ?_ _)); exact BK428.out) hb); have n1_ := Aside0.mk (below_step (by repeat (first | (with_reducible first | exact HB.out | apply below_alloc | apply pw_below_drewN | apply below_drew1 | refine below_set ?_ GE428.out) | exact HB.out)) hb); clear BK428; clear HB; have BK428 := n0_; have HB := n1_; clear n0_ n1_; (try clear hb); (try clear hb2); (try clear hk); (try clear hi)) | ((with_reducible refine gate_dst (N := 24) rfl ?_); refine box_event ?hg (N := 24) ?hd (cs := #[.string (⟨#[]⟩ : ByteArray), .int .i64 0, .int .i64 0]) (t := 34) ?hr ?_; (case hd => rfl); (case hg => rfl); (case hr => first | (go_simp; done) | (go_simp; rfl)); intro gb454 hg w100 hbox hb; have n0_ := Aside0.mk (blk_below (g := gb428) (o := .cells #[.string t424, .int .i64 t425, .int .i64 t426] 34 (0, 0)) (by (with_reducible repeat (first | refine blk_drewN ?_ _ | refine blk_drew ?_ | refine blk_alloc ?_ _)); exact BK428.out) hb); have n1_ := Aside0.mk (below_step (by repeat (first | (with_reducible first | exact HB.out | apply below_alloc | apply pw_below_drewN | apply below_drew1 | refine below_set ?_ GE428.out) | exact HB.out)) hb); have n2_ := Aside0.mk (hbox); have n3_ := Aside0.mk ((by rw [hg]; exact (below_size (by repeat (first | (with_reducible first | exact HB.out | apply below_alloc | apply pw_below_drewN | apply below_drew1 | refine below_set ?_ GE428.out) | exact HB.out))) : w.heap.size ≤ gb454)); have n4_ := Aside0.mk ((by rw [hg]; exact (below_size (by repeat (first | (with_reducible first | exact HB.out | apply below_alloc | apply pw_below_drewN | apply below_drew1 | refine below_set ?_ GE428.out) | exact HB.out))) : w.heap.size ≤ gb454)); have n5_ := Aside0.mk ((by rw [hg]; exact Nat.ne_of_lt (blk_lt (g := gb428) (o := .cells #[.string t424, .int .i64 t425, .int .i64 t426] 34 (0, 0)) (by (with_reducible repeat (first | refine blk_drewN ?_ _ | refine blk_drew ?_ | refine blk_alloc ?_ _)); exact BK428.out)) : gb428 ≠ gb454)); have n6_ := Aside0.mk ((by rw [hg]; exact Nat.ne_of_gt (blk_lt (g := gb428) (o := .cells #[.string t424, .int .i64 t425, .int .i64 t426] 34 (0, 0)) (by (with_reducible repeat (first | refine blk_drewN ?_ _ | refine blk_drew ?_ | refine blk_alloc ?_ _)); exact BK428.out)) : gb454 ≠ gb428)); clear BK428; clear HB; have BK428 := n0_; have HB := n1_; have BK454 := n2_; have GW454 := n3_; have GE454 := n4_; have NB428_454 := n5_; have NB454_428 := n6_; clear n0_ n1_ n2_ n3_ n4_ n5_ n6_; clear hb hbox hg; have hnb101 := NB454_428.out; have hnc101 := NB428_454.out; obtain ⟨hcz102_0, hcz102_1, hcz102_2⟩ := cells3 BK454.out; have hfz102_0 := blk_frozen BK454.out 0; have hfz102_1 := blk_frozen BK454.out 1; have hfz102_2 := blk_frozen BK454.out 2) | ((with_reducible refine gate_callee (f := 18) rfl ?_); refine goesL_ (some 138) rfl rfl Tryz.func18 (by kernel_rfl) rfl #[.string t449] rfl (by (try simp only [List.map_toArray, List.map_cons, List.map_nil]); first | done | rfl | (simp only [List.length_drop, List.length_take]; rfl)) ?_; (with_reducible refine (spec_ExpandRange.calls kj41 t449 t455 t456 t457 t458 _ A96.out).mono ?_); rintro e w103 ⟨rfl, hb⟩; refine ⟨_, rfl, ?_⟩; have n0_ := Aside0.mk (blk_below (g := gb428) (o := .cells #[.string t424, .int .i64 t425, .int .i64 t426] 34 (0, 0)) (by (with_reducible repeat (first | refine blk_drewN ?_ _ | refine blk_drew ?_ | refine blk_alloc ?_ _)); refine blk_far ?_ NB428_454.out _; (with_reducible repeat (first | refine blk_drewN ?_ _ | refine blk_drew ?_ | refine blk_alloc ?_ _)); refine blk_far ?_ NB428_454.out _; (with_reducible repeat (first | refine blk_drewN ?_ _ | refine blk_drew ?_ | refine blk_alloc ?_ _)); refine blk_far ?_ NB428_454.out _; (with_reducible repeat (first | refine blk_drewN ?_ _ | refine blk_drew ?_ | refine blk_alloc ?_ _)); exact BK428.out) hb); have n1_ := Aside0.mk (blk_below (g := gb454) (o := .cells #[.string t450, .int .i64 t451, .int .i64 t452] 34 (0, 0)) (by (with_reducible repeat (first | refine blk_drewN ?_ _ | refine blk_drew ?_ | refine blk_alloc ?_ _)); refine blk_put (cs := #[.string t450, .int .i64 t451, .int .i64 0]) ?_ 2 _ rfl; (with_reducible repeat (first | refine blk_drewN ?_ _ | refine blk_drew ?_ | refine blk_alloc ?_ _)); refine blk_put (cs := #[.string t450, .int .i64 0, .int .i64 0]) ?_ 1 _ rfl; (with_reducible repeat (first | refine blk_drewN ?_ _ | refine blk_drew ?_ | refine blk_alloc ?_ _)); refine blk_put (cs := #[.string (⟨#[]⟩ : ByteArray), .int .i64 0, .int .i64 0]) ?_ 0 _ rfl; (with_reducible repeat (first | refine blk_drewN ?_ _ | refine blk_drew ?_ | refine blk_alloc ?_ _)); exact BK454.out) hb); have n2_ := Aside0.mk (below_step (by repeat (first | (with_reducible first | exact HB.out | apply below_alloc | apply pw_below_drewN | apply below_drew1 | refine below_set ?_ GE428.out | refine below_set ?_ GE454.out) | exact HB.out)) hb); clear BK428; clear BK454; clear HB; have BK428 := n0_; have BK454 := n1_; have HB := n2_; clear n0_ n1_ n2_; (try clear hb); (try clear hb2); (try clear hk); (try clear hi)) | ((with_reducible refine gate_dst (N := 26) rfl ?_); refine box_event ?hg (N := 26) ?hd (cs := #[.string (⟨#[]⟩ : ByteArray), .int .i64 0, .int .i64 0]) (t := 34) ?hr ?_; (case hd => rfl); (case hg => rfl); (case hr => first | (go_simp; done) | (go_simp; rfl)); intro gb459 hg w104 hbox hb; have n0_ := Aside0.mk (blk_below (g := gb428) (o := .cells #[.string t424, .int .i64 t425, .int .i64 t426] 34 (0, 0)) (by (with_reducible repeat (first | refine blk_drewN ?_ _ | refine blk_drew ?_ | refine blk_alloc ?_ _)); exact BK428.out) hb); have n1_ := Aside0.mk (blk_below (g := gb454) (o := .cells #[.string t450, .int .i64 t451, .int .i64 t452] 34 (0, 0)) (by (with_reducible repeat (first | refine blk_drewN ?_ _ | refine blk_drew ?_ | refine blk_alloc ?_ _)); exact BK454.out) hb); have n2_ := Aside0.mk (below_step (by repeat (first | (with_reducible first | exact HB.out | apply below_alloc | apply pw_below_drewN | apply below_drew1 | refine below_set ?_ GE428.out | refine below_set ?_ GE454.out) | exact HB.out)) hb); have n3_ := Aside0.mk (hbox); have n4_ := Aside0.mk ((by rw [hg]; exact (below_size (by repeat (first | (with_reducible first | exact HB.out | apply below_alloc | apply pw_below_drewN | apply below_drew1 | refine below_set ?_ GE428.out | refine below_set ?_ GE454.out) | exact HB.out))) : w.heap.size ≤ gb459)); have n5_ := Aside0.mk ((by rw [hg]; exact (below_size (by repeat (first | (with_reducible first | exact HB.out | apply below_alloc | apply pw_below_drewN | apply below_drew1 | refine below_set ?_ GE428.out | refine below_set ?_ GE454.out) | exact HB.out))) : w.heap.size ≤ gb459)); have n6_ := Aside0.mk ((by rw [hg]; exact Nat.ne_of_lt (blk_lt (g := gb428) (o := .cells #[.string t424, .int .i64 t425, .int .i64 t426] 34 (0, 0)) (by (with_reducible repeat (first | refine blk_drewN ?_ _ | refine blk_drew ?_ | refine blk_alloc ?_ _)); exact BK428.out)) : gb428 ≠ gb459)); have n7_ := Aside0.mk ((by rw [hg]; exact Nat.ne_of_gt (blk_lt (g := gb428) (o := .cells #[.string t424, .int .i64 t425, .int .i64 t426] 34 (0, 0)) (by (with_reducible repeat (first | refine blk_drewN ?_ _ | refine blk_drew ?_ | refine blk_alloc ?_ _)); exact BK428.out)) : gb459 ≠ gb428)); have n8_ := Aside0.mk ((by rw [hg]; exact Nat.ne_of_lt (blk_lt (g := gb454) (o := .cells #[.string t450, .int .i64 t451, .int .i64 t452] 34 (0, 0)) (by (with_reducible repeat (first | refine blk_drewN ?_ _ | refine blk_drew ?_ | refine blk_alloc ?_ _)); exact BK454.out)) : gb454 ≠ gb459)); have n9_ := Aside0.mk ((by rw [hg]; exact Nat.ne_of_gt (blk_lt (g := gb454) (o := .cells #[.string t450, .int .i64 t451, .int .i64 t452] 34 (0, 0)) (by (with_reducible repeat (first | refine blk_drewN ?_ _ | refine blk_drew ?_ | refine blk_alloc ?_ _)); exact BK454.out)) : gb459 ≠ gb454)); clear BK428; clear BK454; clear HB; have BK428 := n0_; have BK454 := n1_; have HB := n2_; have BK459 := n3_; have GW459 := n4_; have GE459 := n5_; have NB428_459 := n6_; have NB459_428 := n7_; have NB454_459 := n8_; have NB459_454 := n9_; clear n0_ n1_ n2_ n3_ n4_ n5_ n6_ n7_ n8_ n9_; clear hb hbox hg; have hnb105 := NB459_428.out; have hnc105 := NB428_459.out; have hnb106 := NB459_454.out; have hnc106 := NB454_459.out; obtain ⟨hcz107_0, hcz107_1, hcz107_2⟩ := cells3 BK459.out; have hfz107_0 := blk_frozen BK459.out 0; have hfz107_1 := blk_frozen BK459.out 1; have hfz107_2 := blk_frozen BK459.out 2))
              have H := HC97.out
              clear HC97
              by_cases c108 : (t450.toList == t455.toList && (t451 == t456 && (t452 == t457))) = true
              ·rw [if_pos c108] at H
               have c108b0 : (t450.toList == t455.toList && (t451 == t456 && (t452 == t457))) = true := c108
               (try (have c108b1 : decide (t450.toList = t455.toList && (t451 == t456 && (t452 == t457))) = true := by simpa using c108))
               (try (have c108b2 : (t450.toList == t455.toList && (t451 == t456 && (t452 == t457))) = true := by simpa using c108))
               clear c108
               (first | rw [c108b0] | rw [c108b1] | rw [c108b2] | (simp only [i64_w, i32_w]; rw [c108b0]) | skip)
               obtain rfl := Option.some.inj H
               have hnb109 := NB454_428.out
               have hnc109 := NB428_454.out
               have hnb110 := NB454_459.out
               have hnc110 := NB459_454.out
               obtain ⟨hcz111_0, hcz111_1, hcz111_2⟩ := cells3 BK454.out
               have hfz111_0 := blk_frozen BK454.out 0
               have hfz111_1 := blk_frozen BK454.out 1
               have hfz111_2 := blk_frozen BK454.out 2
               have hnb112 := NB459_428.out
               have hnc112 := NB428_459.out
               have hcz113_0 : w104.cell? ⟨gb459, 0, none⟩ = some (.string (⟨#[]⟩ : ByteArray)) := (blk_cell BK459.out 0).trans rfl
               have hcz113_1 : w104.cell? ⟨gb459, 1, none⟩ = some (.int .i64 0) := (blk_cell BK459.out 1).trans rfl
               have hcz113_2 : w104.cell? ⟨gb459, 2, none⟩ = some (.int .i64 0) := (blk_cell BK459.out 2).trans rfl
               have hfz113_0 := blk_frozen BK459.out 0
               have hfz113_1 := blk_frozen BK459.out 1
               have hfz113_2 := blk_frozen BK459.out 2
               go_wp2
               go_ret
               exact ⟨by first | rfl | (simp [errW_none, errW_some] <;> rfl) | (simp [*, errW_none, errW_some] <;> rfl) | (simp [errW_none, errW_some] <;> (apply Bool.eq_iff_iff.2; simp [List.isEmpty_iff])), by repeat (first | (with_reducible first | exact HB.out | apply below_alloc | apply pw_below_drewN | apply below_drew1 | refine below_set ?_ GE428.out | refine below_set ?_ GE454.out | refine below_set ?_ GE459.out) | exact HB.out)⟩
              ·rw [if_neg c108] at H
               have c108b0 : (t450.toList == t455.toList && (t451 == t456 && (t452 == t457))) = false := by simpa using c108
               (try (have c108b1 : decide (t450.toList = t455.toList && (t451 == t456 && (t452 == t457))) = false := by simpa using c108))
               (try (have c108b2 : (t450.toList == t455.toList && (t451 == t456 && (t452 == t457))) = false := by simpa using c108))
               (try (have c108b3 : ¬ (t450.toList = t455.toList && (t451 == t456 && (t452 == t457))) := by simpa using c108))
               clear c108
               (first | rw [c108b0] | rw [c108b1] | rw [c108b2] | (simp only [i64_w, i32_w]; rw [c108b0]) | skip)
               obtain rfl := Option.some.inj H
               have hnb114 := NB454_428.out
               have hnc114 := NB428_454.out
               have hnb115 := NB454_459.out
               have hnc115 := NB459_454.out
               obtain ⟨hcz116_0, hcz116_1, hcz116_2⟩ := cells3 BK454.out
               have hfz116_0 := blk_frozen BK454.out 0
               have hfz116_1 := blk_frozen BK454.out 1
               have hfz116_2 := blk_frozen BK454.out 2
               have hnb117 := NB459_428.out
               have hnc117 := NB428_459.out
               have hcz118_0 : w104.cell? ⟨gb459, 0, none⟩ = some (.string (⟨#[]⟩ : ByteArray)) := (blk_cell BK459.out 0).trans rfl
               have hcz118_1 : w104.cell? ⟨gb459, 1, none⟩ = some (.int .i64 0) := (blk_cell BK459.out 1).trans rfl
               have hcz118_2 : w104.cell? ⟨gb459, 2, none⟩ = some (.int .i64 0) := (blk_cell BK459.out 2).trans rfl
               have hfz118_0 := blk_frozen BK459.out 0
               have hfz118_1 := blk_frozen BK459.out 1
               have hfz118_2 := blk_frozen BK459.out 2
               go_wp2
               go_ret
               exact ⟨by first | rfl | (simp [errW_none, errW_some] <;> rfl) | (simp [*, errW_none, errW_some] <;> rfl) | (simp [errW_none, errW_some] <;> (apply Bool.eq_iff_iff.2; simp [List.isEmpty_iff])), by repeat (first | (with_reducible first | exact HB.out | apply below_alloc | apply pw_below_drewN | apply below_drew1 | refine below_set ?_ GE428.out | refine below_set ?_ GE454.out | refine below_set ?_ GE459.out) | exact HB.out)⟩
/-- THE ONE PURE STATEMENT of laws_FnPages: yours. -/
def laws_FnPages.Pure : Prop := ∀ (l0 : List Int), l0.length ≤ maxLen → l0.length * 1 ≤ 140737488351232 → (∀ x ∈ l0, (Lit.int .u8 x).wf = true) → ∃ k, laws_FnPages.f k l0 = some true
theorem laws_FnPages.walk (P : laws_FnPages.Pure) (a0 : Option Addr) (len0 cap0 : Nat) (z0 : List Int) (w : World) (w0 : (a0 = none ∧ len0 = 0 ∧ cap0 = 0 ∧ z0 = []) ∨ ∃ x, a0 = some x ∧ len0 ≤ cap0 ∧ cap0 ≤ maxLen ∧ z0.length = cap0 ∧ (∀ i, i < z0.length → w.cell? (x.add i) = some (.int .u8 (z0.getD i 0))) ∧ ∀ n ∈ z0, (Lit.int .u8 n).wf = true) (y0 : len0 * 1 ≤ 140737488351232) (henv : Go.Proofs.YtmemcncbkgcbeaaGreatDoorW.Envs.Env [0, 1, 2] w) :
  Calls Tryz.prog 3 #[.slice a0 len0 cap0] w fun e w' => e = .returned (.bool true) ∧ Below w.heap.size w w' := by
 obtain ⟨l0, rfl, hr0, hm0, hw0, hc0⟩ := ReadsInt.ofRowC w0
 obtain ⟨k, h⟩ := P l0 hm0 y0 hw0
 refine (laws_FnPages.calls k _ _ l0 true w (Kd.C_of_reads (d := (0 : Int)) (h1 := fun _ => rfl) hr0) hc0 henv h).mono ?_
 rintro e w' ⟨rfl, hd⟩
 exact ⟨rfl, hd⟩
end Go.Proofs.YtmemcncbkgcbeaaGreatDoor.Px
