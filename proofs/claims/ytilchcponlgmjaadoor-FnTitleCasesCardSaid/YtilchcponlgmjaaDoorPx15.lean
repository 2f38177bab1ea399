/- That calls of Go functions come to what the Lean functions beside them say; written by a program of this session (wip/xprint) over the printed words; no conditions. -/
import Derived.Test.YtilchcponlgmjaaDoorPx0
import Derived.Test.YtilchcponlgmjaaDoorPx5
import Derived.Test.YtilchcponlgmjaaDoorPx7
import Derived.Test.YtilchcponlgmjaaDoorPx10
import Derived.Test.YtilchcponlgmjaaDoorPx11
import Derived.Test.YtilchcponlgmjaaDoorPx12
import Derived.Test.YtilchcponlgmjaaDoorPx14
namespace Go.Proofs.YtilchcponlgmjaaDoor.Px
open Go.RowKit Go.Proofs.YtilchcponlgmjaaDoorW.PrintWords Go.Proofs.YtilchcponlgmjaaDoorW.PrintLast Go.Proofs.YtilchcponlgmjaaDoorW.PrintMore
attribute [local go_sem] max2_int min2_int max_two min_two max_three min_three max_four min_four   -- for this text's walks alone
set_option linter.unusedVariables false
set_option linter.unusedSimpArgs false

/-! ### laws_FnTitleCases: function 8 -/
def laws_FnTitleCases.j0 : Nat → ByteArray → ByteArray → Bool → ByteArray → Bool → Option (Bool)
  | 0, _, _, _, _, _ => none
  | k + 1, x3, x4, x5, x6, x65 => if x65 = true then (some false) else (if x5 = true then ((impl_TitleCase.f k x4).bind fun bt339 => ((impl_SentenceCase.f k x6).bind fun bt341 => ((impl_SentenceCase.f k x4).bind fun bt343 => (if bt339.2 = true then (if bt341.2 = true then (if bt343.2 = true then (if bt339.1.toList = x4.toList then (if bt341.1.toList = x6.toList then (if (x4.size : Int) = (x3.size : Int) then (if (x6.size : Int) = (x3.size : Int) then (some (bt343.1.toList == x6.toList)) else (some false)) else (some false)) else (some false)) else (some false)) else (some false)) else (some false)) else (some false))))) else (some true))
def laws_FnTitleCases.f (k : Nat) (l0 : List Int) : Option (Bool) := (laws_rBig.f l0).bind fun t328 => (if t328 = true then (some true) else ((spec_DrawTitleCase.f k l0).bind fun t329 => ((impl_TitleCase.f k t329).bind fun bt330 => ((impl_SentenceCase.f k t329).bind fun bt332 => ((spec_TitleCase.f k t329).bind fun bt334 => ((spec_SentenceCase.f k t329).bind fun bt336 => (if (bt330.2 != bt334.2) = true then (laws_FnTitleCases.j0 k t329 bt330.1 bt330.2 bt332.1 true) else (if (bt332.2 != bt334.2) = true then (laws_FnTitleCases.j0 k t329 bt330.1 bt330.2 bt332.1 true) else (if bt330.1.toList = bt334.1.toList then (if bt332.1.toList = bt336.1.toList then ((impl_IsValidTitle.f k t329).bind fun t338 => (laws_FnTitleCases.j0 k t329 bt330.1 bt330.2 bt332.1 (bt330.2 != t338))) else (laws_FnTitleCases.j0 k t329 bt330.1 bt330.2 bt332.1 true)) else (laws_FnTitleCases.j0 k t329 bt330.1 bt330.2 bt332.1 true))))))))))
theorem laws_FnTitleCases.mono_l : ∀ k, (∀ y0 y1 y2 y3 y4, LeO (laws_FnTitleCases.j0 k y0 y1 y2 y3 y4) (laws_FnTitleCases.j0 (k + 1) y0 y1 y2 y3 y4))
  | 0 => fun _ _ _ _ _ r h => by simp [laws_FnTitleCases.j0] at h
  | k + 1 => by
    have ih0 := laws_FnTitleCases.mono_l k
    · intro y0 y1 y2 y3 y4
      unfold laws_FnTitleCases.j0
      repeat' first
      | (with_reducible exact ih0 _ _ _ _ _)
      | (with_reducible exact impl_IsValidTitle.mono _ _)
      | (with_reducible exact impl_SentenceCase.mono _ _)
      | (with_reducible exact impl_TitleCase.mono _ _)
      | (with_reducible exact spec_DrawTitleCase.mono _ _)
      | (with_reducible exact spec_SentenceCase.mono _ _)
      | (with_reducible exact spec_TitleCase.mono _ _)
      | (with_reducible exact LeO.refl _)
      | (with_reducible exact LeO.none _)
      | (with_reducible refine LeO.ite ?_ ?_)
      | (with_reducible refine LeO.bind ?_ (fun _ => ?_))
      | exact ih0 _ _ _ _ _
      | exact impl_IsValidTitle.mono _ _
      | exact impl_SentenceCase.mono _ _
      | exact impl_TitleCase.mono _ _
      | exact spec_DrawTitleCase.mono _ _
      | exact spec_SentenceCase.mono _ _
      | exact spec_TitleCase.mono _ _
      | exact LeO.none _
      | refine LeO.ite ?_ ?_
      | refine LeO.bind ?_ (fun _ => ?_)
theorem laws_FnTitleCases.mono : ∀ a0 k, LeO (laws_FnTitleCases.f k a0) (laws_FnTitleCases.f (k + 1) a0) := by
  intro a0 k
  have ih0 := laws_FnTitleCases.mono_l k
  unfold laws_FnTitleCases.f
  repeat' first
      | (with_reducible exact ih0 _ _ _ _ _)
      | (with_reducible exact impl_IsValidTitle.mono _ _)
      | (with_reducible exact impl_SentenceCase.mono _ _)
      | (with_reducible exact impl_TitleCase.mono _ _)
      | (with_reducible exact spec_DrawTitleCase.mono _ _)
      | (with_reducible exact spec_SentenceCase.mono _ _)
      | (with_reducible exact spec_TitleCase.mono _ _)
      | (with_reducible exact LeO.refl _)
      | (with_reducible exact LeO.none _)
      | (with_reducible refine LeO.ite ?_ ?_)
      | (with_reducible refine LeO.bind ?_ (fun _ => ?_))
      | exact ih0 _ _ _ _ _
      | exact impl_IsValidTitle.mono _ _
      | exact impl_SentenceCase.mono _ _
      | exact impl_TitleCase.mono _ _
      | exact spec_DrawTitleCase.mono _ _
      | exact spec_SentenceCase.mono _ _
      | exact spec_TitleCase.mono _ _
      | exact LeO.none _
      | refine LeO.ite ?_ ?_
      | refine LeO.bind ?_ (fun _ => ?_)
set_option maxHeartbeats 8000000 in
set_option maxRecDepth 100000 in
theorem laws_FnTitleCases.calls (k : Nat) (A0 : Option Addr) (c0 : Nat) (l0 : List Int) (r : Bool) (w : World) (hr0 : Kd.C (Kd.int .u8) w A0 l0.length l0) (hc0 : l0.length ≤ c0) (henv : Go.Proofs.YtilchcponlgmjaaDoorW.Envs.Env [0] w) (h : laws_FnTitleCases.f k l0 = some r) :
    Calls Tryd.prog 8 #[.slice A0 l0.length c0] w fun e w' => e = .returned (.bool r) ∧ Below w.heap.size w w' := by
  have HR0 := Aside0.mk hr0
  have HC0 := Aside0.mk hc0
  clear hr0 hc0
  have HB := Aside0.mk (Below.refl w.heap.size w)
  have HENV := Aside0.mk henv
  clear henv
  have H : ((laws_rBig.f l0).bind fun t328 => (if t328 = true then (some true) else ((spec_DrawTitleCase.f k l0).bind fun t329 => ((impl_TitleCase.f k t329).bind fun bt330 => ((impl_SentenceCase.f k t329).bind fun bt332 => ((spec_TitleCase.f k t329).bind fun bt334 => ((spec_SentenceCase.f k t329).bind fun bt336 => (if (bt330.2 != bt334.2) = true then (laws_FnTitleCases.j0 k t329 bt330.1 bt330.2 bt332.1 true) else (if (bt332.2 != bt334.2) = true then (laws_FnTitleCases.j0 k t329 bt330.1 bt330.2 bt332.1 true) else (if bt330.1.toList = bt334.1.toList then (if bt332.1.toList = bt336.1.toList then ((impl_IsValidTitle.f k t329).bind fun t338 => (laws_FnTitleCases.j0 k t329 bt330.1 bt330.2 bt332.1 (bt330.2 != t338))) else (laws_FnTitleCases.j0 k t329 bt330.1 bt330.2 bt332.1 true)) else (laws_FnTitleCases.j0 k t329 bt330.1 bt330.2 bt332.1 true))))))))))) = some r := h
  clear h
  replace H := Option.bind_eq_some_iff.mp H
  obtain ⟨t328, A20, H⟩ := H
  replace H : (if t328 = true then (some true) else ((spec_DrawTitleCase.f k l0).bind fun t329 => ((impl_TitleCase.f k t329).bind fun bt330 => ((impl_SentenceCase.f k t329).bind fun bt332 => ((spec_TitleCase.f k t329).bind fun bt334 => ((spec_SentenceCase.f k t329).bind fun bt336 => (if (bt330.2 != bt334.2) = true then (laws_FnTitleCases.j0 k t329 bt330.1 bt330.2 bt332.1 true) else (if (bt332.2 != bt334.2) = true then (laws_FnTitleCases.j0 k t329 bt330.1 bt330.2 bt332.1 true) else (if bt330.1.toList = bt334.1.toList then (if bt332.1.toList = bt336.1.toList then ((impl_IsValidTitle.f k t329).bind fun t338 => (laws_FnTitleCases.j0 k t329 bt330.1 bt330.2 bt332.1 (bt330.2 != t338))) else (laws_FnTitleCases.j0 k t329 bt330.1 bt330.2 bt332.1 true)) else (laws_FnTitleCases.j0 k t329 bt330.1 bt330.2 bt332.1 true)))))))))) = some r := H
  have A2 := Aside0.mk A20
  clear A20
  by_cases c3 : t328 = true
  · subst c3
    have H1 : (some true) = some r := by rw [if_pos rfl] at H; exact H
    clear H
    have H := H1
    clear H1
    obtain rfl := Option.some.inj H
    go_enter Tryd.func8, Tryd.ntmps8
    go_wp2_with (first | ((with_reducible refine gate_callee (f := 20) rfl ?_); refine goesL_ (some 19) rfl rfl Tryd.func20 (by kernel_rfl) rfl #[.slice A0 l0.length c0] rfl (by (try simp only [List.map_toArray, List.map_cons, List.map_nil]); first | done | rfl | (simp only [List.length_drop, List.length_take]; rfl)) ?_; (with_reducible refine (laws_rBig.calls _ _ l0 true _ ?side1 ?side2 A2.out).mono ?_); (case side1 => repeat (first | exact HR0.out | (with_reducible refine Kd.C_alloc ?_ _) | (with_reducible refine Kd.C_drewN ?_ _) | (with_reducible refine Kd.C_drew ?_))); (case side2 => exact HC0.out); rintro e w' ⟨rfl, ⟨nd, rfl⟩⟩; refine ⟨_, rfl, ?_⟩))
    go_ret
    exact ⟨by first | rfl | (simp [errW_none, errW_some] <;> rfl) | (simp [*, errW_none, errW_some] <;> rfl) | (simp [errW_none, errW_some] <;> (apply Bool.eq_iff_iff.2; simp [List.isEmpty_iff])), by repeat (first | (with_reducible first | exact HB.out | apply below_alloc | apply pw_below_drewN | apply below_drew1) | exact HB.out)⟩
  · replace c3 := Bool.eq_false_iff.mpr c3
    subst c3
    have H1 : ((spec_DrawTitleCase.f k l0).bind fun t329 => ((impl_TitleCase.f k t329).bind fun bt330 => ((impl_SentenceCase.f k t329).bind fun bt332 => ((spec_TitleCase.f k t329).bind fun bt334 => ((spec_SentenceCase.f k t329).bind fun bt336 => (if (bt330.2 != bt334.2) = true then (laws_FnTitleCases.j0 k t329 bt330.1 bt330.2 bt332.1 true) else (if (bt332.2 != bt334.2) = true then (laws_FnTitleCases.j0 k t329 bt330.1 bt330.2 bt332.1 true) else (if bt330.1.toList = bt334.1.toList then (if bt332.1.toList = bt336.1.toList then ((impl_IsValidTitle.f k t329).bind fun t338 => (laws_FnTitleCases.j0 k t329 bt330.1 bt330.2 bt332.1 (bt330.2 != t338))) else (laws_FnTitleCases.j0 k t329 bt330.1 bt330.2 bt332.1 true)) else (laws_FnTitleCases.j0 k t329 bt330.1 bt330.2 bt332.1 true))))))))) = some r := by rw [if_neg (show ¬ (false = true) by decide)] at H; exact H
    clear H
    have H := H1
    clear H1
    replace H := Option.bind_eq_some_iff.mp H
    obtain ⟨t329, A40, H⟩ := H
    replace H : ((impl_TitleCase.f k t329).bind fun bt330 => ((impl_SentenceCase.f k t329).bind fun bt332 => ((spec_TitleCase.f k t329).bind fun bt334 => ((spec_SentenceCase.f k t329).bind fun bt336 => (if (bt330.2 != bt334.2) = true then (laws_FnTitleCases.j0 k t329 bt330.1 bt330.2 bt332.1 true) else (if (bt332.2 != bt334.2) = true then (laws_FnTitleCases.j0 k t329 bt330.1 bt330.2 bt332.1 true) else (if bt330.1.toList = bt334.1.toList then (if bt332.1.toList = bt336.1.toList then ((impl_IsValidTitle.f k t329).bind fun t338 => (laws_FnTitleCases.j0 k t329 bt330.1 bt330.2 bt332.1 (bt330.2 != t338))) else (laws_FnTitleCases.j0 k t329 bt330.1 bt330.2 bt332.1 true)) else (laws_FnTitleCases.j0 k t329 bt330.1 bt330.2 bt332.1 true)))))))) = some r := H
    have A4 := Aside0.mk A40
    clear A40
    replace H := Option.bind_eq_some_iff.mp H
    obtain ⟨⟨t330, t331⟩, A50, H⟩ := H
    replace H : ((impl_SentenceCase.f k t329).bind fun bt332 => ((spec_TitleCase.f k t329).bind fun bt334 => ((spec_SentenceCase.f k t329).bind fun bt336 => (if (t331 != bt334.2) = true then (laws_FnTitleCases.j0 k t329 t330 t331 bt332.1 true) else (if (bt332.2 != bt334.2) = true then (laws_FnTitleCases.j0 k t329 t330 t331 bt332.1 true) else (if t330.toList = bt334.1.toList then (if bt332.1.toList = bt336.1.toList then ((impl_IsValidTitle.f k t329).bind fun t338 => (laws_FnTitleCases.j0 k t329 t330 t331 bt332.1 (t331 != t338))) else (laws_FnTitleCases.j0 k t329 t330 t331 bt332.1 true)) else (laws_FnTitleCases.j0 k t329 t330 t331 bt332.1 true))))))) = some r := H
    have A5 := Aside0.mk A50
    clear A50
    replace H := Option.bind_eq_some_iff.mp H
    obtain ⟨⟨t332, t333⟩, A60, H⟩ := H
    replace H : ((spec_TitleCase.f k t329).bind fun bt334 => ((spec_SentenceCase.f k t329).bind fun bt336 => (if (t331 != bt334.2) = true then (laws_FnTitleCases.j0 k t329 t330 t331 t332 true) else (if (t333 != bt334.2) = true then (laws_FnTitleCases.j0 k t329 t330 t331 t332 true) else (if t330.toList = bt334.1.toList then (if t332.toList = bt336.1.toList then ((impl_IsValidTitle.f k t329).bind fun t338 => (laws_FnTitleCases.j0 k t329 t330 t331 t332 (t331 != t338))) else (laws_FnTitleCases.j0 k t329 t330 t331 t332 true)) else (laws_FnTitleCases.j0 k t329 t330 t331 t332 true)))))) = some r := H
    have A6 := Aside0.mk A60
    clear A60
    replace H := Option.bind_eq_some_iff.mp H
    obtain ⟨⟨t334, t335⟩, A70, H⟩ := H
    replace H : ((spec_SentenceCase.f k t329).bind fun bt336 => (if (t331 != t335) = true then (laws_FnTitleCases.j0 k t329 t330 t331 t332 true) else (if (t333 != t335) = true then (laws_FnTitleCases.j0 k t329 t330 t331 t332 true) else (if t330.toList = t334.toList then (if t332.toList = bt336.1.toList then ((impl_IsValidTitle.f k t329).bind fun t338 => (laws_FnTitleCases.j0 k t329 t330 t331 t332 (t331 != t338))) else (laws_FnTitleCases.j0 k t329 t330 t331 t332 true)) else (laws_FnTitleCases.j0 k t329 t330 t331 t332 true))))) = some r := H
    have A7 := Aside0.mk A70
    clear A70
    replace H := Option.bind_eq_some_iff.mp H
    obtain ⟨⟨t336, t337⟩, A80, H⟩ := H
    replace H : (if (t331 != t335) = true then (laws_FnTitleCases.j0 k t329 t330 t331 t332 true) else (if (t333 != t335) = true then (laws_FnTitleCases.j0 k t329 t330 t331 t332 true) else (if t330.toList = t334.toList then (if t332.toList = t336.toList then ((impl_IsValidTitle.f k t329).bind fun t338 => (laws_FnTitleCases.j0 k t329 t330 t331 t332 (t331 != t338))) else (laws_FnTitleCases.j0 k t329 t330 t331 t332 true)) else (laws_FnTitleCases.j0 k t329 t330 t331 t332 true)))) = some r := H
    have A8 := Aside0.mk A80
    clear A80
    have HC9 := Aside0.mk H
    clear H
    go_enter Tryd.func8, Tryd.ntmps8
    go_upto_region 8 with (first | ((with_reducible refine gate_callee (f := 20) rfl ?_); refine goesL_ (some 19) rfl rfl Tryd.func20 (by kernel_rfl) rfl #[.slice A0 l0.length c0] rfl (by (try simp only [List.map_toArray, List.map_cons, List.map_nil]); first | done | rfl | (simp only [List.length_drop, List.length_take]; rfl)) ?_; (with_reducible refine (laws_rBig.calls _ _ l0 false _ ?side1 ?side2 A2.out).mono ?_); (case side1 => repeat (first | exact HR0.out | (with_reducible refine Kd.C_alloc ?_ _) | (with_reducible refine Kd.C_drewN ?_ _) | (with_reducible refine Kd.C_drew ?_))); (case side2 => exact HC0.out); rintro e w' ⟨rfl, ⟨nd, rfl⟩⟩; refine ⟨_, rfl, ?_⟩) | ((with_reducible refine gate_callee (f := 21) rfl ?_); refine goesL_ (some 21) rfl rfl Tryd.func21 (by kernel_rfl) rfl #[.slice A0 l0.length c0] rfl (by (try simp only [List.map_toArray, List.map_cons, List.map_nil]); first | done | rfl | (simp only [List.length_drop, List.length_take]; rfl)) ?_; (with_reducible refine (spec_DrawTitleCase.calls k _ _ l0 t329 _ ?side1 ?side2 A4.out).mono ?_); (case side1 => repeat (first | exact HR0.out | (with_reducible refine Kd.C_alloc ?_ _) | (with_reducible refine Kd.C_drewN ?_ _) | (with_reducible refine Kd.C_drew ?_))); (case side2 => exact HC0.out); rintro e w10 ⟨rfl, hb⟩; refine ⟨_, rfl, ?_⟩; have n0_ := Aside0.mk (below_step (by repeat (first | (with_reducible first | exact HB.out | apply below_alloc | apply pw_below_drewN | apply below_drew1) | exact HB.out)) hb); clear HB; have HB := n0_; clear n0_; (try clear hb); (try clear hb2); (try clear hk); (try clear hi)) | ((with_reducible refine gate_callee (f := 17) rfl ?_); refine goesL_ (some 24) rfl rfl Tryd.func17 (by kernel_rfl) rfl #[.string t329] rfl (by (try simp only [List.map_toArray, List.map_cons, List.map_nil]); first | done | rfl | (simp only [List.length_drop, List.length_take]; rfl)) ?_; (with_reducible refine (impl_TitleCase.calls k t329 t330 t331 _ ?side1 A5.out).mono ?_); (case side1 => exact Go.Proofs.YtilchcponlgmjaaDoorW.Envs.Env.below HENV.out (by repeat (first | (with_reducible first | exact HB.out | apply below_alloc | apply pw_below_drewN | apply below_drew1) | exact HB.out))); rintro e w11 ⟨rfl, hb⟩; refine ⟨_, rfl, ?_⟩; have n0_ := Aside0.mk (below_step (by repeat (first | (with_reducible first | exact HB.out | apply below_alloc | apply pw_below_drewN | apply below_drew1) | exact HB.out)) hb); clear HB; have HB := n0_; clear n0_; (try clear hb); (try clear hb2); (try clear hk); (try clear hi)) | ((with_reducible refine gate_callee (f := 15) rfl ?_); refine goesL_ (some 29) rfl rfl Tryd.func15 (by kernel_rfl) rfl #[.string t329] rfl (by (try simp only [List.map_toArray, List.map_cons, List.map_nil]); first | done | rfl | (simp only [List.length_drop, List.length_take]; rfl)) ?_; (with_reducible refine (impl_SentenceCase.calls k t329 t332 t333 _ ?side1 A6.out).mono ?_); (case side1 => exact Go.Proofs.YtilchcponlgmjaaDoorW.Envs.Env.below HENV.out (by repeat (first | (with_reducible first | exact HB.out | apply below_alloc | apply pw_below_drewN | apply below_drew1) | exact HB.out))); rintro e w12 ⟨rfl, hb⟩; refine ⟨_, rfl, ?_⟩; have n0_ := Aside0.mk (below_step (by repeat (first | (with_reducible first | exact HB.out | apply below_alloc | apply pw_below_drewN | apply below_drew1) | exact HB.out)) hb); clear HB; have HB := n0_; clear n0_; (try clear hb); (try clear hb2); (try clear hk); (try clear hi)) | ((with_reducible refine gate_callee (f := 16) rfl ?_); refine goesL_ (some 34) rfl rfl Tryd.func16 (by kernel_rfl) rfl #[.string t329] rfl (by (try simp only [List.map_toArray, List.map_cons, List.map_nil]); first | done | rfl | (simp only [List.length_drop, List.length_take]; rfl)) ?_; (with_reducible refine (spec_TitleCase.calls k t329 t334 t335 _ A7.out).mono ?_); rintro e w13 ⟨rfl, hb⟩; refine ⟨_, rfl, ?_⟩; have n0_ := Aside0.mk (below_step (by repeat (first | (with_reducible first | exact HB.out | apply below_alloc | apply pw_below_drewN | apply below_drew1) | exact HB.out)) hb); clear HB; have HB := n0_; clear n0_; (try clear hb); (try clear hb2); (try clear hk); (try clear hi)) | ((with_reducible refine gate_callee (f := 14) rfl ?_); refine goesL_ (some 39) rfl rfl Tryd.func14 (by kernel_rfl) rfl #[.string t329] rfl (by (try simp only [List.map_toArray, List.map_cons, List.map_nil]); first | done | rfl | (simp only [List.length_drop, List.length_take]; rfl)) ?_; (with_reducible refine (spec_SentenceCase.calls k t329 t336 t337 _ A8.out).mono ?_); rintro e w14 ⟨rfl, hb⟩; refine ⟨_, rfl, ?_⟩; have n0_ := Aside0.mk (below_step (by repeat (first | (with_reducible first | exact HB.out | apply below_alloc | apply pw_below_drewN | apply below_drew1) | exact HB.out)) hb); clear HB; have HB := n0_; clear n0_; (try clear hb); (try clear hb2); (try clear hk); (try clear hi)))
    (try simp only [Act.put, List.setIfInBounds_toArray, List.set_cons_zero, List.set_cons_succ])
    go_cut [65] (fun v65 wc => ∃ (kq : Nat) (x65_8 : Bool), v65 = .bool x65_8 ∧ Aside0 (laws_FnTitleCases.j0 kq t329 t330 t331 t332 x65_8 = some r) ∧ Aside0 (kq ≤ k) ∧ Aside0 (Below w.heap.size w wc))
    case first =>
      have H := HC9.out
      clear HC9
      by_cases c15 : (t331 != t335) = true
      · rw [if_pos c15] at H
        have c15b0 : (t331 != t335) = true := c15
        (try (have c15b1 : decide (t331 = t335) = false := by simpa using c15))
        (try (have c15b2 : (t331 == t335) = false := by simpa using c15))
        (try (have c15b3 : ¬ (t331 = t335) := by simpa using c15))
        clear c15
        (first | rw [c15b0] | rw [c15b1] | rw [c15b2] | (simp only [i64_w, i32_w]; rw [c15b0]) | skip)
        have H' := Aside0.mk H
        clear H
        go_wp2
        go_meet
        case rel => exact ⟨_, (true), (by first | rfl | (simp; done) | (simp [*]; done)), H', ⟨by first | omega | exact Nat.le_refl _⟩, ⟨by repeat (first | (with_reducible first | exact HB.out | apply below_alloc | apply pw_below_drewN | apply below_drew1) | exact HB.out)⟩⟩
      · rw [if_neg c15] at H
        have c15b0 : (t331 != t335) = false := by simpa using c15
        (try (have c15b1 : decide (t331 = t335) = true := by simpa using c15))
        (try (have c15b2 : (t331 == t335) = true := by simpa using c15))
        clear c15
        (first | rw [c15b0] | rw [c15b1] | rw [c15b2] | (simp only [i64_w, i32_w]; rw [c15b0]) | skip)
        by_cases c16 : (t333 != t335) = true
        · rw [if_pos c16] at H
          have c16b0 : (t333 != t335) = true := c16
          (try (have c16b1 : decide (t333 = t335) = false := by simpa using c16))
          (try (have c16b2 : (t333 == t335) = false := by simpa using c16))
          (try (have c16b3 : ¬ (t333 = t335) := by simpa using c16))
          clear c16
          have H' := Aside0.mk H
          clear H
          go_wp2
          go_meet
          case rel => exact ⟨_, (true), (by first | rfl | (simp; done) | (simp [*]; done)), H', ⟨by first | omega | exact Nat.le_refl _⟩, ⟨by repeat (first | (with_reducible first | exact HB.out | apply below_alloc | apply pw_below_drewN | apply below_drew1) | exact HB.out)⟩⟩
        · rw [if_neg c16] at H
          have c16b0 : (t333 != t335) = false := by simpa using c16
          (try (have c16b1 : decide (t333 = t335) = true := by simpa using c16))
          (try (have c16b2 : (t333 == t335) = true := by simpa using c16))
          clear c16
          by_cases c17 : t330.toList = t334.toList
          · rw [if_pos c17] at H
            have c17b0 : (t330.toList == t334.toList) = true := beq_iff_eq.mpr c17
            have c17b1 : (t330.toList != t334.toList) = false := bne_eq_false_iff_eq.mpr c17
            clear c17
            by_cases c18 : t332.toList = t336.toList
            · rw [if_pos c18] at H
              have c18b0 : (t332.toList == t336.toList) = true := beq_iff_eq.mpr c18
              have c18b1 : (t332.toList != t336.toList) = false := bne_eq_false_iff_eq.mpr c18
              clear c18
              replace H := Option.bind_eq_some_iff.mp H
              obtain ⟨t338, A190, H⟩ := H
              replace H : (laws_FnTitleCases.j0 k t329 t330 t331 t332 (t331 != t338)) = some r := H
              have A19 := Aside0.mk A190
              clear A190
              have H' := Aside0.mk H
              clear H
              go_wp2_with (first | (go_at_call 22; (with_reducible refine (impl_IsValidTitle.calls k t329 t338 _ ?side1 A19.out).mono ?_); (case side1 => exact Go.Proofs.YtilchcponlgmjaaDoorW.Envs.Env.below HENV.out (by repeat (first | (with_reducible first | exact HB.out | apply below_alloc | apply pw_below_drewN | apply below_drew1) | exact HB.out))); rintro e w20 ⟨rfl, hb⟩; have n0_ := Aside0.mk (below_step (by repeat (first | (with_reducible first | exact HB.out | apply below_alloc | apply pw_below_drewN | apply below_drew1) | exact HB.out)) hb); clear HB; have HB := n0_; clear n0_; (try clear hb); (try clear hb2); (try clear hk); (try clear hi)))
              go_meet
              case rel => exact ⟨_, ((t331 != t338)), (by first | rfl | (simp; done) | (simp [*]; done)), H', ⟨by first | omega | exact Nat.le_refl _⟩, ⟨by repeat (first | (with_reducible first | exact HB.out | apply below_alloc | apply pw_below_drewN | apply below_drew1) | exact HB.out)⟩⟩
            · rw [if_neg c18] at H
              have c18b0 : (t332.toList == t336.toList) = false := beq_eq_false_iff_ne.mpr c18
              have c18b1 : (t332.toList != t336.toList) = true := bne_iff_ne.mpr c18
              have H' := Aside0.mk H
              clear H
              go_wp2
              go_meet
              case rel => exact ⟨_, (true), (by first | rfl | (simp; done) | (simp [*]; done)), H', ⟨by first | omega | exact Nat.le_refl _⟩, ⟨by repeat (first | (with_reducible first | exact HB.out | apply below_alloc | apply pw_below_drewN | apply below_drew1) | exact HB.out)⟩⟩
          · rw [if_neg c17] at H
            have c17b0 : (t330.toList == t334.toList) = false := beq_eq_false_iff_ne.mpr c17
            have c17b1 : (t330.toList != t334.toList) = true := bne_iff_ne.mpr c17
            have H' := Aside0.mk H
            clear H
            go_wp2
            go_meet
            case rel => exact ⟨_, (true), (by first | rfl | (simp; done) | (simp [*]; done)), H', ⟨by first | omega | exact Nat.le_refl _⟩, ⟨by repeat (first | (with_reducible first | exact HB.out | apply below_alloc | apply pw_below_drewN | apply below_drew1) | exact HB.out)⟩⟩
    case rest =>
      clear HC9
      try clear c1
      try clear c2
      try clear p2
      try clear c3
      try clear c8
      try clear c14
      try clear c15
      try clear c15b0
      try clear c15b1
      try clear c15b2
      try clear c16
      try clear c16b0
      try clear c16b1
      try clear c16b2
      try clear c17
      try clear c17b0
      try clear c17b1
      try clear c18
      try clear c18b0
      try clear c18b1
      try clear c20
      obtain ⟨kq, x65_8, rfl, HA, HJ8, HB⟩ := hcut
      cases kq with
      | zero => exact absurd HA.out (by simp [laws_FnTitleCases.j0])
      | succ kj8 =>
        have H := HA.out
        clear HA
        simp only [laws_FnTitleCases.j0] at H
        by_cases c21 : x65_8 = true
        · subst c21
          have H1 : (some false) = some r := by rw [if_pos rfl] at H; exact H
          clear H
          have H := H1
          clear H1
          obtain rfl := Option.some.inj H
          go_wp2
          go_ret
          exact ⟨by first | rfl | (simp [errW_none, errW_some] <;> rfl) | (simp [*, errW_none, errW_some] <;> rfl) | (simp [errW_none, errW_some] <;> (apply Bool.eq_iff_iff.2; simp [List.isEmpty_iff])), by repeat (first | (with_reducible first | exact HB.out | apply below_alloc | apply pw_below_drewN | apply below_drew1) | exact HB.out)⟩
        · replace c21 := Bool.eq_false_iff.mpr c21
          subst c21
          have H1 : (if t331 = true then ((impl_TitleCase.f kj8 t330).bind fun bt339 => ((impl_SentenceCase.f kj8 t332).bind fun bt341 => ((impl_SentenceCase.f kj8 t330).bind fun bt343 => (if bt339.2 = true then (if bt341.2 = true then (if bt343.2 = true then (if bt339.1.toList = t330.toList then (if bt341.1.toList = t332.toList then (if (t330.size : Int) = (t329.size : Int) then (if (t332.size : Int) = (t329.size : Int) then (some (bt343.1.toList == t332.toList)) else (some false)) else (some false)) else (some false)) else (some false)) else (some false)) else (some false)) else (some false))))) else (some true)) = some r := by rw [if_neg (show ¬ (false = true) by decide)] at H; exact H
          clear H
          have H := H1
          clear H1
          by_cases c22 : t331 = true
          · subst c22
            have H1 : ((impl_TitleCase.f kj8 t330).bind fun bt339 => ((impl_SentenceCase.f kj8 t332).bind fun bt341 => ((impl_SentenceCase.f kj8 t330).bind fun bt343 => (if bt339.2 = true then (if bt341.2 = true then (if bt343.2 = true then (if bt339.1.toList = t330.toList then (if bt341.1.toList = t332.toList then (if (t330.size : Int) = (t329.size : Int) then (if (t332.size : Int) = (t329.size : Int) then (some (bt343.1.toList == t332.toList)) else (some false)) else (some false)) else (some false)) else (some false)) else (some false)) else (some false)) else (some false))))) = some r := by rw [if_pos rfl] at H; exact H
            clear H
            have H := H1
            clear H1
            replace H := Option.bind_eq_some_iff.mp H
            obtain ⟨⟨t339, t340⟩, A230, H⟩ := H
            replace H : ((impl_SentenceCase.f kj8 t332).bind fun bt341 => ((impl_SentenceCase.f kj8 t330).bind fun bt343 => (if t340 = true then (if bt341.2 = true then (if bt343.2 = true then (if t339.toList = t330.toList then (if bt341.1.toList = t332.toList then (if (t330.size : Int) = (t329.size : Int) then (if (t332.size : Int) = (t329.size : Int) then (some (bt343.1.toList == t332.toList)) else (some false)) else (some false)) else (some false)) else (some false)) else (some false)) else (some false)) else (some false)))) = some r := H
            have A23 := Aside0.mk A230
            clear A230
            replace H := Option.bind_eq_some_iff.mp H
            obtain ⟨⟨t341, t342⟩, A240, H⟩ := H
            replace H : ((impl_SentenceCase.f kj8 t330).bind fun bt343 => (if t340 = true then (if t342 = true then (if bt343.2 = true then (if t339.toList = t330.toList then (if t341.toList = t332.toList then (if (t330.size : Int) = (t329.size : Int) then (if (t332.size : Int) = (t329.size : Int) then (some (bt343.1.toList == t332.toList)) else (some false)) else (some false)) else (some false)) else (some false)) else (some false)) else (some false)) else (some false))) = some r := H
            have A24 := Aside0.mk A240
            clear A240
            replace H := Option.bind_eq_some_iff.mp H
            obtain ⟨⟨t343, t344⟩, A250, H⟩ := H
            replace H : (if t340 = true then (if t342 = true then (if t344 = true then (if t339.toList = t330.toList then (if t341.toList = t332.toList then (if (t330.size : Int) = (t329.size : Int) then (if (t332.size : Int) = (t329.size : Int) then (some (t343.toList == t332.toList)) else (some false)) else (some false)) else (some false)) else (some false)) else (some false)) else (some false)) else (some false)) = some r := H
            have A25 := Aside0.mk A250
            clear A250
            by_cases c26 : t340 = true
            · subst c26
              have H1 : (if t342 = true then (if t344 = true then (if t339.toList = t330.toList then (if t341.toList = t332.toList then (if (t330.size : Int) = (t329.size : Int) then (if (t332.size : Int) = (t329.size : Int) then (some (t343.toList == t332.toList)) else (some false)) else (some false)) else (some false)) else (some false)) else (some false)) else (some false)) = some r := by rw [if_pos rfl] at H; exact H
              clear H
              have H := H1
              clear H1
              by_cases c27 : t342 = true
              · subst c27
                have H1 : (if t344 = true then (if t339.toList = t330.toList then (if t341.toList = t332.toList then (if (t330.size : Int) = (t329.size : Int) then (if (t332.size : Int) = (t329.size : Int) then (some (t343.toList == t332.toList)) else (some false)) else (some false)) else (some false)) else (some false)) else (some false)) = some r := by rw [if_pos rfl] at H; exact H
                clear H
                have H := H1
                clear H1
                by_cases c28 : t344 = true
                · subst c28
                  have H1 : (if t339.toList = t330.toList then (if t341.toList = t332.toList then (if (t330.size : Int) = (t329.size : Int) then (if (t332.size : Int) = (t329.size : Int) then (some (t343.toList == t332.toList)) else (some false)) else (some false)) else (some false)) else (some false)) = some r := by rw [if_pos rfl] at H; exact H
                  clear H
                  have H := H1
                  clear H1
                  by_cases c29 : t339.toList = t330.toList
                  · rw [if_pos c29] at H
                    have c29b0 : (t339.toList == t330.toList) = true := beq_iff_eq.mpr c29
                    have c29b1 : (t339.toList != t330.toList) = false := bne_eq_false_iff_eq.mpr c29
                    clear c29
                    by_cases c30 : t341.toList = t332.toList
                    · rw [if_pos c30] at H
                      have c30b0 : (t341.toList == t332.toList) = true := beq_iff_eq.mpr c30
                      have c30b1 : (t341.toList != t332.toList) = false := bne_eq_false_iff_eq.mpr c30
                      clear c30
                      by_cases c31 : (t330.size : Int) = (t329.size : Int)
                      · rw [if_pos c31] at H
                        have c31b0 : ((t330.size : Int) == (t329.size : Int)) = true := beq_iff_eq.mpr c31
                        have c31b1 : ((t330.size : Int) != (t329.size : Int)) = false := bne_eq_false_iff_eq.mpr c31
                        have c31b2 : (t330.size == t329.size) = true := by first | simpa using c31 | (simp at c31 ⊢; omega)
                        clear c31
                        by_cases c32 : (t332.size : Int) = (t329.size : Int)
                        · rw [if_pos c32] at H
                          have c32b0 : ((t332.size : Int) == (t329.size : Int)) = true := beq_iff_eq.mpr c32
                          have c32b1 : ((t332.size : Int) != (t329.size : Int)) = false := bne_eq_false_iff_eq.mpr c32
                          have c32b2 : (t332.size == t329.size) = true := by first | simpa using c32 | (simp at c32 ⊢; omega)
                          clear c32
                          obtain rfl := Option.some.inj H
                          go_wp2_with (first | ((with_reducible refine gate_callee (f := 17) rfl ?_); refine goesL_ (some 70) rfl rfl Tryd.func17 (by kernel_rfl) rfl #[.string t330] rfl (by (try simp only [List.map_toArray, List.map_cons, List.map_nil]); first | done | rfl | (simp only [List.length_drop, List.length_take]; rfl)) ?_; (with_reducible refine (impl_TitleCase.calls kj8 t330 t339 true _ ?side1 A23.out).mono ?_); (case side1 => exact Go.Proofs.YtilchcponlgmjaaDoorW.Envs.Env.below HENV.out (by repeat (first | (with_reducible first | exact HB.out | apply below_alloc | apply pw_below_drewN | apply below_drew1) | exact HB.out))); rintro e w33 ⟨rfl, hb⟩; refine ⟨_, rfl, ?_⟩; have n0_ := Aside0.mk (below_step (by repeat (first | (with_reducible first | exact HB.out | apply below_alloc | apply pw_below_drewN | apply below_drew1) | exact HB.out)) hb); clear HB; have HB := n0_; clear n0_; (try clear hb); (try clear hb2); (try clear hk); (try clear hi)) | ((with_reducible refine gate_callee (f := 15) rfl ?_); refine goesL_ (some 75) rfl rfl Tryd.func15 (by kernel_rfl) rfl #[.string t332] rfl (by (try simp only [List.map_toArray, List.map_cons, List.map_nil]); first | done | rfl | (simp only [List.length_drop, List.length_take]; rfl)) ?_; (with_reducible refine (impl_SentenceCase.calls kj8 t332 t341 true _ ?side1 A24.out).mono ?_); (case side1 => exact Go.Proofs.YtilchcponlgmjaaDoorW.Envs.Env.below HENV.out (by repeat (first | (with_reducible first | exact HB.out | apply below_alloc | apply pw_below_drewN | apply below_drew1) | exact HB.out))); rintro e w34 ⟨rfl, hb⟩; refine ⟨_, rfl, ?_⟩; have n0_ := Aside0.mk (below_step (by repeat (first | (with_reducible first | exact HB.out | apply below_alloc | apply pw_below_drewN | apply below_drew1) | exact HB.out)) hb); clear HB; have HB := n0_; clear n0_; (try clear hb); (try clear hb2); (try clear hk); (try clear hi)) | ((with_reducible refine gate_callee (f := 15) rfl ?_); refine goesL_ (some 80) rfl rfl Tryd.func15 (by kernel_rfl) rfl #[.string t330] rfl (by (try simp only [List.map_toArray, List.map_cons, List.map_nil]); first | done | rfl | (simp only [List.length_drop, List.length_take]; rfl)) ?_; (with_reducible refine (impl_SentenceCase.calls kj8 t330 t343 true _ ?side1 A25.out).mono ?_); (case side1 => exact Go.Proofs.YtilchcponlgmjaaDoorW.Envs.Env.below HENV.out (by repeat (first | (with_reducible first | exact HB.out | apply below_alloc | apply pw_below_drewN | apply below_drew1) | exact HB.out))); rintro e w35 ⟨rfl, hb⟩; refine ⟨_, rfl, ?_⟩; have n0_ := Aside0.mk (below_step (by repeat (first | (with_reducible first | exact HB.out | apply below_alloc | apply pw_below_drewN | apply below_drew1) | exact HB.out)) hb); clear HB; have HB := n0_; clear n0_; (try clear hb); (try clear hb2); (try clear hk); (try clear hi)))
                          go_ret
                          exact ⟨by first | rfl | (simp [errW_none, errW_some] <;> rfl) | (simp [*, errW_none, errW_some] <;> rfl) | (simp [errW_none, errW_some] <;> (apply Bool.eq_iff_iff.2; simp [List.isEmpty_iff])), by repeat (first | (with_reducible first | exact HB.out | apply below_alloc | apply pw_below_drewN | apply below_drew1) | exact HB.out)⟩
                        · rw [if_neg c32] at H
                          have c32b0 : ((t332.size : Int) == (t329.size : Int)) = false := beq_eq_false_iff_ne.mpr c32
                          have c32b1 : ((t332.size : Int) != (t329.size : Int)) = true := bne_iff_ne.mpr c32
                          have c32b2 : (t332.size == t329.size) = false := by first | simpa using c32 | (simp at c32 ⊢; omega)
                          obtain rfl := Option.some.inj H
                          go_wp2_with (first | ((with_reducible refine gate_callee (f := 17) rfl ?_); refine goesL_ (some 70) rfl rfl Tryd.func17 (by kernel_rfl) rfl #[.string t330] rfl (by (try simp only [List.map_toArray, List.map_cons, List.map_nil]); first | done | rfl | (simp only [List.length_drop, List.length_take]; rfl)) ?_; (with_reducible refine (impl_TitleCase.calls kj8 t330 t339 true _ ?side1 A23.out).mono ?_); (case side1 => exact Go.Proofs.YtilchcponlgmjaaDoorW.Envs.Env.below HENV.out (by repeat (first | (with_reducible first | exact HB.out | apply below_alloc | apply pw_below_drewN | apply below_drew1) | exact HB.out))); rintro e w36 ⟨rfl, hb⟩; refine ⟨_, rfl, ?_⟩; have n0_ := Aside0.mk (below_step (by repeat (first | (with_reducible first | exact HB.out | apply below_alloc | apply pw_below_drewN | apply below_drew1) | exact HB.out)) hb); clear HB; have HB := n0_; clear n0_; (try clear hb); (try clear hb2); (try clear hk); (try clear hi)) | ((with_reducible refine gate_callee (f := 15) rfl ?_); refine goesL_ (some 75) rfl rfl Tryd.func15 (by kernel_rfl) rfl #[.string t332] rfl (by (try simp only [List.map_toArray, List.map_cons, List.map_nil]); first | done | rfl | (simp only [List.length_drop, List.length_take]; rfl)) ?_; (with_reducible refine (impl_SentenceCase.calls kj8 t332 t341 true _ ?side1 A24.out).mono ?_); (case side1 => exact Go.Proofs.YtilchcponlgmjaaDoorW.Envs.Env.below HENV.out (by repeat (first | (with_reducible first | exact HB.out | apply below_alloc | apply pw_below_drewN | apply below_drew1) | exact HB.out))); rintro e w37 ⟨rfl, hb⟩; refine ⟨_, rfl, ?_⟩; have n0_ := Aside0.mk (below_step (by repeat (first | (with_reducible first | exact HB.out | apply below_alloc | apply pw_below_drewN | apply below_drew1) | exact HB.out)) hb); clear HB; have HB := n0_; clear n0_; (try clear hb); (try clear hb2); (try clear hk); (try clear hi)) | ((with_reducible refine gate_callee (f := 15) rfl ?_); refine goesL_ (some 80) rfl rfl Tryd.func15 (by kernel_rfl) rfl #[.string t330] rfl (by (try simp only [List.map_toArray, List.map_cons, List.map_nil]); first | done | rfl | (simp only [List.length_drop, List.length_take]; rfl)) ?_; (with_reducible refine (impl_SentenceCase.calls kj8 t330 t343 true _ ?side1 A25.out).mono ?_); (case side1 => exact Go.Proofs.YtilchcponlgmjaaDoorW.Envs.Env.below HENV.out (by repeat (first | (with_reducible first | exact HB.out | apply below_alloc | apply pw_below_drewN | apply below_drew1) | exact HB.out))); rintro e w38 ⟨rfl, hb⟩; refine ⟨_, rfl, ?_⟩; have n0_ := Aside0.mk (below_step (by repeat (first | (with_reducible first | exact HB.out | apply below_alloc | apply pw_below_drewN | apply below_drew1) | exact HB.out)) hb); clear HB; have HB := n0_; clear n0_; (try clear hb); (try clear hb2); (try clear hk); (try clear hi)))
                          go_ret
                          exact ⟨by first | rfl | (simp [errW_none, errW_some] <;> rfl) | (simp [*, errW_none, errW_some] <;> rfl) | (simp [errW_none, errW_some] <;> (apply Bool.eq_iff_iff.2; simp [List.isEmpty_iff])), by repeat (first | (with_reducible first | exact HB.out | apply below_alloc | apply pw_below_drewN | apply below_drew1) | exact HB.out)⟩
                      · rw [if_neg c31] at H
                        have c31b0 : ((t330.size : Int) == (t329.size : Int)) = false := beq_eq_false_iff_ne.mpr c31
                        have c31b1 : ((t330.size : Int) != (t329.size : Int)) = true := bne_iff_ne.mpr c31
                        have c31b2 : (t330.size == t329.size) = false := by first | simpa using c31 | (simp at c31 ⊢; omega)
                        obtain rfl := Option.some.inj H
                        go_wp2_with (first | ((with_reducible refine gate_callee (f := 17) rfl ?_); refine goesL_ (some 70) rfl rfl Tryd.func17 (by kernel_rfl) rfl #[.string t330] rfl (by (try simp only [List.map_toArray, List.map_cons, List.map_nil]); first | done | rfl | (simp only [List.length_drop, List.length_take]; rfl)) ?_; (with_reducible refine (impl_TitleCase.calls kj8 t330 t339 true _ ?side1 A23.out).mono ?_); (case side1 => exact Go.Proofs.YtilchcponlgmjaaDoorW.Envs.Env.below HENV.out (by repeat (first | (with_reducible first | exact HB.out | apply below_alloc | apply pw_below_drewN | apply below_drew1) | exact HB.out))); rintro e w39 ⟨rfl, hb⟩; refine ⟨_, rfl, ?_⟩; have n0_ := Aside0.mk (below_step (by repeat (first | (with_reducible first | exact HB.out | apply below_alloc | apply pw_below_drewN | apply below_drew1) | exact HB.out)) hb); clear HB; have HB := n0_; clear n0_; (try clear hb); (try clear hb2); (try clear hk); (try clear hi)) | ((with_reducible refine gate_callee (f := 15) rfl ?_); refine goesL_ (some 75) rfl rfl Tryd.func15 (by kernel_rfl) rfl #[.string t332] rfl (by (try simp only [List.map_toArray, List.map_cons, List.map_nil]); first | done | rfl | (simp only [List.length_drop, List.length_take]; rfl)) ?_; (with_reducible refine (impl_SentenceCase.calls kj8 t332 t341 true _ ?side1 A24.out).mono ?_); (case side1 => exact Go.Proofs.YtilchcponlgmjaaDoorW.Envs.Env.below HENV.out (by repeat (first | (with_reducible first | exact HB.out | apply below_alloc | apply pw_below_drewN | apply below_drew1) | exact HB.out))); rintro e w40 ⟨rfl, hb⟩; refine ⟨_, rfl, ?_⟩; have n0_ := Aside0.mk (below_step (by repeat (first | (with_reducible first | exact HB.out | apply below_alloc | apply pw_below_drewN | apply below_drew1) | exact HB.out)) hb); clear HB; have HB := n0_; clear n0_; (try clear hb); (try clear hb2); (try clear hk); (try clear hi)) | ((with_reducible refine gate_callee (f := 15) rfl ?_); refine goesL_ (some 80) rfl rfl Tryd.func15 (by kernel_rfl) rfl #[.string t330] rfl (by (try simp only [List.map_toArray, List.map_cons, List.map_nil]); first | done | rfl | (simp only [List.length_drop, List.length_take]; rfl)) ?_; (with_reducible refine (impl_SentenceCase.calls kj8 t330 t343 true _ ?side1 A25.out).mono ?_); (case side1 => exact Go.Proofs.YtilchcponlgmjaaDoorW.Envs.Env.below HENV.out (by repeat (first | (with_reducible first | exact HB.out | apply below_alloc | apply pw_below_drewN | apply below_drew1) | exact HB.out))); rintro e w41 ⟨rfl, hb⟩; refine ⟨_, rfl, ?_⟩; have n0_ := Aside0.mk (below_step (by repeat (first | (with_reducible first | exact HB.out | apply below_alloc | apply pw_below_drewN | apply below_drew1) | exact HB.out)) hb); clear HB; have HB := n0_; clear n0_; (try clear hb); (try clear hb2); (try clear hk); (try clear hi)))
                        go_ret
                        exact ⟨by first | rfl | (simp [errW_none, errW_some] <;> rfl) | (simp [*, errW_none, errW_some] <;> rfl) | (simp [errW_none, errW_some] <;> (apply Bool.eq_iff_iff.2; simp [List.isEmpty_iff])), by repeat (first | (with_reducible first | exact HB.out | apply below_alloc | apply pw_below_drewN | apply below_drew1) | exact HB.out)⟩
                    · rw [if_neg c30] at H
                      have c30b0 : (t341.toList == t332.toList) = false := beq_eq_false_iff_ne.mpr c30
                      have c30b1 : (t341.toList != t332.toList) = true := bne_iff_ne.mpr c30
                      obtain rfl := Option.some.inj H
                      go_wp2_with (first | ((with_reducible refine gate_callee (f := 17) rfl ?_); refine goesL_ (some 70) rfl rfl Tryd.func17 (by kernel_rfl) rfl #[.string t330] rfl (by (try simp only [List.map_toArray, List.map_cons, List.map_nil]); first | done | rfl | (simp only [List.length_drop, List.length_take]; rfl)) ?_; (with_reducible refine (impl_TitleCase.calls kj8 t330 t339 true _ ?side1 A23.out).mono ?_); (case side1 => exact Go.Proofs.YtilchcponlgmjaaDoorW.Envs.Env.below HENV.out (by repeat (first | (with_reducible first | exact HB.out | apply below_alloc | apply pw_below_drewN | apply below_drew1) | exact HB.out))); rintro e w42 ⟨rfl, hb⟩; refine ⟨_, rfl, ?_⟩; have n0_ := Aside0.mk (below_step (by repeat (first | (with_reducible first | exact HB.out | apply below_alloc | apply pw_below_drewN | apply below_drew1) | exact HB.out)) hb); clear HB; have HB := n0_; clear n0_; (try clear hb); (try clear hb2); (try clear hk); (try clear hi)) | ((with_reducible refine gate_callee (f := 15) rfl ?_); refine goesL_ (some 75) rfl rfl Tryd.func15 (by kernel_rfl) rfl #[.string t332] rfl (by (try simp only [List.map_toArray, List.map_cons, List.map_nil]); first | done | rfl | (simp only [List.length_drop, List.length_take]; rfl)) ?_; (with_reducible refine (impl_SentenceCase.calls kj8 t332 t341 true _ ?side1 A24.out).mono ?_); (case side1 => exact Go.Proofs.YtilchcponlgmjaaDoorW.Envs.Env.below HENV.out (by repeat (first | (with_reducible first | exact HB.out | apply below_alloc | apply pw_below_drewN | apply below_drew1) | exact HB.out))); rintro e w43 ⟨rfl, hb⟩; refine ⟨_, rfl, ?_⟩; have n0_ := Aside0.mk (below_step (by repeat (first | (with_reducible first | exact HB.out | apply below_alloc | apply pw_below_drewN | apply below_drew1) | exact HB.out)) hb); clear HB; have HB := n0_; clear n0_; (try clear hb); (try clear hb2); (try clear hk); (try clear hi)) | ((with_reducible refine gate_callee (f := 15) rfl ?_); refine goesL_ (some 80) rfl rfl Tryd.func15 (by kernel_rfl) rfl #[.string t330] rfl (by (try simp only [List.map_toArray, List.map_cons, List.map_nil]); first | done | rfl | (simp only [List.length_drop, List.length_take]; rfl)) ?_; (with_reducible refine (impl_SentenceCase.calls kj8 t330 t343 true _ ?side1 A25.out).mono ?_); (case side1 => exact Go.Proofs.YtilchcponlgmjaaDoorW.Envs.Env.below HENV.out (by repeat (first | (with_reducible first | exact HB.out | apply below_alloc | apply pw_below_drewN | apply below_drew1) | exact HB.out))); rintro e w44 ⟨rfl, hb⟩; refine ⟨_, rfl, ?_⟩; have n0_ := Aside0.mk (below_step (by repeat (first | (with_reducible first | exact HB.out | apply below_alloc | apply pw_below_drewN | apply below_drew1) | exact HB.out)) hb); clear HB; have HB := n0_; clear n0_; (try clear hb); (try clear hb2); (try clear hk); (try clear hi)))
                      go_ret
                      exact ⟨by first | rfl | (simp [errW_none, errW_some] <;> rfl) | (simp [*, errW_none, errW_some] <;> rfl) | (simp [errW_none, errW_some] <;> (apply Bool.eq_iff_iff.2; simp [List.isEmpty_iff])), by repeat (first | (with_reducible first | exact HB.out | apply below_alloc | apply pw_below_drewN | apply below_drew1) | exact HB.out)⟩
                  · rw [if_neg c29] at H
                    have c29b0 : (t339.toList == t330.toList) = false := beq_eq_false_iff_ne.mpr c29
                    have c29b1 : (t339.toList != t330.toList) = true := bne_iff_ne.mpr c29
                    obtain rfl := Option.some.inj H
                    go_wp2_with (first | ((with_reducible refine gate_callee (f := 17) rfl ?_); refine goesL_ (some 70) rfl rfl Tryd.func17 (by kernel_rfl) rfl #[.string t330] rfl (by (try simp only [List.map_toArray, List.map_cons, List.map_nil]); first | done | rfl | (simp only [List.length_drop, List.length_take]; rfl)) ?_; (with_reducible refine (impl_TitleCase.calls kj8 t330 t339 true _ ?side1 A23.out).mono ?_); (case side1 => exact Go.Proofs.YtilchcponlgmjaaDoorW.Envs.Env.below HENV.out (by repeat (first | (with_reducible first | exact HB.out | apply below_alloc | apply pw_below_drewN | apply below_drew1) | exact HB.out))); rintro e w45 ⟨rfl, hb⟩; refine ⟨_, rfl, ?_⟩; have n0_ := Aside0.mk (below_step (by repeat (first | (with_reducible first | exact HB.out | apply below_alloc | apply pw_below_drewN | apply below_drew1) | exact HB.out)) hb); clear HB; have HB := n0_; clear n0_; (try clear hb); (try clear hb2); (try clear hk); (try clear hi)) | ((with_reducible refine gate_callee (f := 15) rfl ?_); refine goesL_ (some 75) rfl rfl Tryd.func15 (by kernel_rfl) rfl #[.string t332] rfl (by (try simp only [List.map_toArray, List.map_cons, List.map_nil]); first | done | rfl | (simp only [List.length_drop, List.length_take]; rfl)) ?_; (with_reducible refine (impl_SentenceCase.calls kj8 t332 t341 true _ ?side1 A24.out).mono ?_); (case side1 => exact Go.Proofs.YtilchcponlgmjaaDoorW.Envs.Env.below HENV.out (by repeat (first | (with_reducible first | exact HB.out | apply below_alloc | apply pw_below_drewN | apply below_drew1) | exact HB.out))); rintro e w46 ⟨rfl, hb⟩; refine ⟨_, rfl, ?_⟩; have n0_ := Aside0.mk (below_step (by repeat (first | (with_reducible first | exact HB.out | apply below_alloc | apply pw_below_drewN | apply below_drew1) | exact HB.out)) hb); clear HB; have HB := n0_; clear n0_; (try clear hb); (try clear hb2); (try clear hk); (try clear hi)) | ((with_reducible refine gate_callee (f := 15) rfl ?_); refine goesL_ (some 80) rfl rfl Tryd.func15 (by kernel_rfl) rfl #[.string t330] rfl (by (try simp only [List.map_toArray, List.map_cons, List.map_nil]); first | done | rfl | (simp only [List.length_drop, List.length_take]; rfl)) ?_; (with_reducible refine (impl_SentenceCase.calls kj8 t330 t343 true _ ?side1 A25.out).mono ?_); (case side1 => exact Go.Proofs.YtilchcponlgmjaaDoorW.Envs.Env.below HENV.out (by repeat (first | (with_reducible first | exact HB.out | apply below_alloc | apply pw_below_drewN | apply below_drew1) | exact HB.out))); rintro e w47 ⟨rfl, hb⟩; refine ⟨_, rfl, ?_⟩; have n0_ := Aside0.mk (below_step (by repeat (first | (with_reducible first | exact HB.out | apply below_alloc | apply pw_below_drewN | apply below_drew1) | exact HB.out)) hb); clear HB; have HB := n0_; clear n0_; (try clear hb); (try clear hb2); (try clear hk); (try clear hi)))
                    go_ret
                    exact ⟨by first | rfl | (simp [errW_none, errW_some] <;> rfl) | (simp [*, errW_none, errW_some] <;> rfl) | (simp [errW_none, errW_some] <;> (apply Bool.eq_iff_iff.2; simp [List.isEmpty_iff])), by repeat (first | (with_reducible first | exact HB.out | apply below_alloc | apply pw_below_drewN | apply below_drew1) | exact HB.out)⟩
                · replace c28 := Bool.eq_false_iff.mpr c28
                  subst c28
                  have H1 : (some false) = some r := by rw [if_neg (show ¬ (false = true) by decide)] at H; exact H
                  clear H
                  have H := H1
                  clear H1
                  obtain rfl := Option.some.inj H
                  go_wp2_with (first | ((with_reducible refine gate_callee (f := 17) rfl ?_); refine goesL_ (some 70) rfl rfl Tryd.func17 (by kernel_rfl) rfl #[.string t330] rfl (by (try simp only [List.map_toArray, List.map_cons, List.map_nil]); first | done | rfl | (simp only [List.length_drop, List.length_take]; rfl)) ?_; (with_reducible refine (impl_TitleCase.calls kj8 t330 t339 true _ ?side1 A23.out).mono ?_); (case side1 => exact Go.Proofs.YtilchcponlgmjaaDoorW.Envs.Env.below HENV.out (by repeat (first | (with_reducible first | exact HB.out | apply below_alloc | apply pw_below_drewN | apply below_drew1) | exact HB.out))); rintro e w48 ⟨rfl, hb⟩; refine ⟨_, rfl, ?_⟩; have n0_ := Aside0.mk (below_step (by repeat (first | (with_reducible first | exact HB.out | apply below_alloc | apply pw_below_drewN | apply below_drew1) | exact HB.out)) hb); clear HB; have HB := n0_; clear n0_; (try clear hb); (try clear hb2); (try clear hk); (try clear hi)) | ((with_reducible refine gate_callee (f := 15) rfl ?_); refine goesL_ (some 75) rfl rfl Tryd.func15 (by kernel_rfl) rfl #[.string t332] rfl (by (try simp only [List.map_toArray, List.map_cons, List.map_nil]); first | done | rfl | (simp only [List.length_drop, List.length_take]; rfl)) ?_; (with_reducible refine (impl_SentenceCase.calls kj8 t332 t341 true _ ?side1 A24.out).mono ?_); (case side1 => exact Go.Proofs.YtilchcponlgmjaaDoorW.Envs.Env.below HENV.out (by repeat (first | (with_reducible first | exact HB.out | apply below_alloc | apply pw_below_drewN | apply below_drew1) | exact HB.out))); rintro e w49 ⟨rfl, hb⟩; refine ⟨_, rfl, ?_⟩; have n0_ := Aside0.mk (below_step (by repeat (first | (with_reducible first | exact HB.out | apply below_alloc | apply pw_below_drewN | apply below_drew1) | exact HB.out)) hb); clear HB; have HB := n0_; clear n0_; (try clear hb); (try clear hb2); (try clear hk); (try clear hi)) | ((with_reducible refine gate_callee (f := 15) rfl ?_); refine goesL_ (some 80) rfl rfl Tryd.func15 (by kernel_rfl) rfl #[.string t330] rfl (by (try simp only [List.map_toArray, List.map_cons, List.map_nil]); first | done | rfl | (simp only [List.length_drop, List.length_take]; rfl)) ?_; (with_reducible refine (impl_SentenceCase.calls kj8 t330 t343 false _ ?side1 A25.out).mono ?_); (case side1 => exact Go.Proofs.YtilchcponlgmjaaDoorW.Envs.Env.below HENV.out (by repeat (first | (with_reducible first | exact HB.out | apply below_alloc | apply pw_below_drewN | apply below_drew1) | exact HB.out))); rintro e w50 ⟨rfl, hb⟩; refine ⟨_, rfl, ?_⟩; have n0_ := Aside0.mk (below_step (by repeat (first | (with_reducible first | exact HB.out | apply below_alloc | apply pw_below_drewN | apply below_drew1) | exact HB.out)) hb); clear HB; have HB := n0_; clear n0_; (try clear hb); (try clear hb2); (try clear hk); (try clear hi)))
                  go_ret
                  exact ⟨by first | rfl | (simp [errW_none, errW_some] <;> rfl) | (simp [*, errW_none, errW_some] <;> rfl) | (simp [errW_none, errW_some] <;> (apply Bool.eq_iff_iff.2; simp [List.isEmpty_iff])), by repeat (first | (with_reducible first | exact HB.out | apply below_alloc | apply pw_below_drewN | apply below_drew1) | exact HB.out)⟩
              · replace c27 := Bool.eq_false_iff.mpr c27
                subst c27
                have H1 : (some false) = some r := by rw [if_neg (show ¬ (false = true) by decide)] at H; exact H
                clear H
                have H := H1
                clear H1
                obtain rfl := Option.some.inj H
                go_wp2_with (first | ((with_reducible refine gate_callee (f := 17) rfl ?_); refine goesL_ (some 70) rfl rfl Tryd.func17 (by kernel_rfl) rfl #[.string t330] rfl (by (try simp only [List.map_toArray, List.map_cons, List.map_nil]); first | done | rfl | (simp only [List.length_drop, List.length_take]; rfl)) ?_; (with_reducible refine (impl_TitleCase.calls kj8 t330 t339 true _ ?side1 A23.out).mono ?_); (case side1 => exact Go.Proofs.YtilchcponlgmjaaDoorW.Envs.Env.below HENV.out (by repeat (first | (with_reducible first | exact HB.out | apply below_alloc | apply pw_below_drewN | apply below_drew1) | exact HB.out))); rintro e w51 ⟨rfl, hb⟩; refine ⟨_, rfl, ?_⟩; have n0_ := Aside0.mk (below_step (by repeat (first | (with_reducible first | exact HB.out | apply below_alloc | apply pw_below_drewN | apply below_drew1) | exact HB.out)) hb); clear HB; have HB := n0_; clear n0_; (try clear hb); (try clear hb2); (try clear hk); (try clear hi)) | ((with_reducible refine gate_callee (f := 15) rfl ?_); refine goesL_ (some 75) rfl rfl Tryd.func15 (by kernel_rfl) rfl #[.string t332] rfl (by (try simp only [List.map_toArray, List.map_cons, List.map_nil]); first | done | rfl | (simp only [List.length_drop, List.length_take]; rfl)) ?_; (with_reducible refine (impl_SentenceCase.calls kj8 t332 t341 false _ ?side1 A24.out).mono ?_); (case side1 => exact Go.Proofs.YtilchcponlgmjaaDoorW.Envs.Env.below HENV.out (by repeat (first | (with_reducible first | exact HB.out | apply below_alloc | apply pw_below_drewN | apply below_drew1) | exact HB.out))); rintro e w52 ⟨rfl, hb⟩; refine ⟨_, rfl, ?_⟩; have n0_ := Aside0.mk (below_step (by repeat (first | (with_reducible first | exact HB.out | apply below_alloc | apply pw_below_drewN | apply below_drew1) | exact HB.out)) hb); clear HB; have HB := n0_; clear n0_; (try clear hb); (try clear hb2); (try clear hk); (try clear hi)) | ((with_reducible refine gate_callee (f := 15) rfl ?_); refine goesL_ (some 80) rfl rfl Tryd.func15 (by kernel_rfl) rfl #[.string t330] rfl (by (try simp only [List.map_toArray, List.map_cons, List.map_nil]); first | done | rfl | (simp only [List.length_drop, List.length_take]; rfl)) ?_; (with_reducible refine (impl_SentenceCase.calls kj8 t330 t343 t344 _ ?side1 A25.out).mono ?_); (case side1 => exact Go.Proofs.YtilchcponlgmjaaDoorW.Envs.Env.below HENV.out (by repeat (first | (with_reducible first | exact HB.out | apply below_alloc | apply pw_below_drewN | apply below_drew1) | exact HB.out))); rintro e w53 ⟨rfl, hb⟩; refine ⟨_, rfl, ?_⟩; have n0_ := Aside0.mk (below_step (by repeat (first | (with_reducible first | exact HB.out | apply below_alloc | apply pw_below_drewN | apply below_drew1) | exact HB.out)) hb); clear HB; have HB := n0_; clear n0_; (try clear hb); (try clear hb2); (try clear hk); (try clear hi)))
                go_ret
                exact ⟨by first | rfl | (simp [errW_none, errW_some] <;> rfl) | (simp [*, errW_none, errW_some] <;> rfl) | (simp [errW_none, errW_some] <;> (apply Bool.eq_iff_iff.2; simp [List.isEmpty_iff])), by repeat (first | (with_reducible first | exact HB.out | apply below_alloc | apply pw_below_drewN | apply below_drew1) | exact HB.out)⟩
            · replace c26 := Bool.eq_false_iff.mpr c26
              subst c26
              have H1 : (some false) = some r := by rw [if_neg (show ¬ (false = true) by decide)] at H; exact H
              clear H
              have H := H1
              clear H1
              obtain rfl := Option.some.inj H
              go_wp2_with (first | ((with_reducible refine gate_callee (f := 17) rfl ?_); refine goesL_ (some 70) rfl rfl Tryd.func17 (by kernel_rfl) rfl #[.string t330] rfl (by (try simp only [List.map_toArray, List.map_cons, List.map_nil]); first | done | rfl | (simp only [List.length_drop, List.length_take]; rfl)) ?_; (with_reducible refine (impl_TitleCase.calls kj8 t330 t339 false _ ?side1 A23.out).mono ?_); (case side1 => exact Go.Proofs.YtilchcponlgmjaaDoorW.Envs.Env.below HENV.out (by repeat (first | (with_reducible first | exact HB.out | apply below_alloc | apply pw_below_drewN | apply below_drew1) | exact HB.out))); rintro e w54 ⟨rfl, hb⟩; refine ⟨_, rfl, ?_⟩; have n0_ := Aside0.mk (below_step (by repeat (first | (with_reducible first | exact HB.out | apply below_alloc | apply pw_below_drewN | apply below_drew1) | exact HB.out)) hb); clear HB; have HB := n0_; clear n0_; (try clear hb); (try clear hb2); (try clear hk); (try clear hi)) | ((with_reducible refine gate_callee (f := 15) rfl ?_); refine goesL_ (some 75) rfl rfl Tryd.func15 (by kernel_rfl) rfl #[.string t332] rfl (by (try simp only [List.map_toArray, List.map_cons, List.map_nil]); first | done | rfl | (simp only [List.length_drop, List.length_take]; rfl)) ?_; (with_reducible refine (impl_SentenceCase.calls kj8 t332 t341 t342 _ ?side1 A24.out).mono ?_); (case side1 => exact Go.Proofs.YtilchcponlgmjaaDoorW.Envs.Env.below HENV.out (by repeat (first | (with_reducible first | exact HB.out | apply below_alloc | apply pw_below_drewN | apply below_drew1) | exact HB.out))); rintro e w55 ⟨rfl, hb⟩; refine ⟨_, rfl, ?_⟩; have n0_ := Aside0.mk (below_step (by repeat (first | (with_reducible first | exact HB.out | apply below_alloc | apply pw_below_drewN | apply below_drew1) | exact HB.out)) hb); clear HB; have HB := n0_; clear n0_; (try clear hb); (try clear hb2); (try clear hk); (try clear hi)) | ((with_reducible refine gate_callee (f := 15) rfl ?_); refine goesL_ (some 80) rfl rfl Tryd.func15 (by kernel_rfl) rfl #[.string t330] rfl (by (try simp only [List.map_toArray, List.map_cons, List.map_nil]); first | done | rfl | (simp only [List.length_drop, List.length_take]; rfl)) ?_; (with_reducible refine (impl_SentenceCase.calls kj8 t330 t343 t344 _ ?side1 A25.out).mono ?_); (case side1 => exact Go.Proofs.YtilchcponlgmjaaDoorW.Envs.Env.below HENV.out (by repeat (first | (with_reducible first | exact HB.out | apply below_alloc | apply pw_below_drewN | apply below_drew1) | exact HB.out))); rintro e w56 ⟨rfl, hb⟩; refine ⟨_, rfl, ?_⟩; have n0_ := Aside0.mk (below_step (by repeat (first | (with_reducible first | exact HB.out | apply below_alloc | apply pw_below_drewN | apply below_drew1) | exact HB.out)) hb); clear HB; have HB := n0_; clear n0_; (try clear hb); (try clear hb2); (try clear hk); (try clear hi)))
              go_ret
              exact ⟨by first | rfl | (simp [errW_none, errW_some] <;> rfl) | (simp [*, errW_none, errW_some] <;> rfl) | (simp [errW_none, errW_some] <;> (apply Bool.eq_iff_iff.2; simp [List.isEmpty_iff])), by repeat (first | (with_reducible first | exact HB.out | apply below_alloc | apply pw_below_drewN | apply below_drew1) | exact HB.out)⟩
          · replace c22 := Bool.eq_false_iff.mpr c22
            subst c22
            have H1 : (some true) = some r := by rw [if_neg (show ¬ (false = true) by decide)] at H; exact H
            clear H
            have H := H1
            clear H1
            obtain rfl := Option.some.inj H
            go_wp2
            go_ret
            exact ⟨by first | rfl | (simp [errW_none, errW_some] <;> rfl) | (simp [*, errW_none, errW_some] <;> rfl) | (simp [errW_none, errW_some] <;> (apply Bool.eq_iff_iff.2; simp [List.isEmpty_iff])), by repeat (first | (with_reducible first | exact HB.out | apply below_alloc | apply pw_below_drewN | apply below_drew1) | exact HB.out)⟩

/-- THE ONE PURE STATEMENT of laws_FnTitleCases: yours. -/
def laws_FnTitleCases.Pure : Prop := ∀ (l0 : List Int), l0.length ≤ maxLen → l0.length * 1 ≤ 140737488351232 → (∀ x ∈ l0, (Lit.int .u8 x).wf = true) → ∃ k, laws_FnTitleCases.f k l0 = some true
theorem laws_FnTitleCases.walk (P : laws_FnTitleCases.Pure) (a0 : Option Addr) (len0 cap0 : Nat) (z0 : List Int) (w : World) (w0 : (a0 = none ∧ len0 = 0 ∧ cap0 = 0 ∧ z0 = []) ∨ ∃ x, a0 = some x ∧ len0 ≤ cap0 ∧ cap0 ≤ maxLen ∧ z0.length = cap0 ∧ (∀ i, i < z0.length → w.cell? (x.add i) = some (.int .u8 (z0.getD i 0))) ∧ ∀ n ∈ z0, (Lit.int .u8 n).wf = true) (y0 : len0 * 1 ≤ 140737488351232) (henv : Go.Proofs.YtilchcponlgmjaaDoorW.Envs.Env [0] w) :
    Calls Tryd.prog 8 #[.slice a0 len0 cap0] w fun e w' => e = .returned (.bool true) ∧ Below w.heap.size w w' := by
  obtain ⟨l0, rfl, hr0, hm0, hw0, hc0⟩ := ReadsInt.ofRowC w0
  obtain ⟨k, h⟩ := P l0 hm0 y0 hw0
  refine (laws_FnTitleCases.calls k _ _ l0 true w (Kd.C_of_reads (d := (0 : Int)) (h1 := fun _ => rfl) hr0) hc0 henv h).mono ?_
  rintro e w' ⟨rfl, hd⟩
  exact ⟨rfl, hd⟩

end Go.Proofs.YtilchcponlgmjaaDoor.Px
