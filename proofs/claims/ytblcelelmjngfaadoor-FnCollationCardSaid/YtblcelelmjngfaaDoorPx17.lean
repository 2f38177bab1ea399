/- That calls of Go functions come to what the Lean functions beside them say; written by a program of this session (wip/xprint) over the printed words; no conditions. -/
import Derived.Test.YtblcelelmjngfaaDoorPx0
import Derived.Test.YtblcelelmjngfaaDoorPx4
import Derived.Test.YtblcelelmjngfaaDoorPx9
import Derived.Test.YtblcelelmjngfaaDoorPx11
import Derived.Test.YtblcelelmjngfaaDoorPx13
import Derived.Test.YtblcelelmjngfaaDoorPx15
import Derived.Test.YtblcelelmjngfaaDoorPx16
namespace Go.Proofs.YtblcelelmjngfaaDoor.Px
open Go.RowKit Go.Proofs.YtblcelelmjngfaaDoorW.PrintWords Go.Proofs.YtblcelelmjngfaaDoorW.PrintLast Go.Proofs.YtblcelelmjngfaaDoorW.PrintMore
attribute [local go_sem] max2_int min2_int max_two min_two max_three min_three max_four min_four   -- for this text's walks alone
set_option linter.unusedVariables false
set_option linter.unusedSimpArgs false

/-! ### laws_FnCollation: function 4 -/
mutual
def laws_FnCollation.j0 : Nat → List Int → Bool → Option (Bool)
  | 0, _, _ => none
  | k + 1, x0, x64 => if x64 = true then (some false) else ((spec_DrawCollateTexts.f x0).bind fun bt251 => ((impl_CollateTexts.f k bt251.1 bt251.2).bind fun bt253 => ((impl_CollateTexts.f k bt251.2 bt251.1).bind fun bt255 => ((spec_CollateTexts.f k bt251.1 bt251.2).bind fun bt257 => (if bt253.1 = bt257.1 then (if (bt253.2 != bt255.2) = true then (laws_FnCollation.j1 k x0 true) else (if bt255.1 = (wrap64 (-bt253.1)) then (if bt253.2 = true then (laws_FnCollation.j1 k x0 ((bt253.1 == 0) != (bt251.1.toList == bt251.2.toList))) else (laws_FnCollation.j1 k x0 false)) else (laws_FnCollation.j1 k x0 true))) else (laws_FnCollation.j1 k x0 true))))))
def laws_FnCollation.j1 : Nat → List Int → Bool → Option (Bool)
  | 0, _, _ => none
  | k + 1, x0, x112 => if x112 = true then (some false) else ((spec_DrawNaturalCompare.f x0).bind fun bt259 => ((impl_NaturalCompare.f bt259.1 bt259.2).bind fun bt261 => ((impl_NaturalCompare.f bt259.2 bt259.1).bind fun bt263 => ((spec_NaturalCompare.f k bt259.1 bt259.2).bind fun bt265 => (if bt261.1 = bt265.1 then (if (bt261.2 == bt265.2) = true then (if (bt263.2 == bt261.2) = true then (if bt263.1 = (wrap64 (-bt261.1)) then (if bt261.2 = true then (some ((bt261.1 == 0) == (bt259.1.toList == bt259.2.toList))) else (some true)) else (some false)) else (some false)) else (some false)) else (some false))))))
end
def laws_FnCollation.f (k : Nat) (l0 : List Int) : Option (Bool) := (laws_vBig.f l0).bind fun t243 => (if t243 = true then (some true) else ((spec_DrawFoldText.f l0).bind fun t244 => ((impl_FoldText.f t244).bind fun bt245 => ((impl_FoldText.f bt245.1).bind fun bt247 => ((spec_FoldText.f k t244).bind fun bt249 => (if bt245.1.toList = bt249.1.toList then (if (bt245.2 != bt249.2) = true then (laws_FnCollation.j0 k l0 true) else (if bt245.2 = true then (if bt247.2 = true then (laws_FnCollation.j0 k l0 (bt247.1.toList != bt245.1.toList)) else (laws_FnCollation.j0 k l0 true)) else (laws_FnCollation.j0 k l0 false))) else (laws_FnCollation.j0 k l0 true)))))))
theorem laws_FnCollation.mono_l : ∀ k, (∀ y0 y1, LeO (laws_FnCollation.j0 k y0 y1) (laws_FnCollation.j0 (k + 1) y0 y1)) ∧ (∀ y0 y1, LeO (laws_FnCollation.j1 k y0 y1) (laws_FnCollation.j1 (k + 1) y0 y1))
  | 0 => ⟨fun _ _ r h => by simp [laws_FnCollation.j0] at h, fun _ _ r h => by simp [laws_FnCollation.j1] at h⟩
  | k + 1 => by
    obtain ⟨ih0, ih1⟩ := laws_FnCollation.mono_l k
    refine ⟨?_, ?_⟩
    · intro y0 y1
      unfold laws_FnCollation.j0
      repeat' first
      | (with_reducible exact ih0 _ _)
      | (with_reducible exact ih1 _ _)
      | (with_reducible exact impl_CollateTexts.mono _ _ _)
      | (with_reducible exact spec_CollateTexts.mono _ _ _)
      | (with_reducible exact spec_FoldText.mono _ _)
      | (with_reducible exact spec_NaturalCompare.mono _ _ _)
      | (with_reducible exact LeO.refl _)
      | (with_reducible exact LeO.none _)
      | (with_reducible refine LeO.ite ?_ ?_)
      | (with_reducible refine LeO.bind ?_ (fun _ => ?_))
      | exact ih0 _ _
      | exact ih1 _ _
      | exact impl_CollateTexts.mono _ _ _
      | exact spec_CollateTexts.mono _ _ _
      | exact spec_FoldText.mono _ _
      | exact spec_NaturalCompare.mono _ _ _
      | exact LeO.none _
      | refine LeO.ite ?_ ?_
      | refine LeO.bind ?_ (fun _ => ?_)
    · intro y0 y1
      unfold laws_FnCollation.j1
      repeat' first
      | (with_reducible exact ih0 _ _)
      | (with_reducible exact ih1 _ _)
      | (with_reducible exact impl_CollateTexts.mono _ _ _)
      | (with_reducible exact spec_CollateTexts.mono _ _ _)
      | (with_reducible exact spec_FoldText.mono _ _)
      | (with_reducible exact spec_NaturalCompare.mono _ _ _)
      | (with_reducible exact LeO.refl _)
      | (with_reducible exact LeO.none _)
      | (with_reducible refine LeO.ite ?_ ?_)
      | (with_reducible refine LeO.bind ?_ (fun _ => ?_))
      | exact ih0 _ _
      | exact ih1 _ _
      | exact impl_CollateTexts.mono _ _ _
      | exact spec_CollateTexts.mono _ _ _
      | exact spec_FoldText.mono _ _
      | exact spec_NaturalCompare.mono _ _ _
      | exact LeO.none _
      | refine LeO.ite ?_ ?_
      | refine LeO.bind ?_ (fun _ => ?_)
theorem laws_FnCollation.mono : ∀ a0 k, LeO (laws_FnCollation.f k a0) (laws_FnCollation.f (k + 1) a0) := by
  intro a0 k
  obtain ⟨ih0, ih1⟩ := laws_FnCollation.mono_l k
  unfold laws_FnCollation.f
  repeat' first
      | (with_reducible exact ih0 _ _)
      | (with_reducible exact ih1 _ _)
      | (with_reducible exact impl_CollateTexts.mono _ _ _)
      | (with_reducible exact spec_CollateTexts.mono _ _ _)
      | (with_reducible exact spec_FoldText.mono _ _)
      | (with_reducible exact spec_NaturalCompare.mono _ _ _)
      | (with_reducible exact LeO.refl _)
      | (with_reducible exact LeO.none _)
      | (with_reducible refine LeO.ite ?_ ?_)
      | (with_reducible refine LeO.bind ?_ (fun _ => ?_))
      | exact ih0 _ _
      | exact ih1 _ _
      | exact impl_CollateTexts.mono _ _ _
      | exact spec_CollateTexts.mono _ _ _
      | exact spec_FoldText.mono _ _
      | exact spec_NaturalCompare.mono _ _ _
      | exact LeO.none _
      | refine LeO.ite ?_ ?_
      | refine LeO.bind ?_ (fun _ => ?_)
set_option maxHeartbeats 8000000 in
set_option maxRecDepth 100000 in
theorem laws_FnCollation.calls (k : Nat) (A0 : Option Addr) (c0 : Nat) (l0 : List Int) (r : Bool) (w : World) (hr0 : Kd.C (Kd.int .u8) w A0 l0.length l0) (hc0 : l0.length ≤ c0) (h : laws_FnCollation.f k l0 = some r) :
    Calls Tryd.prog 4 #[.slice A0 l0.length c0] w fun e w' => e = .returned (.bool r) ∧ Below w.heap.size w w' := by
  have HR0 := Aside0.mk hr0
  have HC0 := Aside0.mk hc0
  clear hr0 hc0
  have HB := Aside0.mk (Below.refl w.heap.size w)
  have H : ((laws_vBig.f l0).bind fun t243 => (if t243 = true then (some true) else ((spec_DrawFoldText.f l0).bind fun t244 => ((impl_FoldText.f t244).bind fun bt245 => ((impl_FoldText.f bt245.1).bind fun bt247 => ((spec_FoldText.f k t244).bind fun bt249 => (if bt245.1.toList = bt249.1.toList then (if (bt245.2 != bt249.2) = true then (laws_FnCollation.j0 k l0 true) else (if bt245.2 = true then (if bt247.2 = true then (laws_FnCollation.j0 k l0 (bt247.1.toList != bt245.1.toList)) else (laws_FnCollation.j0 k l0 true)) else (laws_FnCollation.j0 k l0 false))) else (laws_FnCollation.j0 k l0 true)))))))) = some r := h
  clear h
  replace H := Option.bind_eq_some_iff.mp H
  obtain ⟨t243, A20, H⟩ := H
  replace H : (if t243 = true then (some true) else ((spec_DrawFoldText.f l0).bind fun t244 => ((impl_FoldText.f t244).bind fun bt245 => ((impl_FoldText.f bt245.1).bind fun bt247 => ((spec_FoldText.f k t244).bind fun bt249 => (if bt245.1.toList = bt249.1.toList then (if (bt245.2 != bt249.2) = true then (laws_FnCollation.j0 k l0 true) else (if bt245.2 = true then (if bt247.2 = true then (laws_FnCollation.j0 k l0 (bt247.1.toList != bt245.1.toList)) else (laws_FnCollation.j0 k l0 true)) else (laws_FnCollation.j0 k l0 false))) else (laws_FnCollation.j0 k l0 true))))))) = some r := H
  have A2 := Aside0.mk A20
  clear A20
  by_cases c3 : t243 = true
  · subst c3
    have H1 : (some true) = some r := by rw [if_pos rfl] at H; exact H
    clear H
    have H := H1
    clear H1
    obtain rfl := Option.some.inj H
    go_enter Tryd.func4, Tryd.ntmps4
    go_wp2_with (first | ((with_reducible refine gate_callee (f := 7) rfl ?_); refine goesL_ (some 27) rfl rfl Tryd.func7 (by kernel_rfl) rfl #[.slice A0 l0.length c0] rfl (by (try simp only [List.map_toArray, List.map_cons, List.map_nil]); first | done | rfl | (simp only [List.length_drop, List.length_take]; rfl)) ?_; (with_reducible refine (laws_vBig.calls _ _ l0 true _ ?side1 ?side2 A2.out).mono ?_); (case side1 => repeat (first | exact HR0.out | (with_reducible refine Kd.C_alloc ?_ _) | (with_reducible refine Kd.C_drewN ?_ _) | (with_reducible refine Kd.C_drew ?_))); (case side2 => exact HC0.out); rintro e w' ⟨rfl, ⟨nd, rfl⟩⟩; refine ⟨_, rfl, ?_⟩))
    go_ret
    exact ⟨by first | rfl | (simp [errW_none, errW_some] <;> rfl) | (simp [*, errW_none, errW_some] <;> rfl) | (simp [errW_none, errW_some] <;> (apply Bool.eq_iff_iff.2; simp [List.isEmpty_iff])), by repeat (first | (with_reducible first | exact HB.out | apply below_alloc | apply pw_below_drewN | apply below_drew1) | exact HB.out)⟩
  · replace c3 := Bool.eq_false_iff.mpr c3
    subst c3
    have H1 : ((spec_DrawFoldText.f l0).bind fun t244 => ((impl_FoldText.f t244).bind fun bt245 => ((impl_FoldText.f bt245.1).bind fun bt247 => ((spec_FoldText.f k t244).bind fun bt249 => (if bt245.1.toList = bt249.1.toList then (if (bt245.2 != bt249.2) = true then (laws_FnCollation.j0 k l0 true) else (if bt245.2 = true then (if bt247.2 = true then (laws_FnCollation.j0 k l0 (bt247.1.toList != bt245.1.toList)) else (laws_FnCollation.j0 k l0 true)) else (laws_FnCollation.j0 k l0 false))) else (laws_FnCollation.j0 k l0 true)))))) = some r := by rw [if_neg (show ¬ (false = true) by decide)] at H; exact H
    clear H
    have H := H1
    clear H1
    replace H := Option.bind_eq_some_iff.mp H
    obtain ⟨t244, A40, H⟩ := H
    replace H : ((impl_FoldText.f t244).bind fun bt245 => ((impl_FoldText.f bt245.1).bind fun bt247 => ((spec_FoldText.f k t244).bind fun bt249 => (if bt245.1.toList = bt249.1.toList then (if (bt245.2 != bt249.2) = true then (laws_FnCollation.j0 k l0 true) else (if bt245.2 = true then (if bt247.2 = true then (laws_FnCollation.j0 k l0 (bt247.1.toList != bt245.1.toList)) else (laws_FnCollation.j0 k l0 true)) else (laws_FnCollation.j0 k l0 false))) else (laws_FnCollation.j0 k l0 true))))) = some r := H
    have A4 := Aside0.mk A40
    clear A40
    replace H := Option.bind_eq_some_iff.mp H
    obtain ⟨⟨t245, t246⟩, A50, H⟩ := H
    replace H : ((impl_FoldText.f t245).bind fun bt247 => ((spec_FoldText.f k t244).bind fun bt249 => (if t245.toList = bt249.1.toList then (if (t246 != bt249.2) = true then (laws_FnCollation.j0 k l0 true) else (if t246 = true then (if bt247.2 = true then (laws_FnCollation.j0 k l0 (bt247.1.toList != t245.toList)) else (laws_FnCollation.j0 k l0 true)) else (laws_FnCollation.j0 k l0 false))) else (laws_FnCollation.j0 k l0 true)))) = some r := H
    have A5 := Aside0.mk A50
    clear A50
    replace H := Option.bind_eq_some_iff.mp H
    obtain ⟨⟨t247, t248⟩, A60, H⟩ := H
    replace H : ((spec_FoldText.f k t244).bind fun bt249 => (if t245.toList = bt249.1.toList then (if (t246 != bt249.2) = true then (laws_FnCollation.j0 k l0 true) else (if t246 = true then (if t248 = true then (laws_FnCollation.j0 k l0 (t247.toList != t245.toList)) else (laws_FnCollation.j0 k l0 true)) else (laws_FnCollation.j0 k l0 false))) else (laws_FnCollation.j0 k l0 true))) = some r := H
    have A6 := Aside0.mk A60
    clear A60
    replace H := Option.bind_eq_some_iff.mp H
    obtain ⟨⟨t249, t250⟩, A70, H⟩ := H
    replace H : (if t245.toList = t249.toList then (if (t246 != t250) = true then (laws_FnCollation.j0 k l0 true) else (if t246 = true then (if t248 = true then (laws_FnCollation.j0 k l0 (t247.toList != t245.toList)) else (laws_FnCollation.j0 k l0 true)) else (laws_FnCollation.j0 k l0 false))) else (laws_FnCollation.j0 k l0 true)) = some r := H
    have A7 := Aside0.mk A70
    clear A70
    have HC8 := Aside0.mk H
    clear H
    go_enter Tryd.func4, Tryd.ntmps4
    go_upto_region 7 with (first | ((with_reducible refine gate_callee (f := 7) rfl ?_); refine goesL_ (some 27) rfl rfl Tryd.func7 (by kernel_rfl) rfl #[.slice A0 l0.length c0] rfl (by (try simp only [List.map_toArray, List.map_cons, List.map_nil]); first | done | rfl | (simp only [List.length_drop, List.length_take]; rfl)) ?_; (with_reducible refine (laws_vBig.calls _ _ l0 false _ ?side1 ?side2 A2.out).mono ?_); (case side1 => repeat (first | exact HR0.out | (with_reducible refine Kd.C_alloc ?_ _) | (with_reducible refine Kd.C_drewN ?_ _) | (with_reducible refine Kd.C_drew ?_))); (case side2 => exact HC0.out); rintro e w' ⟨rfl, ⟨nd, rfl⟩⟩; refine ⟨_, rfl, ?_⟩) | ((with_reducible refine gate_callee (f := 8) rfl ?_); refine goesL_ (some 29) rfl rfl Tryd.func8 (by kernel_rfl) rfl #[.slice A0 l0.length c0] rfl (by (try simp only [List.map_toArray, List.map_cons, List.map_nil]); first | done | rfl | (simp only [List.length_drop, List.length_take]; rfl)) ?_; (with_reducible refine (spec_DrawFoldText.calls _ _ l0 t244 _ ?side1 ?side2 A4.out).mono ?_); (case side1 => repeat (first | exact HR0.out | (with_reducible refine Kd.C_alloc ?_ _) | (with_reducible refine Kd.C_drewN ?_ _) | (with_reducible refine Kd.C_drew ?_))); (case side2 => exact HC0.out); rintro e w9 ⟨rfl, hb⟩; refine ⟨_, rfl, ?_⟩; have n0_ := Aside0.mk (below_step (by repeat (first | (with_reducible first | exact HB.out | apply below_alloc | apply pw_below_drewN | apply below_drew1) | exact HB.out)) hb); clear HB; have HB := n0_; clear n0_; (try clear hb); (try clear hb2); (try clear hk); (try clear hi)) | ((with_reducible refine gate_callee (f := 9) rfl ?_); refine goesL_ (some 32) rfl rfl Tryd.func9 (by kernel_rfl) rfl #[.string t244] rfl (by (try simp only [List.map_toArray, List.map_cons, List.map_nil]); first | done | rfl | (simp only [List.length_drop, List.length_take]; rfl)) ?_; (with_reducible refine (impl_FoldText.calls t244 t245 t246 _ A5.out).mono ?_); rintro e w10 ⟨rfl, hb⟩; refine ⟨_, rfl, ?_⟩; have n0_ := Aside0.mk (below_step (by repeat (first | (with_reducible first | exact HB.out | apply below_alloc | apply pw_below_drewN | apply below_drew1) | exact HB.out)) hb); clear HB; have HB := n0_; clear n0_; (try clear hb); (try clear hb2); (try clear hk); (try clear hi)) | ((with_reducible refine gate_callee (f := 9) rfl ?_); refine goesL_ (some 37) rfl rfl Tryd.func9 (by kernel_rfl) rfl #[.string t245] rfl (by (try simp only [List.map_toArray, List.map_cons, List.map_nil]); first | done | rfl | (simp only [List.length_drop, List.length_take]; rfl)) ?_; (with_reducible refine (impl_FoldText.calls t245 t247 t248 _ A6.out).mono ?_); rintro e w11 ⟨rfl, hb⟩; refine ⟨_, rfl, ?_⟩; have n0_ := Aside0.mk (below_step (by repeat (first | (with_reducible first | exact HB.out | apply below_alloc | apply pw_below_drewN | apply below_drew1) | exact HB.out)) hb); clear HB; have HB := n0_; clear n0_; (try clear hb); (try clear hb2); (try clear hk); (try clear hi)) | ((with_reducible refine gate_callee (f := 10) rfl ?_); refine goesL_ (some 42) rfl rfl Tryd.func10 (by kernel_rfl) rfl #[.string t244] rfl (by (try simp only [List.map_toArray, List.map_cons, List.map_nil]); first | done | rfl | (simp only [List.length_drop, List.length_take]; rfl)) ?_; (with_reducible refine (spec_FoldText.calls k t244 t249 t250 _ A7.out).mono ?_); rintro e w12 ⟨rfl, hb⟩; refine ⟨_, rfl, ?_⟩; have n0_ := Aside0.mk (below_step (by repeat (first | (with_reducible first | exact HB.out | apply below_alloc | apply pw_below_drewN | apply below_drew1) | exact HB.out)) hb); clear HB; have HB := n0_; clear n0_; (try clear hb); (try clear hb2); (try clear hk); (try clear hi)))
    (try simp only [Act.put, List.setIfInBounds_toArray, List.set_cons_zero, List.set_cons_succ])
    go_cut [64] (fun v64 wc => ∃ (kq : Nat) (x64_7 : Bool), v64 = .bool x64_7 ∧ Aside0 (laws_FnCollation.j0 kq l0 x64_7 = some r) ∧ Aside0 (kq ≤ k) ∧ Aside0 (Below w.heap.size w wc))
    case first =>
      have H := HC8.out
      clear HC8
      by_cases c13 : t245.toList = t249.toList
      · rw [if_pos c13] at H
        have c13b0 : (t245.toList == t249.toList) = true := beq_iff_eq.mpr c13
        have c13b1 : (t245.toList != t249.toList) = false := bne_eq_false_iff_eq.mpr c13
        clear c13
        (first | rw [c13b0] | rw [c13b1] | rw [c13b2] | (simp only [i64_w, i32_w]; rw [c13b0]) | skip)
        by_cases c14 : (t246 != t250) = true
        · rw [if_pos c14] at H
          have c14b0 : (t246 != t250) = true := c14
          (try (have c14b1 : decide (t246 = t250) = false := by simpa using c14))
          (try (have c14b2 : (t246 == t250) = false := by simpa using c14))
          (try (have c14b3 : ¬ (t246 = t250) := by simpa using c14))
          clear c14
          have H' := Aside0.mk H
          clear H
          go_wp2
          go_meet
          case rel => exact ⟨_, (true), (by first | rfl | (simp; done) | (simp [*]; done)), H', ⟨by first | omega | exact Nat.le_refl _⟩, ⟨by repeat (first | (with_reducible first | exact HB.out | apply below_alloc | apply pw_below_drewN | apply below_drew1) | exact HB.out)⟩⟩
        · rw [if_neg c14] at H
          have c14b0 : (t246 != t250) = false := by simpa using c14
          (try (have c14b1 : decide (t246 = t250) = true := by simpa using c14))
          (try (have c14b2 : (t246 == t250) = true := by simpa using c14))
          clear c14
          by_cases c15 : t246 = true
          · subst c15
            have H1 : (if t248 = true then (laws_FnCollation.j0 k l0 (t247.toList != t245.toList)) else (laws_FnCollation.j0 k l0 true)) = some r := by rw [if_pos rfl] at H; exact H
            clear H
            have H := H1
            clear H1
            by_cases c16 : t248 = true
            · subst c16
              have H1 : (laws_FnCollation.j0 k l0 (t247.toList != t245.toList)) = some r := by rw [if_pos rfl] at H; exact H
              clear H
              have H := H1
              clear H1
              have H' := Aside0.mk H
              clear H
              go_wp2
              go_meet
              case rel => exact ⟨_, ((t247.toList != t245.toList)), (by first | rfl | (simp; done) | (simp [*]; done)), H', ⟨by first | omega | exact Nat.le_refl _⟩, ⟨by repeat (first | (with_reducible first | exact HB.out | apply below_alloc | apply pw_below_drewN | apply below_drew1) | exact HB.out)⟩⟩
            · replace c16 := Bool.eq_false_iff.mpr c16
              subst c16
              have H1 : (laws_FnCollation.j0 k l0 true) = some r := by rw [if_neg (show ¬ (false = true) by decide)] at H; exact H
              clear H
              have H := H1
              clear H1
              have H' := Aside0.mk H
              clear H
              go_wp2
              go_meet
              case rel => exact ⟨_, (true), (by first | rfl | (simp; done) | (simp [*]; done)), H', ⟨by first | omega | exact Nat.le_refl _⟩, ⟨by repeat (first | (with_reducible first | exact HB.out | apply below_alloc | apply pw_below_drewN | apply below_drew1) | exact HB.out)⟩⟩
          · replace c15 := Bool.eq_false_iff.mpr c15
            subst c15
            have H1 : (laws_FnCollation.j0 k l0 false) = some r := by rw [if_neg (show ¬ (false = true) by decide)] at H; exact H
            clear H
            have H := H1
            clear H1
            have H' := Aside0.mk H
            clear H
            go_wp2
            go_meet
            case rel => exact ⟨_, (false), (by first | rfl | (simp; done) | (simp [*]; done)), H', ⟨by first | omega | exact Nat.le_refl _⟩, ⟨by repeat (first | (with_reducible first | exact HB.out | apply below_alloc | apply pw_below_drewN | apply below_drew1) | exact HB.out)⟩⟩
      · rw [if_neg c13] at H
        have c13b0 : (t245.toList == t249.toList) = false := beq_eq_false_iff_ne.mpr c13
        have c13b1 : (t245.toList != t249.toList) = true := bne_iff_ne.mpr c13
        (first | rw [c13b0] | rw [c13b1] | rw [c13b2] | (simp only [i64_w, i32_w]; rw [c13b0]) | skip)
        have H' := Aside0.mk H
        clear H
        go_wp2
        go_meet
        case rel => exact ⟨_, (true), (by first | rfl | (simp; done) | (simp [*]; done)), H', ⟨by first | omega | exact Nat.le_refl _⟩, ⟨by repeat (first | (with_reducible first | exact HB.out | apply below_alloc | apply pw_below_drewN | apply below_drew1) | exact HB.out)⟩⟩
    case rest =>
      clear HC8
      try clear c1
      try clear p2
      try clear c3
      try clear c4
      try clear c7
      try clear c8
      try clear c9
      try clear c10
      try clear c13
      try clear c13b0
      try clear c13b1
      try clear c13b2
      try clear c14
      try clear c14b0
      try clear c14b1
      try clear c14b2
      try clear c15
      try clear c16
      obtain ⟨kq, x64_7, rfl, HA, HJ7, HB⟩ := hcut
      cases kq with
      | zero => exact absurd HA.out (by simp [laws_FnCollation.j0])
      | succ kj7 =>
        have H := HA.out
        clear HA
        simp only [laws_FnCollation.j0] at H
        by_cases c17 : x64_7 = true
        · subst c17
          have H1 : (some false) = some r := by rw [if_pos rfl] at H; exact H
          clear H
          have H := H1
          clear H1
          obtain rfl := Option.some.inj H
          go_wp2
          go_ret
          exact ⟨by first | rfl | (simp [errW_none, errW_some] <;> rfl) | (simp [*, errW_none, errW_some] <;> rfl) | (simp [errW_none, errW_some] <;> (apply Bool.eq_iff_iff.2; simp [List.isEmpty_iff])), by repeat (first | (with_reducible first | exact HB.out | apply below_alloc | apply pw_below_drewN | apply below_drew1) | exact HB.out)⟩
        · replace c17 := Bool.eq_false_iff.mpr c17
          subst c17
          have H1 : ((spec_DrawCollateTexts.f l0).bind fun bt251 => ((impl_CollateTexts.f kj7 bt251.1 bt251.2).bind fun bt253 => ((impl_CollateTexts.f kj7 bt251.2 bt251.1).bind fun bt255 => ((spec_CollateTexts.f kj7 bt251.1 bt251.2).bind fun bt257 => (if bt253.1 = bt257.1 then (if (bt253.2 != bt255.2) = true then (laws_FnCollation.j1 kj7 l0 true) else (if bt255.1 = (wrap64 (-bt253.1)) then (if bt253.2 = true then (laws_FnCollation.j1 kj7 l0 ((bt253.1 == 0) != (bt251.1.toList == bt251.2.toList))) else (laws_FnCollation.j1 kj7 l0 false)) else (laws_FnCollation.j1 kj7 l0 true))) else (laws_FnCollation.j1 kj7 l0 true)))))) = some r := by rw [if_neg (show ¬ (false = true) by decide)] at H; exact H
          clear H
          have H := H1
          clear H1
          replace H := Option.bind_eq_some_iff.mp H
          obtain ⟨⟨t251, t252⟩, A180, H⟩ := H
          replace H : ((impl_CollateTexts.f kj7 t251 t252).bind fun bt253 => ((impl_CollateTexts.f kj7 t252 t251).bind fun bt255 => ((spec_CollateTexts.f kj7 t251 t252).bind fun bt257 => (if bt253.1 = bt257.1 then (if (bt253.2 != bt255.2) = true then (laws_FnCollation.j1 kj7 l0 true) else (if bt255.1 = (wrap64 (-bt253.1)) then (if bt253.2 = true then (laws_FnCollation.j1 kj7 l0 ((bt253.1 == 0) != (t251.toList == t252.toList))) else (laws_FnCollation.j1 kj7 l0 false)) else (laws_FnCollation.j1 kj7 l0 true))) else (laws_FnCollation.j1 kj7 l0 true))))) = some r := H
          have A18 := Aside0.mk A180
          clear A180
          replace H := Option.bind_eq_some_iff.mp H
          obtain ⟨⟨t253, t254⟩, A190, H⟩ := H
          replace H : ((impl_CollateTexts.f kj7 t252 t251).bind fun bt255 => ((spec_CollateTexts.f kj7 t251 t252).bind fun bt257 => (if t253 = bt257.1 then (if (t254 != bt255.2) = true then (laws_FnCollation.j1 kj7 l0 true) else (if bt255.1 = (wrap64 (-t253)) then (if t254 = true then (laws_FnCollation.j1 kj7 l0 ((t253 == 0) != (t251.toList == t252.toList))) else (laws_FnCollation.j1 kj7 l0 false)) else (laws_FnCollation.j1 kj7 l0 true))) else (laws_FnCollation.j1 kj7 l0 true)))) = some r := H
          have A19 := Aside0.mk A190
          clear A190
          replace H := Option.bind_eq_some_iff.mp H
          obtain ⟨⟨t255, t256⟩, A200, H⟩ := H
          replace H : ((spec_CollateTexts.f kj7 t251 t252).bind fun bt257 => (if t253 = bt257.1 then (if (t254 != t256) = true then (laws_FnCollation.j1 kj7 l0 true) else (if t255 = (wrap64 (-t253)) then (if t254 = true then (laws_FnCollation.j1 kj7 l0 ((t253 == 0) != (t251.toList == t252.toList))) else (laws_FnCollation.j1 kj7 l0 false)) else (laws_FnCollation.j1 kj7 l0 true))) else (laws_FnCollation.j1 kj7 l0 true))) = some r := H
          have A20 := Aside0.mk A200
          clear A200
          replace H := Option.bind_eq_some_iff.mp H
          obtain ⟨⟨t257, t258⟩, A210, H⟩ := H
          replace H : (if t253 = t257 then (if (t254 != t256) = true then (laws_FnCollation.j1 kj7 l0 true) else (if t255 = (wrap64 (-t253)) then (if t254 = true then (laws_FnCollation.j1 kj7 l0 ((t253 == 0) != (t251.toList == t252.toList))) else (laws_FnCollation.j1 kj7 l0 false)) else (laws_FnCollation.j1 kj7 l0 true))) else (laws_FnCollation.j1 kj7 l0 true)) = some r := H
          have A21 := Aside0.mk A210
          clear A210
          have HC22 := Aside0.mk H
          clear H
          go_upto_region 13 with (first | ((with_reducible refine gate_callee (f := 11) rfl ?_); refine goesL_ (some 67) rfl rfl Tryd.func11 (by kernel_rfl) rfl #[.slice A0 l0.length c0] rfl (by (try simp only [List.map_toArray, List.map_cons, List.map_nil]); first | done | rfl | (simp only [List.length_drop, List.length_take]; rfl)) ?_; (with_reducible refine (spec_DrawCollateTexts.calls _ _ l0 t251 t252 _ ?side1 ?side2 A18.out).mono ?_); (case side1 => repeat (first | exact (Kd.C_below HR0.out HB.out) | (with_reducible refine Kd.C_alloc ?_ _) | (with_reducible refine Kd.C_drewN ?_ _) | (with_reducible refine Kd.C_drew ?_))); (case side2 => exact HC0.out); rintro e w23 ⟨rfl, hb⟩; refine ⟨_, rfl, ?_⟩; have n0_ := Aside0.mk (below_step (by repeat (first | (with_reducible first | exact HB.out | apply below_alloc | apply pw_below_drewN | apply below_drew1) | exact HB.out)) hb); clear HB; have HB := n0_; clear n0_; (try clear hb); (try clear hb2); (try clear hk); (try clear hi)) | ((with_reducible refine gate_callee (f := 12) rfl ?_); refine goesL_ (some 73) rfl rfl Tryd.func12 (by kernel_rfl) rfl #[.string t251, .string t252] rfl (by (try simp only [List.map_toArray, List.map_cons, List.map_nil]); first | done | rfl | (simp only [List.length_drop, List.length_take]; rfl)) ?_; (with_reducible refine (impl_CollateTexts.calls kj7 t251 t252 t253 t254 _ A19.out).mono ?_); rintro e w24 ⟨rfl, hb⟩; refine ⟨_, rfl, ?_⟩; have n0_ := Aside0.mk (below_step (by repeat (first | (with_reducible first | exact HB.out | apply below_alloc | apply pw_below_drewN | apply below_drew1) | exact HB.out)) hb); clear HB; have HB := n0_; clear n0_; (try clear hb); (try clear hb2); (try clear hk); (try clear hi)) | ((with_reducible refine gate_callee (f := 12) rfl ?_); refine goesL_ (some 79) rfl rfl Tryd.func12 (by kernel_rfl) rfl #[.string t252, .string t251] rfl (by (try simp only [List.map_toArray, List.map_cons, List.map_nil]); first | done | rfl | (simp only [List.length_drop, List.length_take]; rfl)) ?_; (with_reducible refine (impl_CollateTexts.calls kj7 t252 t251 t255 t256 _ A20.out).mono ?_); rintro e w25 ⟨rfl, hb⟩; refine ⟨_, rfl, ?_⟩; have n0_ := Aside0.mk (below_step (by repeat (first | (with_reducible first | exact HB.out | apply below_alloc | apply pw_below_drewN | apply below_drew1) | exact HB.out)) hb); clear HB; have HB := n0_; clear n0_; (try clear hb); (try clear hb2); (try clear hk); (try clear hi)) | ((with_reducible refine gate_callee (f := 13) rfl ?_); refine goesL_ (some 85) rfl rfl Tryd.func13 (by kernel_rfl) rfl #[.string t251, .string t252] rfl (by (try simp only [List.map_toArray, List.map_cons, List.map_nil]); first | done | rfl | (simp only [List.length_drop, List.length_take]; rfl)) ?_; (with_reducible refine (spec_CollateTexts.calls kj7 t251 t252 t257 t258 _ A21.out).mono ?_); rintro e w26 ⟨rfl, hb⟩; refine ⟨_, rfl, ?_⟩; have n0_ := Aside0.mk (below_step (by repeat (first | (with_reducible first | exact HB.out | apply below_alloc | apply pw_below_drewN | apply below_drew1) | exact HB.out)) hb); clear HB; have HB := n0_; clear n0_; (try clear hb); (try clear hb2); (try clear hk); (try clear hi)))
          (try simp only [Act.put, List.setIfInBounds_toArray, List.set_cons_zero, List.set_cons_succ])
          go_cut [112] (fun v112 wc => ∃ (kq : Nat) (x112_21 : Bool), v112 = .bool x112_21 ∧ Aside0 (laws_FnCollation.j1 kq l0 x112_21 = some r) ∧ Aside0 (kq ≤ kj7) ∧ Aside0 (Below w.heap.size w wc))
          case first =>
            have H := HC22.out
            clear HC22
            by_cases c27 : t253 = t257
            · rw [if_pos c27] at H
              have c27b0 : (t253 == t257) = true := beq_iff_eq.mpr c27
              have c27b1 : (t253 != t257) = false := bne_eq_false_iff_eq.mpr c27
              clear c27
              (first | rw [c27b0] | rw [c27b1] | rw [c27b2] | (simp only [i64_w, i32_w]; rw [c27b0]) | skip)
              by_cases c28 : (t254 != t256) = true
              · rw [if_pos c28] at H
                have c28b0 : (t254 != t256) = true := c28
                (try (have c28b1 : decide (t254 = t256) = false := by simpa using c28))
                (try (have c28b2 : (t254 == t256) = false := by simpa using c28))
                (try (have c28b3 : ¬ (t254 = t256) := by simpa using c28))
                clear c28
                have H' := Aside0.mk H
                clear H
                go_wp2
                go_meet
                case rel => exact ⟨_, (true), (by first | rfl | (simp; done) | (simp [*]; done)), H', ⟨by have := HJ7.out; first | omega | exact Nat.le_refl _⟩, ⟨by repeat (first | (with_reducible first | exact HB.out | apply below_alloc | apply pw_below_drewN | apply below_drew1) | exact HB.out)⟩⟩
              · rw [if_neg c28] at H
                have c28b0 : (t254 != t256) = false := by simpa using c28
                (try (have c28b1 : decide (t254 = t256) = true := by simpa using c28))
                (try (have c28b2 : (t254 == t256) = true := by simpa using c28))
                clear c28
                by_cases c29 : t255 = (wrap64 (-t253))
                · rw [if_pos c29] at H
                  have c29b0 : (t255 == (wrap64 (-t253))) = true := beq_iff_eq.mpr c29
                  have c29b1 : (t255 != (wrap64 (-t253))) = false := bne_eq_false_iff_eq.mpr c29
                  clear c29
                  by_cases c30 : t254 = true
                  · subst c30
                    have H1 : (laws_FnCollation.j1 kj7 l0 ((t253 == 0) != (t251.toList == t252.toList))) = some r := by rw [if_pos rfl] at H; exact H
                    clear H
                    have H := H1
                    clear H1
                    have H' := Aside0.mk H
                    clear H
                    go_wp2
                    go_meet
                    case rel => exact ⟨_, (((t253 == 0) != (t251.toList == t252.toList))), (by first | rfl | (simp; done) | (simp [*]; done)), H', ⟨by have := HJ7.out; first | omega | exact Nat.le_refl _⟩, ⟨by repeat (first | (with_reducible first | exact HB.out | apply below_alloc | apply pw_below_drewN | apply below_drew1) | exact HB.out)⟩⟩
                  · replace c30 := Bool.eq_false_iff.mpr c30
                    subst c30
                    have H1 : (laws_FnCollation.j1 kj7 l0 false) = some r := by rw [if_neg (show ¬ (false = true) by decide)] at H; exact H
                    clear H
                    have H := H1
                    clear H1
                    have H' := Aside0.mk H
                    clear H
                    go_wp2
                    go_meet
                    case rel => exact ⟨_, (false), (by first | rfl | (simp; done) | (simp [*]; done)), H', ⟨by have := HJ7.out; first | omega | exact Nat.le_refl _⟩, ⟨by repeat (first | (with_reducible first | exact HB.out | apply below_alloc | apply pw_below_drewN | apply below_drew1) | exact HB.out)⟩⟩
                · rw [if_neg c29] at H
                  have c29b0 : (t255 == (wrap64 (-t253))) = false := beq_eq_false_iff_ne.mpr c29
                  have c29b1 : (t255 != (wrap64 (-t253))) = true := bne_iff_ne.mpr c29
                  have H' := Aside0.mk H
                  clear H
                  go_wp2
                  go_meet
                  case rel => exact ⟨_, (true), (by first | rfl | (simp; done) | (simp [*]; done)), H', ⟨by have := HJ7.out; first | omega | exact Nat.le_refl _⟩, ⟨by repeat (first | (with_reducible first | exact HB.out | apply below_alloc | apply pw_below_drewN | apply below_drew1) | exact HB.out)⟩⟩
            · rw [if_neg c27] at H
              have c27b0 : (t253 == t257) = false := beq_eq_false_iff_ne.mpr c27
              have c27b1 : (t253 != t257) = true := bne_iff_ne.mpr c27
              (first | rw [c27b0] | rw [c27b1] | rw [c27b2] | (simp only [i64_w, i32_w]; rw [c27b0]) | skip)
              have H' := Aside0.mk H
              clear H
              go_wp2
              go_meet
              case rel => exact ⟨_, (true), (by first | rfl | (simp; done) | (simp [*]; done)), H', ⟨by have := HJ7.out; first | omega | exact Nat.le_refl _⟩, ⟨by repeat (first | (with_reducible first | exact HB.out | apply below_alloc | apply pw_below_drewN | apply below_drew1) | exact HB.out)⟩⟩
          case rest =>
            clear HC22
            try clear c1
            try clear c2
            try clear p2
            try clear c3
            try clear c4
            try clear p6
            try clear c7
            try clear c8
            try clear c9
            try clear c10
            try clear c11
            try clear c12
            try clear c13
            try clear c13b0
            try clear c13b1
            try clear c13b2
            try clear c14
            try clear c14b0
            try clear c14b1
            try clear c14b2
            try clear c15
            try clear c16
            try clear c17
            try clear c27
            try clear c27b0
            try clear c27b1
            try clear c27b2
            try clear c28
            try clear c28b0
            try clear c28b1
            try clear c28b2
            try clear c29
            try clear c29b0
            try clear c29b1
            try clear c30
            try clear p2
            obtain ⟨kq, x112_21, rfl, HA, HJ21, HB⟩ := hcut
            cases kq with
            | zero => exact absurd HA.out (by simp [laws_FnCollation.j1])
            | succ kj21 =>
              have H := HA.out
              clear HA
              simp only [laws_FnCollation.j1] at H
              by_cases c31 : x112_21 = true
              · subst c31
                have H1 : (some false) = some r := by rw [if_pos rfl] at H; exact H
                clear H
                have H := H1
                clear H1
                obtain rfl := Option.some.inj H
                go_wp2
                go_ret
                exact ⟨by first | rfl | (simp [errW_none, errW_some] <;> rfl) | (simp [*, errW_none, errW_some] <;> rfl) | (simp [errW_none, errW_some] <;> (apply Bool.eq_iff_iff.2; simp [List.isEmpty_iff])), by repeat (first | (with_reducible first | exact HB.out | apply below_alloc | apply pw_below_drewN | apply below_drew1) | exact HB.out)⟩
              · replace c31 := Bool.eq_false_iff.mpr c31
                subst c31
                have H1 : ((spec_DrawNaturalCompare.f l0).bind fun bt259 => ((impl_NaturalCompare.f bt259.1 bt259.2).bind fun bt261 => ((impl_NaturalCompare.f bt259.2 bt259.1).bind fun bt263 => ((spec_NaturalCompare.f kj21 bt259.1 bt259.2).bind fun bt265 => (if bt261.1 = bt265.1 then (if (bt261.2 == bt265.2) = true then (if (bt263.2 == bt261.2) = true then (if bt263.1 = (wrap64 (-bt261.1)) then (if bt261.2 = true then (some ((bt261.1 == 0) == (bt259.1.toList == bt259.2.toList))) else (some true)) else (some false)) else (some false)) else (some false)) else (some false)))))) = some r := by rw [if_neg (show ¬ (false = true) by decide)] at H; exact H
                clear H
                have H := H1
                clear H1
                replace H := Option.bind_eq_some_iff.mp H
                obtain ⟨⟨t259, t260⟩, A320, H⟩ := H
                replace H : ((impl_NaturalCompare.f t259 t260).bind fun bt261 => ((impl_NaturalCompare.f t260 t259).bind fun bt263 => ((spec_NaturalCompare.f kj21 t259 t260).bind fun bt265 => (if bt261.1 = bt265.1 then (if (bt261.2 == bt265.2) = true then (if (bt263.2 == bt261.2) = true then (if bt263.1 = (wrap64 (-bt261.1)) then (if bt261.2 = true then (some ((bt261.1 == 0) == (t259.toList == t260.toList))) else (some true)) else (some false)) else (some false)) else (some false)) else (some false))))) = some r := H
                have A32 := Aside0.mk A320
                clear A320
                replace H := Option.bind_eq_some_iff.mp H
                obtain ⟨⟨t261, t262⟩, A330, H⟩ := H
                replace H : ((impl_NaturalCompare.f t260 t259).bind fun bt263 => ((spec_NaturalCompare.f kj21 t259 t260).bind fun bt265 => (if t261 = bt265.1 then (if (t262 == bt265.2) = true then (if (bt263.2 == t262) = true then (if bt263.1 = (wrap64 (-t261)) then (if t262 = true then (some ((t261 == 0) == (t259.toList == t260.toList))) else (some true)) else (some false)) else (some false)) else (some false)) else (some false)))) = some r := H
                have A33 := Aside0.mk A330
                clear A330
                replace H := Option.bind_eq_some_iff.mp H
                obtain ⟨⟨t263, t264⟩, A340, H⟩ := H
                replace H : ((spec_NaturalCompare.f kj21 t259 t260).bind fun bt265 => (if t261 = bt265.1 then (if (t262 == bt265.2) = true then (if (t264 == t262) = true then (if t263 = (wrap64 (-t261)) then (if t262 = true then (some ((t261 == 0) == (t259.toList == t260.toList))) else (some true)) else (some false)) else (some false)) else (some false)) else (some false))) = some r := H
                have A34 := Aside0.mk A340
                clear A340
                replace H := Option.bind_eq_some_iff.mp H
                obtain ⟨⟨t265, t266⟩, A350, H⟩ := H
                replace H : (if t261 = t265 then (if (t262 == t266) = true then (if (t264 == t262) = true then (if t263 = (wrap64 (-t261)) then (if t262 = true then (some ((t261 == 0) == (t259.toList == t260.toList))) else (some true)) else (some false)) else (some false)) else (some false)) else (some false)) = some r := H
                have A35 := Aside0.mk A350
                clear A350
                by_cases c36 : t261 = t265
                · rw [if_pos c36] at H
                  have c36b0 : (t261 == t265) = true := beq_iff_eq.mpr c36
                  have c36b1 : (t261 != t265) = false := bne_eq_false_iff_eq.mpr c36
                  clear c36
                  by_cases c37 : (t262 == t266) = true
                  · rw [if_pos c37] at H
                    have c37b0 : (t262 == t266) = true := c37
                    (try (have c37b1 : decide (t262 = t266) = true := by simpa using c37))
                    (try (have c37b2 : (t262 == t266) = true := by simpa using c37))
                    clear c37
                    by_cases c38 : (t264 == t262) = true
                    · rw [if_pos c38] at H
                      have c38b0 : (t264 == t262) = true := c38
                      (try (have c38b1 : decide (t264 = t262) = true := by simpa using c38))
                      (try (have c38b2 : (t264 == t262) = true := by simpa using c38))
                      clear c38
                      by_cases c39 : t263 = (wrap64 (-t261))
                      · rw [if_pos c39] at H
                        have c39b0 : (t263 == (wrap64 (-t261))) = true := beq_iff_eq.mpr c39
                        have c39b1 : (t263 != (wrap64 (-t261))) = false := bne_eq_false_iff_eq.mpr c39
                        clear c39
                        by_cases c40 : t262 = true
                        · subst c40
                          have H1 : (some ((t261 == 0) == (t259.toList == t260.toList))) = some r := by rw [if_pos rfl] at H; exact H
                          clear H
                          have H := H1
                          clear H1
                          obtain rfl := Option.some.inj H
                          go_wp2_with (first | ((with_reducible refine gate_callee (f := 14) rfl ?_); refine goesL_ (some 115) rfl rfl Tryd.func14 (by kernel_rfl) rfl #[.slice A0 l0.length c0] rfl (by (try simp only [List.map_toArray, List.map_cons, List.map_nil]); first | done | rfl | (simp only [List.length_drop, List.length_take]; rfl)) ?_; (with_reducible refine (spec_DrawNaturalCompare.calls _ _ l0 t259 t260 _ ?side1 ?side2 A32.out).mono ?_); (case side1 => repeat (first | exact (Kd.C_below HR0.out HB.out) | (with_reducible refine Kd.C_alloc ?_ _) | (with_reducible refine Kd.C_drewN ?_ _) | (with_reducible refine Kd.C_drew ?_))); (case side2 => exact HC0.out); rintro e w41 ⟨rfl, hb⟩; refine ⟨_, rfl, ?_⟩; have n0_ := Aside0.mk (below_step (by repeat (first | (with_reducible first | exact HB.out | apply below_alloc | apply pw_below_drewN | apply below_drew1) | exact HB.out)) hb); clear HB; have HB := n0_; clear n0_; (try clear hb); (try clear hb2); (try clear hk); (try clear hi)) | ((with_reducible refine gate_callee (f := 6) rfl ?_); refine goesL_ (some 121) rfl rfl Tryd.func6 (by kernel_rfl) rfl #[.string t259, .string t260] rfl (by (try simp only [List.map_toArray, List.map_cons, List.map_nil]); first | done | rfl | (simp only [List.length_drop, List.length_take]; rfl)) ?_; (with_reducible refine (impl_NaturalCompare.calls t259 t260 t261 true _ A33.out).mono ?_); rintro e w42 ⟨rfl, hb⟩; refine ⟨_, rfl, ?_⟩; have n0_ := Aside0.mk (below_step (by repeat (first | (with_reducible first | exact HB.out | apply below_alloc | apply pw_below_drewN | apply below_drew1) | exact HB.out)) hb); clear HB; have HB := n0_; clear n0_; (try clear hb); (try clear hb2); (try clear hk); (try clear hi)) | ((with_reducible refine gate_callee (f := 6) rfl ?_); refine goesL_ (some 127) rfl rfl Tryd.func6 (by kernel_rfl) rfl #[.string t260, .string t259] rfl (by (try simp only [List.map_toArray, List.map_cons, List.map_nil]); first | done | rfl | (simp only [List.length_drop, List.length_take]; rfl)) ?_; (with_reducible refine (impl_NaturalCompare.calls t260 t259 t263 t264 _ A34.out).mono ?_); rintro e w43 ⟨rfl, hb⟩; refine ⟨_, rfl, ?_⟩; have n0_ := Aside0.mk (below_step (by repeat (first | (with_reducible first | exact HB.out | apply below_alloc | apply pw_below_drewN | apply below_drew1) | exact HB.out)) hb); clear HB; have HB := n0_; clear n0_; (try clear hb); (try clear hb2); (try clear hk); (try clear hi)) | ((with_reducible refine gate_callee (f := 5) rfl ?_); refine goesL_ (some 133) rfl rfl Tryd.func5 (by kernel_rfl) rfl #[.string t259, .string t260] rfl (by (try simp only [List.map_toArray, List.map_cons, List.map_nil]); first | done | rfl | (simp only [List.length_drop, List.length_take]; rfl)) ?_; (with_reducible refine (spec_NaturalCompare.calls kj21 t259 t260 t265 t266 _ A35.out).mono ?_); rintro e w44 ⟨rfl, hb⟩; refine ⟨_, rfl, ?_⟩; have n0_ := Aside0.mk (below_step (by repeat (first | (with_reducible first | exact HB.out | apply below_alloc | apply pw_below_drewN | apply below_drew1) | exact HB.out)) hb); clear HB; have HB := n0_; clear n0_; (try clear hb); (try clear hb2); (try clear hk); (try clear hi)))
                          go_ret
                          exact ⟨by first | rfl | (simp [errW_none, errW_some] <;> rfl) | (simp [*, errW_none, errW_some] <;> rfl) | (simp [errW_none, errW_some] <;> (apply Bool.eq_iff_iff.2; simp [List.isEmpty_iff])), by repeat (first | (with_reducible first | exact HB.out | apply below_alloc | apply pw_below_drewN | apply below_drew1) | exact HB.out)⟩
                        · replace c40 := Bool.eq_false_iff.mpr c40
                          subst c40
                          have H1 : (some true) = some r := by rw [if_neg (show ¬ (false = true) by decide)] at H; exact H
                          clear H
                          have H := H1
                          clear H1
                          obtain rfl := Option.some.inj H
                          go_wp2_with (first | ((with_reducible refine gate_callee (f := 14) rfl ?_); refine goesL_ (some 115) rfl rfl Tryd.func14 (by kernel_rfl) rfl #[.slice A0 l0.length c0] rfl (by (try simp only [List.map_toArray, List.map_cons, List.map_nil]); first | done | rfl | (simp only [List.length_drop, List.length_take]; rfl)) ?_; (with_reducible refine (spec_DrawNaturalCompare.calls _ _ l0 t259 t260 _ ?side1 ?side2 A32.out).mono ?_); (case side1 => repeat (first | exact (Kd.C_below HR0.out HB.out) | (with_reducible refine Kd.C_alloc ?_ _) | (with_reducible refine Kd.C_drewN ?_ _) | (with_reducible refine Kd.C_drew ?_))); (case side2 => exact HC0.out); rintro e w45 ⟨rfl, hb⟩; refine ⟨_, rfl, ?_⟩; have n0_ := Aside0.mk (below_step (by repeat (first | (with_reducible first | exact HB.out | apply below_alloc | apply pw_below_drewN | apply below_drew1) | exact HB.out)) hb); clear HB; have HB := n0_; clear n0_; (try clear hb); (try clear hb2); (try clear hk); (try clear hi)) | ((with_reducible refine gate_callee (f := 6) rfl ?_); refine goesL_ (some 121) rfl rfl Tryd.func6 (by kernel_rfl) rfl #[.string t259, .string t260] rfl (by (try simp only [List.map_toArray, List.map_cons, List.map_nil]); first | done | rfl | (simp only [List.length_drop, List.length_take]; rfl)) ?_; (with_reducible refine (impl_NaturalCompare.calls t259 t260 t261 false _ A33.out).mono ?_); rintro e w46 ⟨rfl, hb⟩; refine ⟨_, rfl, ?_⟩; have n0_ := Aside0.mk (below_step (by repeat (first | (with_reducible first | exact HB.out | apply below_alloc | apply pw_below_drewN | apply below_drew1) | exact HB.out)) hb); clear HB; have HB := n0_; clear n0_; (try clear hb); (try clear hb2); (try clear hk); (try clear hi)) | ((with_reducible refine gate_callee (f := 6) rfl ?_); refine goesL_ (some 127) rfl rfl Tryd.func6 (by kernel_rfl) rfl #[.string t260, .string t259] rfl (by (try simp only [List.map_toArray, List.map_cons, List.map_nil]); first | done | rfl | (simp only [List.length_drop, List.length_take]; rfl)) ?_; (with_reducible refine (impl_NaturalCompare.calls t260 t259 t263 t264 _ A34.out).mono ?_); rintro e w47 ⟨rfl, hb⟩; refine ⟨_, rfl, ?_⟩; have n0_ := Aside0.mk (below_step (by repeat (first | (with_reducible first | exact HB.out | apply below_alloc | apply pw_below_drewN | apply below_drew1) | exact HB.out)) hb); clear HB; have HB := n0_; clear n0_; (try clear hb); (try clear hb2); (try clear hk); (try clear hi)) | ((with_reducible refine gate_callee (f := 5) rfl ?_); refine goesL_ (some 133) rfl rfl Tryd.func5 (by kernel_rfl) rfl #[.string t259, .string t260] rfl (by (try simp only [List.map_toArray, List.map_cons, List.map_nil]); first | done | rfl | (simp only [List.length_drop, List.length_take]; rfl)) ?_; (with_reducible refine (spec_NaturalCompare.calls kj21 t259 t260 t265 t266 _ A35.out).mono ?_); rintro e w48 ⟨rfl, hb⟩; refine ⟨_, rfl, ?_⟩; have n0_ := Aside0.mk (below_step (by repeat (first | (with_reducible first | exact HB.out | apply below_alloc | apply pw_below_drewN | apply below_drew1) | exact HB.out)) hb); clear HB; have HB := n0_; clear n0_; (try clear hb); (try clear hb2); (try clear hk); (try clear hi)))
                          go_ret
                          exact ⟨by first | rfl | (simp [errW_none, errW_some] <;> rfl) | (simp [*, errW_none, errW_some] <;> rfl) | (simp [errW_none, errW_some] <;> (apply Bool.eq_iff_iff.2; simp [List.isEmpty_iff])), by repeat (first | (with_reducible first | exact HB.out | apply below_alloc | apply pw_below_drewN | apply below_drew1) | exact HB.out)⟩
                      · rw [if_neg c39] at H
                        have c39b0 : (t263 == (wrap64 (-t261))) = false := beq_eq_false_iff_ne.mpr c39
                        have c39b1 : (t263 != (wrap64 (-t261))) = true := bne_iff_ne.mpr c39
                        obtain rfl := Option.some.inj H
                        go_wp2_with (first | ((with_reducible refine gate_callee (f := 14) rfl ?_); refine goesL_ (some 115) rfl rfl Tryd.func14 (by kernel_rfl) rfl #[.slice A0 l0.length c0] rfl (by (try simp only [List.map_toArray, List.map_cons, List.map_nil]); first | done | rfl | (simp only [List.length_drop, List.length_take]; rfl)) ?_; (with_reducible refine (spec_DrawNaturalCompare.calls _ _ l0 t259 t260 _ ?side1 ?side2 A32.out).mono ?_); (case side1 => repeat (first | exact (Kd.C_below HR0.out HB.out) | (with_reducible refine Kd.C_alloc ?_ _) | (with_reducible refine Kd.C_drewN ?_ _) | (with_reducible refine Kd.C_drew ?_))); (case side2 => exact HC0.out); rintro e w49 ⟨rfl, hb⟩; refine ⟨_, rfl, ?_⟩; have n0_ := Aside0.mk (below_step (by repeat (first | (with_reducible first | exact HB.out | apply below_alloc | apply pw_below_drewN | apply below_drew1) | exact HB.out)) hb); clear HB; have HB := n0_; clear n0_; (try clear hb); (try clear hb2); (try clear hk); (try clear hi)) | ((with_reducible refine gate_callee (f := 6) rfl ?_); refine goesL_ (some 121) rfl rfl Tryd.func6 (by kernel_rfl) rfl #[.string t259, .string t260] rfl (by (try simp only [List.map_toArray, List.map_cons, List.map_nil]); first | done | rfl | (simp only [List.length_drop, List.length_take]; rfl)) ?_; (with_reducible refine (impl_NaturalCompare.calls t259 t260 t261 t262 _ A33.out).mono ?_); rintro e w50 ⟨rfl, hb⟩; refine ⟨_, rfl, ?_⟩; have n0_ := Aside0.mk (below_step (by repeat (first | (with_reducible first | exact HB.out | apply below_alloc | apply pw_below_drewN | apply below_drew1) | exact HB.out)) hb); clear HB; have HB := n0_; clear n0_; (try clear hb); (try clear hb2); (try clear hk); (try clear hi)) | ((with_reducible refine gate_callee (f := 6) rfl ?_); refine goesL_ (some 127) rfl rfl Tryd.func6 (by kernel_rfl) rfl #[.string t260, .string t259] rfl (by (try simp only [List.map_toArray, List.map_cons, List.map_nil]); first | done | rfl | (simp only [List.length_drop, List.length_take]; rfl)) ?_; (with_reducible refine (impl_NaturalCompare.calls t260 t259 t263 t264 _ A34.out).mono ?_); rintro e w51 ⟨rfl, hb⟩; refine ⟨_, rfl, ?_⟩; have n0_ := Aside0.mk (below_step (by repeat (first | (with_reducible first | exact HB.out | apply below_alloc | apply pw_below_drewN | apply below_drew1) | exact HB.out)) hb); clear HB; have HB := n0_; clear n0_; (try clear hb); (try clear hb2); (try clear hk); (try clear hi)) | ((with_reducible refine gate_callee (f := 5) rfl ?_); refine goesL_ (some 133) rfl rfl Tryd.func5 (by kernel_rfl) rfl #[.string t259, .string t260] rfl (by (try simp only [List.map_toArray, List.map_cons, List.map_nil]); first | done | rfl | (simp only [List.length_drop, List.length_take]; rfl)) ?_; (with_reducible refine (spec_NaturalCompare.calls kj21 t259 t260 t265 t266 _ A35.out).mono ?_); rintro e w52 ⟨rfl, hb⟩; refine ⟨_, rfl, ?_⟩; have n0_ := Aside0.mk (below_step (by repeat (first | (with_reducible first | exact HB.out | apply below_alloc | apply pw_below_drewN | apply below_drew1) | exact HB.out)) hb); clear HB; have HB := n0_; clear n0_; (try clear hb); (try clear hb2); (try clear hk); (try clear hi)))
                        go_ret
                        exact ⟨by first | rfl | (simp [errW_none, errW_some] <;> rfl) | (simp [*, errW_none, errW_some] <;> rfl) | (simp [errW_none, errW_some] <;> (apply Bool.eq_iff_iff.2; simp [List.isEmpty_iff])), by repeat (first | (with_reducible first | exact HB.out | apply below_alloc | apply pw_below_drewN | apply below_drew1) | exact HB.out)⟩
                    · rw [if_neg c38] at H
                      have c38b0 : (t264 == t262) = false := by simpa using c38
                      (try (have c38b1 : decide (t264 = t262) = false := by simpa using c38))
                      (try (have c38b2 : (t264 == t262) = false := by simpa using c38))
                      (try (have c38b3 : ¬ (t264 = t262) := by simpa using c38))
                      clear c38
                      obtain rfl := Option.some.inj H
                      go_wp2_with (first | ((with_reducible refine gate_callee (f := 14) rfl ?_); refine goesL_ (some 115) rfl rfl Tryd.func14 (by kernel_rfl) rfl #[.slice A0 l0.length c0] rfl (by (try simp only [List.map_toArray, List.map_cons, List.map_nil]); first | done | rfl | (simp only [List.length_drop, List.length_take]; rfl)) ?_; (with_reducible refine (spec_DrawNaturalCompare.calls _ _ l0 t259 t260 _ ?side1 ?side2 A32.out).mono ?_); (case side1 => repeat (first | exact (Kd.C_below HR0.out HB.out) | (with_reducible refine Kd.C_alloc ?_ _) | (with_reducible refine Kd.C_drewN ?_ _) | (with_reducible refine Kd.C_drew ?_))); (case side2 => exact HC0.out); rintro e w53 ⟨rfl, hb⟩; refine ⟨_, rfl, ?_⟩; have n0_ := Aside0.mk (below_step (by repeat (first | (with_reducible first | exact HB.out | apply below_alloc | apply pw_below_drewN | apply below_drew1) | exact HB.out)) hb); clear HB; have HB := n0_; clear n0_; (try clear hb); (try clear hb2); (try clear hk); (try clear hi)) | ((with_reducible refine gate_callee (f := 6) rfl ?_); refine goesL_ (some 121) rfl rfl Tryd.func6 (by kernel_rfl) rfl #[.string t259, .string t260] rfl (by (try simp only [List.map_toArray, List.map_cons, List.map_nil]); first | done | rfl | (simp only [List.length_drop, List.length_take]; rfl)) ?_; (with_reducible refine (impl_NaturalCompare.calls t259 t260 t261 t262 _ A33.out).mono ?_); rintro e w54 ⟨rfl, hb⟩; refine ⟨_, rfl, ?_⟩; have n0_ := Aside0.mk (below_step (by repeat (first | (with_reducible first | exact HB.out | apply below_alloc | apply pw_below_drewN | apply below_drew1) | exact HB.out)) hb); clear HB; have HB := n0_; clear n0_; (try clear hb); (try clear hb2); (try clear hk); (try clear hi)) | ((with_reducible refine gate_callee (f := 6) rfl ?_); refine goesL_ (some 127) rfl rfl Tryd.func6 (by kernel_rfl) rfl #[.string t260, .string t259] rfl (by (try simp only [List.map_toArray, List.map_cons, List.map_nil]); first | done | rfl | (simp only [List.length_drop, List.length_take]; rfl)) ?_; (with_reducible refine (impl_NaturalCompare.calls t260 t259 t263 t264 _ A34.out).mono ?_); rintro e w55 ⟨rfl, hb⟩; refine ⟨_, rfl, ?_⟩; have n0_ := Aside0.mk (below_step (by repeat (first | (with_reducible first | exact HB.out | apply below_alloc | apply pw_below_drewN | apply below_drew1) | exact HB.out)) hb); clear HB; have HB := n0_; clear n0_; (try clear hb); (try clear hb2); (try clear hk); (try clear hi)) | ((with_reducible refine gate_callee (f := 5) rfl ?_); refine goesL_ (some 133) rfl rfl Tryd.func5 (by kernel_rfl) rfl #[.string t259, .string t260] rfl (by (try simp only [List.map_toArray, List.map_cons, List.map_nil]); first | done | rfl | (simp only [List.length_drop, List.length_take]; rfl)) ?_; (with_reducible refine (spec_NaturalCompare.calls kj21 t259 t260 t265 t266 _ A35.out).mono ?_); rintro e w56 ⟨rfl, hb⟩; refine ⟨_, rfl, ?_⟩; have n0_ := Aside0.mk (below_step (by repeat (first | (with_reducible first | exact HB.out | apply below_alloc | apply pw_below_drewN | apply below_drew1) | exact HB.out)) hb); clear HB; have HB := n0_; clear n0_; (try clear hb); (try clear hb2); (try clear hk); (try clear hi)))
                      go_ret
                      exact ⟨by first | rfl | (simp [errW_none, errW_some] <;> rfl) | (simp [*, errW_none, errW_some] <;> rfl) | (simp [errW_none, errW_some] <;> (apply Bool.eq_iff_iff.2; simp [List.isEmpty_iff])), by repeat (first | (with_reducible first | exact HB.out | apply below_alloc | apply pw_below_drewN | apply below_drew1) | exact HB.out)⟩
                  · rw [if_neg c37] at H
                    have c37b0 : (t262 == t266) = false := by simpa using c37
                    (try (have c37b1 : decide (t262 = t266) = false := by simpa using c37))
                    (try (have c37b2 : (t262 == t266) = false := by simpa using c37))
                    (try (have c37b3 : ¬ (t262 = t266) := by simpa using c37))
                    clear c37
                    obtain rfl := Option.some.inj H
                    go_wp2_with (first | ((with_reducible refine gate_callee (f := 14) rfl ?_); refine goesL_ (some 115) rfl rfl Tryd.func14 (by kernel_rfl) rfl #[.slice A0 l0.length c0] rfl (by (try simp only [List.map_toArray, List.map_cons, List.map_nil]); first | done | rfl | (simp only [List.length_drop, List.length_take]; rfl)) ?_; (with_reducible refine (spec_DrawNaturalCompare.calls _ _ l0 t259 t260 _ ?side1 ?side2 A32.out).mono ?_); (case side1 => repeat (first | exact (Kd.C_below HR0.out HB.out) | (with_reducible refine Kd.C_alloc ?_ _) | (with_reducible refine Kd.C_drewN ?_ _) | (with_reducible refine Kd.C_drew ?_))); (case side2 => exact HC0.out); rintro e w57 ⟨rfl, hb⟩; refine ⟨_, rfl, ?_⟩; have n0_ := Aside0.mk (below_step (by repeat (first | (with_reducible first | exact HB.out | apply below_alloc | apply pw_below_drewN | apply below_drew1) | exact HB.out)) hb); clear HB; have HB := n0_; clear n0_; (try clear hb); (try clear hb2); (try clear hk); (try clear hi)) | ((with_reducible refine gate_callee (f := 6) rfl ?_); refine goesL_ (some 121) rfl rfl Tryd.func6 (by kernel_rfl) rfl #[.string t259, .string t260] rfl (by (try simp only [List.map_toArray, List.map_cons, List.map_nil]); first | done | rfl | (simp only [List.length_drop, List.length_take]; rfl)) ?_; (with_reducible refine (impl_NaturalCompare.calls t259 t260 t261 t262 _ A33.out).mono ?_); rintro e w58 ⟨rfl, hb⟩; refine ⟨_, rfl, ?_⟩; have n0_ := Aside0.mk (below_step (by repeat (first | (with_reducible first | exact HB.out | apply below_alloc | apply pw_below_drewN | apply below_drew1) | exact HB.out)) hb); clear HB; have HB := n0_; clear n0_; (try clear hb); (try clear hb2); (try clear hk); (try clear hi)) | ((with_reducible refine gate_callee (f := 6) rfl ?_); refine goesL_ (some 127) rfl rfl Tryd.func6 (by kernel_rfl) rfl #[.string t260, .string t259] rfl (by (try simp only [List.map_toArray, List.map_cons, List.map_nil]); first | done | rfl | (simp only [List.length_drop, List.length_take]; rfl)) ?_; (with_reducible refine (impl_NaturalCompare.calls t260 t259 t263 t264 _ A34.out).mono ?_); rintro e w59 ⟨rfl, hb⟩; refine ⟨_, rfl, ?_⟩; have n0_ := Aside0.mk (below_step (by repeat (first | (with_reducible first | exact HB.out | apply below_alloc | apply pw_below_drewN | apply below_drew1) | exact HB.out)) hb); clear HB; have HB := n0_; clear n0_; (try clear hb); (try clear hb2); (try clear hk); (try clear hi)) | ((with_reducible refine gate_callee (f := 5) rfl ?_); refine goesL_ (some 133) rfl rfl Tryd.func5 (by kernel_rfl) rfl #[.string t259, .string t260] rfl (by (try simp only [List.map_toArray, List.map_cons, List.map_nil]); first | done | rfl | (simp only [List.length_drop, List.length_take]; rfl)) ?_; (with_reducible refine (spec_NaturalCompare.calls kj21 t259 t260 t265 t266 _ A35.out).mono ?_); rintro e w60 ⟨rfl, hb⟩; refine ⟨_, rfl, ?_⟩; have n0_ := Aside0.mk (below_step (by repeat (first | (with_reducible first | exact HB.out | apply below_alloc | apply pw_below_drewN | apply below_drew1) | exact HB.out)) hb); clear HB; have HB := n0_; clear n0_; (try clear hb); (try clear hb2); (try clear hk); (try clear hi)))
                    go_ret
                    exact ⟨by first | rfl | (simp [errW_none, errW_some] <;> rfl) | (simp [*, errW_none, errW_some] <;> rfl) | (simp [errW_none, errW_some] <;> (apply Bool.eq_iff_iff.2; simp [List.isEmpty_iff])), by repeat (first | (with_reducible first | exact HB.out | apply below_alloc | apply pw_below_drewN | apply below_drew1) | exact HB.out)⟩
                · rw [if_neg c36] at H
                  have c36b0 : (t261 == t265) = false := beq_eq_false_iff_ne.mpr c36
                  have c36b1 : (t261 != t265) = true := bne_iff_ne.mpr c36
                  obtain rfl := Option.some.inj H
                  go_wp2_with (first | ((with_reducible refine gate_callee (f := 14) rfl ?_); refine goesL_ (some 115) rfl rfl Tryd.func14 (by kernel_rfl) rfl #[.slice A0 l0.length c0] rfl (by (try simp only [List.map_toArray, List.map_cons, List.map_nil]); first | done | rfl | (simp only [List.length_drop, List.length_take]; rfl)) ?_; (with_reducible refine (spec_DrawNaturalCompare.calls _ _ l0 t259 t260 _ ?side1 ?side2 A32.out).mono ?_); (case side1 => repeat (first | exact (Kd.C_below HR0.out HB.out) | (with_reducible refine Kd.C_alloc ?_ _) | (with_reducible refine Kd.C_drewN ?_ _) | (with_reducible refine Kd.C_drew ?_))); (case side2 => exact HC0.out); rintro e w61 ⟨rfl, hb⟩; refine ⟨_, rfl, ?_⟩; have n0_ := Aside0.mk (below_step (by repeat (first | (with_reducible first | exact HB.out | apply below_alloc | apply pw_below_drewN | apply below_drew1) | exact HB.out)) hb); clear HB; have HB := n0_; clear n0_; (try clear hb); (try clear hb2); (try clear hk); (try clear hi)) | ((with_reducible refine gate_callee (f := 6) rfl ?_); refine goesL_ (some 121) rfl rfl Tryd.func6 (by kernel_rfl) rfl #[.string t259, .string t260] rfl (by (try simp only [List.map_toArray, List.map_cons, List.map_nil]); first | done | rfl | (simp only [List.length_drop, List.length_take]; rfl)) ?_; (with_reducible refine (impl_NaturalCompare.calls t259 t260 t261 t262 _ A33.out).mono ?_); rintro e w62 ⟨rfl, hb⟩; refine ⟨_, rfl, ?_⟩; have n0_ := Aside0.mk (below_step (by repeat (first | (with_reducible first | exact HB.out | apply below_alloc | apply pw_below_drewN | apply below_drew1) | exact HB.out)) hb); clear HB; have HB := n0_; clear n0_; (try clear hb); (try clear hb2); (try clear hk); (try clear hi)) | ((with_reducible refine gate_callee (f := 6) rfl ?_); refine goesL_ (some 127) rfl rfl Tryd.func6 (by kernel_rfl) rfl #[.string t260, .string t259] rfl (by (try simp only [List.map_toArray, List.map_cons, List.map_nil]); first | done | rfl | (simp only [List.length_drop, List.length_take]; rfl)) ?_; (with_reducible refine (impl_NaturalCompare.calls t260 t259 t263 t264 _ A34.out).mono ?_); rintro e w63 ⟨rfl, hb⟩; refine ⟨_, rfl, ?_⟩; have n0_ := Aside0.mk (below_step (by repeat (first | (with_reducible first | exact HB.out | apply below_alloc | apply pw_below_drewN | apply below_drew1) | exact HB.out)) hb); clear HB; have HB := n0_; clear n0_; (try clear hb); (try clear hb2); (try clear hk); (try clear hi)) | ((with_reducible refine gate_callee (f := 5) rfl ?_); refine goesL_ (some 133) rfl rfl Tryd.func5 (by kernel_rfl) rfl #[.string t259, .string t260] rfl (by (try simp only [List.map_toArray, List.map_cons, List.map_nil]); first | done | rfl | (simp only [List.length_drop, List.length_take]; rfl)) ?_; (with_reducible refine (spec_NaturalCompare.calls kj21 t259 t260 t265 t266 _ A35.out).mono ?_); rintro e w64 ⟨rfl, hb⟩; refine ⟨_, rfl, ?_⟩; have n0_ := Aside0.mk (below_step (by repeat (first | (with_reducible first | exact HB.out | apply below_alloc | apply pw_below_drewN | apply below_drew1) | exact HB.out)) hb); clear HB; have HB := n0_; clear n0_; (try clear hb); (try clear hb2); (try clear hk); (try clear hi)))
                  go_ret
                  exact ⟨by first | rfl | (simp [errW_none, errW_some] <;> rfl) | (simp [*, errW_none, errW_some] <;> rfl) | (simp [errW_none, errW_some] <;> (apply Bool.eq_iff_iff.2; simp [List.isEmpty_iff])), by repeat (first | (with_reducible first | exact HB.out | apply below_alloc | apply pw_below_drewN | apply below_drew1) | exact HB.out)⟩

/-- THE ONE PURE STATEMENT of laws_FnCollation: yours. -/
def laws_FnCollation.Pure : Prop := ∀ (l0 : List Int), l0.length ≤ maxLen → l0.length * 1 ≤ 140737488351232 → (∀ x ∈ l0, (Lit.int .u8 x).wf = true) → ∃ k, laws_FnCollation.f k l0 = some true
theorem laws_FnCollation.walk (P : laws_FnCollation.Pure) (a0 : Option Addr) (len0 cap0 : Nat) (z0 : List Int) (w : World) (w0 : (a0 = none ∧ len0 = 0 ∧ cap0 = 0 ∧ z0 = []) ∨ ∃ x, a0 = some x ∧ len0 ≤ cap0 ∧ cap0 ≤ maxLen ∧ z0.length = cap0 ∧ (∀ i, i < z0.length → w.cell? (x.add i) = some (.int .u8 (z0.getD i 0))) ∧ ∀ n ∈ z0, (Lit.int .u8 n).wf = true) (y0 : len0 * 1 ≤ 140737488351232) :
    Calls Tryd.prog 4 #[.slice a0 len0 cap0] w fun e w' => e = .returned (.bool true) ∧ Below w.heap.size w w' := by
  obtain ⟨l0, rfl, hr0, hm0, hw0, hc0⟩ := ReadsInt.ofRowC w0
  obtain ⟨k, h⟩ := P l0 hm0 y0 hw0
  refine (laws_FnCollation.calls k _ _ l0 true w (Kd.C_of_reads (d := (0 : Int)) (h1 := fun _ => rfl) hr0) hc0 h).mono ?_
  rintro e w' ⟨rfl, hd⟩
  exact ⟨rfl, hd⟩

end Go.Proofs.YtblcelelmjngfaaDoor.Px
