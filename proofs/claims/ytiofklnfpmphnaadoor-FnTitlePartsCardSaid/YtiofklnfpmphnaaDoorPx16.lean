/- That calls of Go functions come to what the Lean functions beside them say; written by a program of this session (wip/xprint) over the printed words; no conditions. -/
import Derived.Test.YtiofklnfpmphnaaDoorPx0
import Derived.Test.YtiofklnfpmphnaaDoorPx1
import Derived.Test.YtiofklnfpmphnaaDoorPx3
import Derived.Test.YtiofklnfpmphnaaDoorPx5
import Derived.Test.YtiofklnfpmphnaaDoorPx8
import Derived.Test.YtiofklnfpmphnaaDoorPx9
import Derived.Test.YtiofklnfpmphnaaDoorPx11
import Derived.Test.YtiofklnfpmphnaaDoorPx13
import Derived.Test.YtiofklnfpmphnaaDoorPx14
import Derived.Test.YtiofklnfpmphnaaDoorPx15
namespace Go.Proofs.YtiofklnfpmphnaaDoor.Px
open Go.RowKit Go.Proofs.YtiofklnfpmphnaaDoorW.PrintWords Go.Proofs.YtiofklnfpmphnaaDoorW.PrintLast Go.Proofs.YtiofklnfpmphnaaDoorW.PrintMore
attribute [local go_sem] max2_int min2_int max_two min_two max_three min_three max_four min_four   -- for this text's walks alone
set_option linter.unusedVariables false
set_option linter.unusedSimpArgs false

/-! ### laws_FnTitleParts: function 3 -/
mutual
def laws_FnTitleParts.j0 : Nat → ByteArray → ByteArray → List ByteArray → Bool → Bool → Option (Bool)
 | 0, _, _, _, _, _ => none
 | k + 1, x3, x4, x5, x6, x58 => if x58 = true then (some false) else (if x6 = true then (laws_FnTitleParts.l0 k x3 x4 x5 (⟨#[]⟩ : ByteArray) 0) else (some true))
def laws_FnTitleParts.l0 : Nat → ByteArray → ByteArray → List ByteArray → ByteArray → Int → Option (Bool)
 | 0, _, _, _, _, _ => none
 | k + 1, x3, x4, x5, x9, x10 => if x10 < (x5.length : Int) then (if x10 > 0 then (if x9.size + 1 ≤ 9223372036854775807 then (if 0 ≤ x10 then (if (x9 ++ (⟨#[32]⟩ : ByteArray)).size + (rdOf ByteArray.empty x5 x10).size ≤ 9223372036854775807 then (laws_FnTitleParts.l0 k x3 x4 x5 ((x9 ++ (⟨#[32]⟩ : ByteArray)) ++ (rdOf ByteArray.empty x5 x10)) (wrap64 (x10 + 1))) else (none)) else (none)) else (none)) else (if 0 ≤ x10 then (if x9.size + (rdOf ByteArray.empty x5 x10).size ≤ 9223372036854775807 then (laws_FnTitleParts.l0 k x3 x4 x5 (x9 ++ (rdOf ByteArray.empty x5 x10)) (wrap64 (x10 + 1))) else (none)) else (none))) else ((impl_SplitSubtitle.f k x3).bind fun bt310 => ((spec_SplitSubtitle.f k x3).bind fun bt313 => (if x9.toList = x3.toList then (laws_FnTitleParts.j2 k x3 x4 bt310.1 bt310.2.1 bt310.2.2 (bt310.2.2 != bt313.2.2)) else (laws_FnTitleParts.j2 k x3 x4 bt310.1 bt310.2.1 bt310.2.2 true))))
def laws_FnTitleParts.j2 : Nat → ByteArray → ByteArray → ByteArray → ByteArray → Bool → Bool → Option (Bool)
 | 0, _, _, _, _, _, _ => none
 | k + 1, x3, x4, x11, x12, x13, x96 => if x96 = true then (some false) else (if x13 = true then (if x12.toList = ([] : List UInt8) then (laws_FnTitleParts.j3 k x3 x4 x13 (x11.toList != x3.toList)) else (if x11.size + 2 ≤ 9223372036854775807 then (if (x11 ++ (⟨#[58, 32]⟩ : ByteArray)).size + x12.size ≤ 9223372036854775807 then (if ((x11 ++ (⟨#[58, 32]⟩ : ByteArray)) ++ x12).toList = x3.toList then (laws_FnTitleParts.j3 k x3 x4 x13 false) else (laws_FnTitleParts.j3 k x3 x4 x13 true)) else (none)) else (none))) else (laws_FnTitleParts.j3 k x3 x4 x13 false))
def laws_FnTitleParts.j3 : Nat → ByteArray → ByteArray → Bool → Bool → Option (Bool)
 | 0, _, _, _, _ => none
 | k + 1, x3, x4, x13, x121 => if x121 = true then (some false) else (if x13 = true then ((impl_ShortTitle.f k x3 20).bind fun bt316 => ((spec_ShortTitle.f k x3 20).bind fun bt318 => (if bt316.2 = true then (if bt316.1.toList = bt318.1.toList then (laws_FnTitleParts.j4 k x3 x4) else (some false)) else (some false)))) else (laws_FnTitleParts.j4 k x3 x4))
def laws_FnTitleParts.j4 : Nat → ByteArray → ByteArray → Option (Bool)
 | 0, _, _ => none
 | k + 1, x3, x4 => (impl_ProtectTitle.f k x3 x4).bind fun bt320 => ((spec_ProtectTitle.f k x3 x4).bind fun bt322 => (if (bt320.2 != bt322.2) = true then (laws_FnTitleParts.j5 k x3 bt320.1 bt320.2 true) else (laws_FnTitleParts.j5 k x3 bt320.1 bt320.2 (bt320.1.toList != bt322.1.toList))))
def laws_FnTitleParts.j5 : Nat → ByteArray → ByteArray → Bool → Bool → Option (Bool)
 | 0, _, _, _, _ => none
 | k + 1, x3, x21, x22, x159 => if x159 = true then (some false) else (if x22 = true then ((impl_PlainTitle.f k x3).bind fun bt324 => ((impl_PlainTitle.f k x21).bind fun bt326 => ((impl_SortTitle.f k x3).bind fun bt328 => ((impl_SortTitle.f k x21).bind fun bt330 => (if bt324.2 = true then (if bt326.2 = true then (if bt328.2 = true then (if bt330.2 = true then (if bt324.1.toList = bt326.1.toList then (some (bt328.1.toList == bt330.1.toList)) else (some false)) else (some false)) else (some false)) else (some false)) else (some false)))))) else (some true))
end
def laws_FnTitleParts.f (k : Nat) (l0 : List Int) : Option (Bool) := (laws_rBig.f l0).bind fun t296 => (if t296 = true then (some true) else ((spec_DrawProtectTitle.f k l0).bind fun bt297 => ((impl_TitleWords.f k bt297.1).bind fun bt299 => ((spec_TitleWords.f k bt297.1).bind fun bt303 => (if (bt299.2 != bt303.2) = true then (laws_FnTitleParts.j0 k bt297.1 bt297.2 bt299.1 bt299.2 true) else ((laws_rTexts.f k bt299.1 bt303.1).bind fun t307 => (laws_FnTitleParts.j0 k bt297.1 bt297.2 bt299.1 bt299.2 (!t307))))))))
theorem laws_FnTitleParts.mono_l : ∀ k, (∀ y0 y1 y2 y3 y4, LeO (laws_FnTitleParts.j0 k y0 y1 y2 y3 y4) (laws_FnTitleParts.j0 (k + 1) y0 y1 y2 y3 y4)) ∧ (∀ y0 y1 y2 y3 y4, LeO (laws_FnTitleParts.l0 k y0 y1 y2 y3 y4) (laws_FnTitleParts.l0 (k + 1) y0 y1 y2 y3 y4)) ∧ (∀ y0 y1 y2 y3 y4 y5, LeO (laws_FnTitleParts.j2 k y0 y1 y2 y3 y4 y5) (laws_FnTitleParts.j2 (k + 1) y0 y1 y2 y3 y4 y5)) ∧ (∀ y0 y1 y2 y3, LeO (laws_FnTitleParts.j3 k y0 y1 y2 y3) (laws_FnTitleParts.j3 (k + 1) y0 y1 y2 y3)) ∧ (∀ y0 y1, LeO (laws_FnTitleParts.j4 k y0 y1) (laws_FnTitleParts.j4 (k + 1) y0 y1)) ∧ (∀ y0 y1 y2 y3, LeO (laws_FnTitleParts.j5 k y0 y1 y2 y3) (laws_FnTitleParts.j5 (k + 1) y0 y1 y2 y3))
 | 0 => ⟨fun _ _ _ _ _ r h => by simp [laws_FnTitleParts.j0] at h, fun _ _ _ _ _ r h => by simp [laws_FnTitleParts.l0] at h, fun _ _ _ _ _ _ r h => by simp [laws_FnTitleParts.j2] at h, fun _ _ _ _ r h => by simp [laws_FnTitleParts.j3] at h, fun _ _ r h => by simp [laws_FnTitleParts.j4] at h, fun _ _ _ _ r h => by simp [laws_FnTitleParts.j5] at h⟩
 | k + 1 => by
  obtain ⟨ih0, ih1, ih2, ih3, ih4, ih5⟩ := laws_FnTitleParts.mono_l k
  refine ⟨?_, ?_, ?_, ?_, ?_, ?_⟩
  ·intro y0 y1 y2 y3 y4
   unfold laws_FnTitleParts.j0
   repeat' first
   | (with_reducible exact ih0 _ _ _ _ _)
   | (with_reducible exact ih1 _ _ _ _ _)
   | (with_reducible exact ih2 _ _ _ _ _ _)
   | (with_reducible exact ih3 _ _ _ _)
   | (with_reducible exact ih4 _ _)
   | (with_reducible exact ih5 _ _ _ _)
   | (with_reducible exact impl_PlainTitle.mono _ _)
   | (with_reducible exact impl_ProtectTitle.mono _ _ _)
   | (with_reducible exact impl_ShortTitle.mono _ _ _)
   | (with_reducible exact impl_SortTitle.mono _ _)
   | (with_reducible exact impl_SplitSubtitle.mono _ _)
   | (with_reducible exact impl_TitleWords.mono _ _)
   | (with_reducible exact laws_rTexts.mono _ _ _)
   | (with_reducible exact spec_DrawProtectTitle.mono _ _)
   | (with_reducible exact spec_ProtectTitle.mono _ _ _)
   | (with_reducible exact spec_ShortTitle.mono _ _ _)
   | (with_reducible exact spec_SplitSubtitle.mono _ _)
   | (with_reducible exact spec_TitleWords.mono _ _)
   | (with_reducible exact LeO.refl _)
   | (with_reducible exact LeO.none _)
   | (with_reducible refine LeO.ite ?_ ?_)
   | (with_reducible refine LeO.bind ?_ (fun _ => ?_))
   | exact ih0 _ _ _ _ _
   | exact ih1 _ _ _ _ _
   | exact ih2 _ _ _ _ _ _
   | exact ih3 _ _ _ _
   | exact ih4 _ _
   | exact ih5 _ _ _ _
   | exact impl_PlainTitle.mono _ _
   | exact impl_ProtectTitle.mono _ _ _
   | exact impl_ShortTitle.mono _ _ _
   | exact impl_SortTitle.mono _ _
   | exact impl_SplitSubtitle.mono _ _
   | exact impl_TitleWords.mono _ _
   | exact laws_rTexts.mono _ _ _
   | exact spec_DrawProtectTitle.mono _ _
   | exact spec_ProtectTitle.mono _ _ _
   | exact spec_ShortTitle.mono _ _ _
   | exact spec_SplitSubtitle.mono _ _
   | exact spec_TitleWords.mono _ _
   | exact LeO.none _
   | refine LeO.ite ?_ ?_
   | refine LeO.bind ?_ (fun _ => ?_)
  ·intro y0 y1 y2 y3 y4
   unfold laws_FnTitleParts.l0
   repeat' first
   | (with_reducible exact ih0 _ _ _ _ _)
   | (with_reducible exact ih1 _ _ _ _ _)
   | (with_reducible exact ih2 _ _ _ _ _ _)
   | (with_reducible exact ih3 _ _ _ _)
   | (with_reducible exact ih4 _ _)
   | (with_reducible exact ih5 _ _ _ _)
   | (with_reducible exact impl_PlainTitle.mono _ _)
   | (with_reducible exact impl_ProtectTitle.mono _ _ _)
   | (with_reducible exact impl_ShortTitle.mono _ _ _)
   | (with_reducible exact impl_SortTitle.mono _ _)
   | (with_reducible exact impl_SplitSubtitle.mono _ _)
   | (with_reducible exact impl_TitleWords.mono _ _)
   | (with_reducible exact laws_rTexts.mono _ _ _)
   | (with_reducible exact spec_DrawProtectTitle.mono _ _)
   | (with_reducible exact spec_ProtectTitle.mono _ _ _)
   | (with_reducible exact spec_ShortTitle.mono _ _ _)
   | (with_reducible exact spec_SplitSubtitle.mono _ _)
   | (with_reducible exact spec_TitleWords.mono _ _)
   | (with_reducible exact LeO.refl _)
   | (with_reducible exact LeO.none _)
   | (with_reducible refine LeO.ite ?_ ?_)
   | (with_reducible refine LeO.bind ?_ (fun _ => ?_))
   | exact ih0 _ _ _ _ _
   | exact ih1 _ _ _ _ _
   | exact ih2 _ _ _ _ _ _
   | exact ih3 _ _ _ _
   | exact ih4 _ _
   | exact ih5 _ _ _ _
   | exact impl_PlainTitle.mono _ _
   | exact impl_ProtectTitle.mono _ _ _
   | exact impl_ShortTitle.mono _ _ _
   | exact impl_SortTitle.mono _ _
   | exact impl_SplitSubtitle.mono _ _
   | exact impl_TitleWords.mono _ _
   | exact laws_rTexts.mono _ _ _
   | exact spec_DrawProtectTitle.mono _ _
   | exact spec_ProtectTitle.mono _ _ _
   | exact spec_ShortTitle.mono _ _ _
   | exact spec_SplitSubtitle.mono _ _
   | exact spec_TitleWords.mono _ _
   | exact LeO.none _
   | refine LeO.ite ?_ ?_
   | refine LeO.bind ?_ (fun _ => ?_)
  ·intro y0 y1 y2 y3 y4 y5
   unfold laws_FnTitleParts.j2
   repeat' first
   | (with_reducible exact ih0 _ _ _ _ _)
   | (with_reducible exact ih1 _ _ _ _ _)
   | (with_reducible exact ih2 _ _ _ _ _ _)
   | (with_reducible exact ih3 _ _ _ _)
   | (with_reducible exact ih4 _ _)
   | (with_reducible exact ih5 _ _ _ _)
   | (with_reducible exact impl_PlainTitle.mono _ _)
   | (with_reducible exact impl_ProtectTitle.mono _ _ _)
   | (with_reducible exact impl_ShortTitle.mono _ _ _)
   | (with_reducible exact impl_SortTitle.mono _ _)
   | (with_reducible exact impl_SplitSubtitle.mono _ _)
   | (with_reducible exact impl_TitleWords.mono _ _)
   | (with_reducible exact laws_rTexts.mono _ _ _)
   | (with_reducible exact spec_DrawProtectTitle.mono _ _)
   | (with_reducible exact spec_ProtectTitle.mono _ _ _)
   | (with_reducible exact spec_ShortTitle.mono _ _ _)
   | (with_reducible exact spec_SplitSubtitle.mono _ _)
   | (with_reducible exact spec_TitleWords.mono _ _)
   | (with_reducible exact LeO.refl _)
   | (with_reducible exact LeO.none _)
   | (with_reducible refine LeO.ite ?_ ?_)
   | (with_reducible refine LeO.bind ?_ (fun _ => ?_))
   | exact ih0 _ _ _ _ _
   | exact ih1 _ _ _ _ _
   | exact ih2 _ _ _ _ _ _
   | exact ih3 _ _ _ _
   | exact ih4 _ _
   | exact ih5 _ _ _ _
   | exact impl_PlainTitle.mono _ _
   | exact impl_ProtectTitle.mono _ _ _
   | exact impl_ShortTitle.mono _ _ _
   | exact impl_SortTitle.mono _ _
   | exact impl_SplitSubtitle.mono _ _
   | exact impl_TitleWords.mono _ _
   | exact laws_rTexts.mono _ _ _
   | exact spec_DrawProtectTitle.mono _ _
   | exact spec_ProtectTitle.mono _ _ _
   | exact spec_ShortTitle.mono _ _ _
   | exact spec_SplitSubtitle.mono _ _
   | exact spec_TitleWords.mono _ _
   | exact LeO.none _
   | refine LeO.ite ?_ ?_
   | refine LeO.bind ?_ (fun _ => ?_)
  ·intro y0 y1 y2 y3
   unfold laws_FnTitleParts.j3
   repeat' first
   | (with_reducible exact ih0 _ _ _ _ _)
   | (with_reducible exact ih1 _ _ _ _ _)
   | (with_reducible exact ih2 _ _ _ _ _ _)
   | (with_reducible exact ih3 _ _ _ _)
   | (with_reducible exact ih4 _ _)
   | (with_reducible exact ih5 _ _ _ _)
   | (with_reducible exact impl_PlainTitle.mono _ _)
   | (with_reducible exact impl_ProtectTitle.mono _ _ _)
   | (with_reducible exact impl_ShortTitle.mono _ _ _)
   | (with_reducible exact impl_SortTitle.mono _ _)
   | (with_reducible exact impl_SplitSubtitle.mono _ _)
   | (with_reducible exact impl_TitleWords.mono _ _)
   | (with_reducible exact laws_rTexts.mono _ _ _)
   | (with_reducible exact spec_DrawProtectTitle.mono _ _)
   | (with_reducible exact spec_ProtectTitle.mono _ _ _)
   | (with_reducible exact spec_ShortTitle.mono _ _ _)
   | (with_reducible exact spec_SplitSubtitle.mono _ _)
   | (with_reducible exact spec_TitleWords.mono _ _)
   | (with_reducible exact LeO.refl _)
   | (with_reducible exact LeO.none _)
   | (with_reducible refine LeO.ite ?_ ?_)
   | (with_reducible refine LeO.bind ?_ (fun _ => ?_))
   | exact ih0 _ _ _ _ _
   | exact ih1 _ _ _ _ _
   | exact ih2 _ _ _ _ _ _
   | exact ih3 _ _ _ _
   | exact ih4 _ _
   | exact ih5 _ _ _ _
   | exact impl_PlainTitle.mono _ _
   | exact impl_ProtectTitle.mono _ _ _
   | exact impl_ShortTitle.mono _ _ _
   | exact impl_SortTitle.mono _ _
   | exact impl_SplitSubtitle.mono _ _
   | exact impl_TitleWords.mono _ _
   | exact laws_rTexts.mono _ _ _
   | exact spec_DrawProtectTitle.mono _ _
   | exact spec_ProtectTitle.mono _ _ _
   | exact spec_ShortTitle.mono _ _ _
   | exact spec_SplitSubtitle.mono _ _
   | exact spec_TitleWords.mono _ _
   | exact LeO.none _
   | refine LeO.ite ?_ ?_
   | refine LeO.bind ?_ (fun _ => ?_)
  ·intro y0 y1
   unfold laws_FnTitleParts.j4
   repeat' first
   | (with_reducible exact ih0 _ _ _ _ _)
   | (with_reducible exact ih1 _ _ _ _ _)
   | (with_reducible exact ih2 _ _ _ _ _ _)
   | (with_reducible exact ih3 _ _ _ _)
   | (with_reducible exact ih4 _ _)
   | (with_reducible exact ih5 _ _ _ _)
   | (with_reducible exact impl_PlainTitle.mono _ _)
   | (with_reducible exact impl_ProtectTitle.mono _ _ _)
   | (with_reducible exact impl_ShortTitle.mono _ _ _)
   | (with_reducible exact impl_SortTitle.mono _ _)
   | (with_reducible exact impl_SplitSubtitle.mono _ _)
   | (with_reducible exact impl_TitleWords.mono _ _)
   | (with_reducible exact laws_rTexts.mono _ _ _)
   | (with_reducible exact spec_DrawProtectTitle.mono _ _)
   | (with_reducible exact spec_ProtectTitle.mono _ _ _)
   | (with_reducible exact spec_ShortTitle.mono _ _ _)
   | (with_reducible exact spec_SplitSubtitle.mono _ _)
   | (with_reducible exact spec_TitleWords.mono _ _)
   | (with_reducible exact LeO.refl _)
   | (with_reducible exact LeO.none _)
   | (with_reducible refine LeO.ite ?_ ?_)
   | (with_reducible refine LeO.bind ?_ (fun _ => ?_))
   | exact ih0 _ _ _ _ _
   | exact ih1 _ _ _ _ _
   | exact ih2 _ _ _ _ _ _
   | exact ih3 _ _ _ _
   | exact ih4 _ _
   | exact ih5 _ _ _ _
   | exact impl_PlainTitle.mono _ _
   | exact impl_ProtectTitle.mono _ _ _
   | exact impl_ShortTitle.mono _ _ _
   | exact impl_SortTitle.mono _ _
   | exact impl_SplitSubtitle.mono _ _
   | exact impl_TitleWords.mono _ _
   | exact laws_rTexts.mono _ _ _
   | exact spec_DrawProtectTitle.mono _ _
   | exact spec_ProtectTitle.mono _ _ _
   | exact spec_ShortTitle.mono _ _ _
   | exact spec_SplitSubtitle.mono _ _
   | exact spec_TitleWords.mono _ _
   | exact LeO.none _
   | refine LeO.ite ?_ ?_
   | refine LeO.bind ?_ (fun _ => ?_)
  ·intro y0 y1 y2 y3
   unfold laws_FnTitleParts.j5
   repeat' first
   | (with_reducible exact ih0 _ _ _ _ _)
   | (with_reducible exact ih1 _ _ _ _ _)
   | (with_reducible exact ih2 _ _ _ _ _ _)
   | (with_reducible exact ih3 _ _ _ _)
   | (with_reducible exact ih4 _ _)
   | (with_reducible exact ih5 _ _ _ _)
   | (with_reducible exact impl_PlainTitle.mono _ _)
   | (with_reducible exact impl_ProtectTitle.mono _ _ _)
   | (with_reducible exact impl_ShortTitle.mono _ _ _)
   | (with_reducible exact impl_SortTitle.mono _ _)
   | (with_reducible exact impl_SplitSubtitle.mono _ _)
   | (with_reducible exact impl_TitleWords.mono _ _)
   | (with_reducible exact laws_rTexts.mono _ _ _)
   | (with_reducible exact spec_DrawProtectTitle.mono _ _)
   | (with_reducible exact spec_ProtectTitle.mono _ _ _)
   | (with_reducible exact spec_ShortTitle.mono _ _ _)
   | (with_reducible exact spec_SplitSubtitle.mono _ _)
   | (with_reducible exact spec_TitleWords.mono _ _)
   | (with_reducible exact LeO.refl _)
   | (with_reducible exact LeO.none _)
   | (with_reducible refine LeO.ite ?_ ?_)
   | (with_reducible refine LeO.bind ?_ (fun _ => ?_))
   | exact ih0 _ _ _ _ _
   | exact ih1 _ _ _ _ _
   | exact ih2 _ _ _ _ _ _
   | exact ih3 _ _ _ _
   | exact ih4 _ _
   | exact ih5 _ _ _ _
   | exact impl_PlainTitle.mono _ _
   | exact impl_ProtectTitle.mono _ _ _
   | exact impl_ShortTitle.mono _ _ _
   | exact impl_SortTitle.mono _ _
   | exact impl_SplitSubtitle.mono _ _
   | exact impl_TitleWords.mono _ _
   | exact laws_rTexts.mono _ _ _
   | exact spec_DrawProtectTitle.mono _ _
   | exact spec_ProtectTitle.mono _ _ _
   | exact spec_ShortTitle.mono _ _ _
   | exact spec_SplitSubtitle.mono _ _
   | exact spec_TitleWords.mono _ _
   | exact LeO.none _
   | refine LeO.ite ?_ ?_
   | refine LeO.bind ?_ (fun _ => ?_)
theorem laws_FnTitleParts.mono : ∀ a0 k, LeO (laws_FnTitleParts.f k a0) (laws_FnTitleParts.f (k + 1) a0) := by
 intro a0 k
 obtain ⟨ih0, ih1, ih2, ih3, ih4, ih5⟩ := laws_FnTitleParts.mono_l k
 unfold laws_FnTitleParts.f
 repeat' first
   | (with_reducible exact ih0 _ _ _ _ _)
   | (with_reducible exact ih1 _ _ _ _ _)
   | (with_reducible exact ih2 _ _ _ _ _ _)
   | (with_reducible exact ih3 _ _ _ _)
   | (with_reducible exact ih4 _ _)
   | (with_reducible exact ih5 _ _ _ _)
   | (with_reducible exact impl_PlainTitle.mono _ _)
   | (with_reducible exact impl_ProtectTitle.mono _ _ _)
   | (with_reducible exact impl_ShortTitle.mono _ _ _)
   | (with_reducible exact impl_SortTitle.mono _ _)
   | (with_reducible exact impl_SplitSubtitle.mono _ _)
   | (with_reducible exact impl_TitleWords.mono _ _)
   | (with_reducible exact laws_rTexts.mono _ _ _)
   | (with_reducible exact spec_DrawProtectTitle.mono _ _)
   | (with_reducible exact spec_ProtectTitle.mono _ _ _)
   | (with_reducible exact spec_ShortTitle.mono _ _ _)
   | (with_reducible exact spec_SplitSubtitle.mono _ _)
   | (with_reducible exact spec_TitleWords.mono _ _)
   | (with_reducible exact LeO.refl _)
   | (with_reducible exact LeO.none _)
   | (with_reducible refine LeO.ite ?_ ?_)
   | (with_reducible refine LeO.bind ?_ (fun _ => ?_))
   | exact ih0 _ _ _ _ _
   | exact ih1 _ _ _ _ _
   | exact ih2 _ _ _ _ _ _
   | exact ih3 _ _ _ _
   | exact ih4 _ _
   | exact ih5 _ _ _ _
   | exact impl_PlainTitle.mono _ _
   | exact impl_ProtectTitle.mono _ _ _
   | exact impl_ShortTitle.mono _ _ _
   | exact impl_SortTitle.mono _ _
   | exact impl_SplitSubtitle.mono _ _
   | exact impl_TitleWords.mono _ _
   | exact laws_rTexts.mono _ _ _
   | exact spec_DrawProtectTitle.mono _ _
   | exact spec_ProtectTitle.mono _ _ _
   | exact spec_ShortTitle.mono _ _ _
   | exact spec_SplitSubtitle.mono _ _
   | exact spec_TitleWords.mono _ _
   | exact LeO.none _
   | refine LeO.ite ?_ ?_
   | refine LeO.bind ?_ (fun _ => ?_)
set_option maxHeartbeats 8000000 in
set_option maxRecDepth 100000 in
theorem laws_FnTitleParts.calls (k : Nat) (A0 : Option Addr) (c0 : Nat) (l0 : List Int) (r : Bool) (w : World) (hr0 : Kd.C (Kd.int .u8) w A0 l0.length l0) (hc0 : l0.length ≤ c0) (henv : Go.Proofs.YtiofklnfpmphnaaDoorW.Envs.Env [0] w) (h : laws_FnTitleParts.f k l0 = some r) :
  Calls Tryd.prog 3 #[.slice A0 l0.length c0] w fun e w' => e = .returned (.bool r) ∧ Below w.heap.size w w' := by
 have HR0 := Aside0.mk hr0
 have HC0 := Aside0.mk hc0
 clear hr0 hc0
 have HB := Aside0.mk (Below.refl w.heap.size w)
 have HENV := Aside0.mk henv
 clear henv
 have H : ((laws_rBig.f l0).bind fun t296 => (if t296 = true then (some true) else ((spec_DrawProtectTitle.f k l0).bind fun bt297 => ((impl_TitleWords.f k bt297.1).bind fun bt299 => ((spec_TitleWords.f k bt297.1).bind fun bt303 => (if (bt299.2 != bt303.2) = true then (laws_FnTitleParts.j0 k bt297.1 bt297.2 bt299.1 bt299.2 true) else ((laws_rTexts.f k bt299.1 bt303.1).bind fun t307 => (laws_FnTitleParts.j0 k bt297.1 bt297.2 bt299.1 bt299.2 (!t307))))))))) = some r := h
 clear h
 replace H := Option.bind_eq_some_iff.mp H
 obtain ⟨t296, A20, H⟩ := H
 replace H : (if t296 = true then (some true) else ((spec_DrawProtectTitle.f k l0).bind fun bt297 => ((impl_TitleWords.f k bt297.1).bind fun bt299 => ((spec_TitleWords.f k bt297.1).bind fun bt303 => (if (bt299.2 != bt303.2) = true then (laws_FnTitleParts.j0 k bt297.1 bt297.2 bt299.1 bt299.2 true) else ((laws_rTexts.f k bt299.1 bt303.1).bind fun t307 => (laws_FnTitleParts.j0 k bt297.1 bt297.2 bt299.1 bt299.2 (!t307)))))))) = some r := H
 have A2 := Aside0.mk A20
 clear A20
 by_cases c3 : t296 = true
 ·subst c3
  have H1 : (some true) = some r := by rw [if_pos rfl] at H; exact H
  clear H
  have H := H1
  clear H1
  as_aux_lemma =>
   obtain rfl := Option.some.inj H
   go_enter Tryd.func3, Tryd.ntmps3
   go_wp2_with (first | ((with_reducible refine gate_callee (f := 4) rfl ?_); refine goesL_ (some 34) rfl rfl Tryd.func4 (by kernel_rfl) rfl #[.slice A0 l0.length c0] rfl (by (try simp only [List.map_toArray, List.map_cons, List.map_nil]); first | done | rfl | (simp only [List.length_drop, List.length_take]; rfl)) ?_; (with_reducible refine (laws_rBig.calls _ _ l0 true _ ?side1 ?side2 A2.out).mono ?_); (case side1 => repeat (first | exact HR0.out | (with_reducible refine Kd.C_alloc ?_ _) | (with_reducible refine Kd.C_drewN ?_ _) | (with_reducible refine Kd.C_drew ?_))); (case side2 => exact HC0.out); rintro e w' ⟨rfl, ⟨nd, rfl⟩⟩; refine ⟨_, rfl, ?_⟩))
   go_ret
   exact ⟨by first | rfl | (simp [errW_none, errW_some] <;> rfl) | (simp [*, errW_none, errW_some] <;> rfl) | (simp [errW_none, errW_some] <;> (apply Bool.eq_iff_iff.2; simp [List.isEmpty_iff])), by repeat (first | (with_reducible first | exact HB.out | apply below_alloc | apply pw_below_drewN | apply below_drew1) | exact HB.out)⟩
 ·replace c3 := Bool.eq_false_iff.mpr c3
  subst c3
  have H1 : ((spec_DrawProtectTitle.f k l0).bind fun bt297 => ((impl_TitleWords.f k bt297.1).bind fun bt299 => ((spec_TitleWords.f k bt297.1).bind fun bt303 => (if (bt299.2 != bt303.2) = true then (laws_FnTitleParts.j0 k bt297.1 bt297.2 bt299.1 bt299.2 true) else ((laws_rTexts.f k bt299.1 bt303.1).bind fun t307 => (laws_FnTitleParts.j0 k bt297.1 bt297.2 bt299.1 bt299.2 (!t307))))))) = some r := by rw [if_neg (show ¬ (false = true) by decide)] at H; exact H
  clear H
  have H := H1
  clear H1
  replace H := Option.bind_eq_some_iff.mp H
  obtain ⟨⟨t297, t298⟩, A40, H⟩ := H
  replace H : ((impl_TitleWords.f k t297).bind fun bt299 => ((spec_TitleWords.f k t297).bind fun bt303 => (if (bt299.2 != bt303.2) = true then (laws_FnTitleParts.j0 k t297 t298 bt299.1 bt299.2 true) else ((laws_rTexts.f k bt299.1 bt303.1).bind fun t307 => (laws_FnTitleParts.j0 k t297 t298 bt299.1 bt299.2 (!t307)))))) = some r := H
  have A4 := Aside0.mk A40
  clear A40
  replace H := Option.bind_eq_some_iff.mp H
  obtain ⟨⟨t299, t300⟩, A50, H⟩ := H
  replace H : ((spec_TitleWords.f k t297).bind fun bt303 => (if (t300 != bt303.2) = true then (laws_FnTitleParts.j0 k t297 t298 t299 t300 true) else ((laws_rTexts.f k t299 bt303.1).bind fun t307 => (laws_FnTitleParts.j0 k t297 t298 t299 t300 (!t307))))) = some r := H
  have A5 := Aside0.mk A50
  clear A50
  replace H := Option.bind_eq_some_iff.mp H
  obtain ⟨⟨t303, t304⟩, A60, H⟩ := H
  replace H : (if (t300 != t304) = true then (laws_FnTitleParts.j0 k t297 t298 t299 t300 true) else ((laws_rTexts.f k t299 t303).bind fun t307 => (laws_FnTitleParts.j0 k t297 t298 t299 t300 (!t307)))) = some r := H
  have A6 := Aside0.mk A60
  clear A60
  have HC7 := Aside0.mk H
  clear H
  go_enter Tryd.func3, Tryd.ntmps3
  go_upto_region 6 with (first | ((with_reducible refine gate_callee (f := 4) rfl ?_); refine goesL_ (some 34) rfl rfl Tryd.func4 (by kernel_rfl) rfl #[.slice A0 l0.length c0] rfl (by (try simp only [List.map_toArray, List.map_cons, List.map_nil]); first | done | rfl | (simp only [List.length_drop, List.length_take]; rfl)) ?_; (with_reducible refine (laws_rBig.calls _ _ l0 false _ ?side1 ?side2 A2.out).mono ?_); (case side1 => repeat (first | exact HR0.out | (with_reducible refine Kd.C_alloc ?_ _) | (with_reducible refine Kd.C_drewN ?_ _) | (with_reducible refine Kd.C_drew ?_))); (case side2 => exact HC0.out); rintro e w' ⟨rfl, ⟨nd, rfl⟩⟩; refine ⟨_, rfl, ?_⟩) | ((with_reducible refine gate_callee (f := 5) rfl ?_); refine goesL_ (some 37) rfl rfl Tryd.func5 (by kernel_rfl) rfl #[.slice A0 l0.length c0] rfl (by (try simp only [List.map_toArray, List.map_cons, List.map_nil]); first | done | rfl | (simp only [List.length_drop, List.length_take]; rfl)) ?_; (with_reducible refine (spec_DrawProtectTitle.calls k _ _ l0 t297 t298 _ ?side1 ?side2 A4.out).mono ?_); (case side1 => repeat (first | exact HR0.out | (with_reducible refine Kd.C_alloc ?_ _) | (with_reducible refine Kd.C_drewN ?_ _) | (with_reducible refine Kd.C_drew ?_))); (case side2 => exact HC0.out); rintro e w8 ⟨rfl, hb⟩; refine ⟨_, rfl, ?_⟩; have n0_ := Aside0.mk (below_step (by repeat (first | (with_reducible first | exact HB.out | apply below_alloc | apply pw_below_drewN | apply below_drew1) | exact HB.out)) hb); clear HB; have HB := n0_; clear n0_; (try clear hb); (try clear hb2); (try clear hk); (try clear hi)) | ((with_reducible refine gate_callee (f := 6) rfl ?_); refine goesL_ (some 42) rfl rfl Tryd.func6 (by kernel_rfl) rfl #[.string t297] rfl (by (try simp only [List.map_toArray, List.map_cons, List.map_nil]); first | done | rfl | (simp only [List.length_drop, List.length_take]; rfl)) ?_; (with_reducible refine (impl_TitleWords.calls k t297 t299 t300 _ ?side1 A5.out).mono ?_); (case side1 => exact Go.Proofs.YtiofklnfpmphnaaDoorW.Envs.Env.below HENV.out (by repeat (first | (with_reducible first | exact HB.out | apply below_alloc | apply pw_below_drewN | apply below_drew1) | exact HB.out))); rintro e w9 ⟨v301, rfl, ho0, hb⟩; refine ⟨_, rfl, ?_⟩; have n0_ := Aside0.mk (Kd.R_lower ho0 (below_size (by repeat (first | (with_reducible first | exact HB.out | apply below_alloc | apply pw_below_drewN | apply below_drew1) | exact HB.out)))); have n1_ := Aside0.mk (below_step (by repeat (first | (with_reducible first | exact HB.out | apply below_alloc | apply pw_below_drewN | apply below_drew1) | exact HB.out)) hb); clear HB; have HO302 := n0_; have HB := n1_; clear n0_ n1_; (try clear hb); (try clear hb2); (try clear hk); (try clear hi); (try clear ho0)) | ((with_reducible refine gate_callee (f := 7) rfl ?_); refine goesL_ (some 47) rfl rfl Tryd.func7 (by kernel_rfl) rfl #[.string t297] rfl (by (try simp only [List.map_toArray, List.map_cons, List.map_nil]); first | done | rfl | (simp only [List.length_drop, List.length_take]; rfl)) ?_; (with_reducible refine (spec_TitleWords.calls k t297 t303 t304 _ A6.out).mono ?_); rintro e w10 ⟨v305, rfl, ho0, hb⟩; refine ⟨_, rfl, ?_⟩; have n0_ := Aside0.mk (Kd.R_elder' (by (with_reducible repeat (first | apply Kd.R_alloc | apply Kd.R_drewN | apply Kd.R_drew)); exact HO302.out) (Kd.R_base ho0) hb); have n1_ := Aside0.mk (Kd.R_lower (Kd.R_new' ho0 (Kd.R_lt (by (with_reducible repeat (first | apply Kd.R_alloc | apply Kd.R_drewN | apply Kd.R_drew)); exact HO302.out))) (below_size (by repeat (first | (with_reducible first | exact HB.out | apply below_alloc | apply pw_below_drewN | apply below_drew1) | exact HB.out)))); have n2_ := Aside0.mk (below_step (by repeat (first | (with_reducible first | exact HB.out | apply below_alloc | apply pw_below_drewN | apply below_drew1) | exact HB.out)) hb); clear HO302; clear HB; have HO302 := n0_; have HO306 := n1_; have HB := n2_; clear n0_ n1_ n2_; (try clear hb); (try clear hb2); (try clear hk); (try clear hi); (try clear ho0)))
  (try simp only [Act.put, List.setIfInBounds_toArray, List.set_cons_zero, List.set_cons_succ])
  go_cut [58] (fun v58 wc => ∃ (kq : Nat) (x58_6 : Bool), v58 = .bool x58_6 ∧ Aside0 (laws_FnTitleParts.j0 kq t297 t298 t299 t300 x58_6 = some r) ∧ Aside0 (kq ≤ k) ∧ Aside0 (Kd.R Kd.string 9 wc w.heap.size (fun _ => True) v301 t299) ∧ Aside0 (Below w.heap.size w wc))
  case first =>
   have H := HC7.out
   clear HC7
   by_cases c11 : (t300 != t304) = true
   ·rw [if_pos c11] at H
    have c11b0 : (t300 != t304) = true := c11
    (try (have c11b1 : decide (t300 = t304) = false := by simpa using c11))
    (try (have c11b2 : (t300 == t304) = false := by simpa using c11))
    (try (have c11b3 : ¬ (t300 = t304) := by simpa using c11))
    clear c11
    (first | rw [c11b0] | rw [c11b1] | rw [c11b2] | (simp only [i64_w, i32_w]; rw [c11b0]) | skip)
    as_aux_lemma =>
     have H' := Aside0.mk H
     clear H
     go_wp2
     go_meet
     case rel => exact ⟨_, (true), (by first | rfl | (simp; done) | (simp [*]; done)), H', ⟨by first | omega | exact Nat.le_refl _⟩, ⟨by (with_reducible repeat (first | apply Kd.R_alloc | apply Kd.R_drewN | apply Kd.R_drew)); exact Kd.R_mono HO302.out (fun _ hk => trivial)⟩, ⟨by repeat (first | (with_reducible first | exact HB.out | apply below_alloc | apply pw_below_drewN | apply below_drew1) | exact HB.out)⟩⟩
   ·rw [if_neg c11] at H
    have c11b0 : (t300 != t304) = false := by simpa using c11
    (try (have c11b1 : decide (t300 = t304) = true := by simpa using c11))
    (try (have c11b2 : (t300 == t304) = true := by simpa using c11))
    clear c11
    (first | rw [c11b0] | rw [c11b1] | rw [c11b2] | (simp only [i64_w, i32_w]; rw [c11b0]) | skip)
    replace H := Option.bind_eq_some_iff.mp H
    obtain ⟨t307, A120, H⟩ := H
    replace H : (laws_FnTitleParts.j0 k t297 t298 t299 t300 (!t307)) = some r := H
    have A12 := Aside0.mk A120
    clear A120
    as_aux_lemma =>
     have H' := Aside0.mk H
     clear H
     obtain ⟨Ao13, co13, eo13⟩ := Kd.R_slice HO302.out
     subst eo13
     obtain ⟨Ao14, co14, eo14⟩ := Kd.R_slice HO306.out
     subst eo14
     go_wp2_with (first | (go_at_call 8; (with_reducible refine (laws_rTexts.calls k _ _ t299 _ _ t303 t307 _ ?side1 ?side2 ?side3 ?side4 A12.out).mono ?_); (case side1 => repeat (first | exact (Kd.R_reads' HO302.out).2.2 | (with_reducible refine Kd.C_alloc ?_ _) | (with_reducible refine Kd.C_drewN ?_ _) | (with_reducible refine Kd.C_drew ?_))); (case side2 => exact (Kd.R_reads' HO302.out).2.1); (case side3 => repeat (first | exact (Kd.R_reads' HO306.out).2.2 | (with_reducible refine Kd.C_alloc ?_ _) | (with_reducible refine Kd.C_drewN ?_ _) | (with_reducible refine Kd.C_drew ?_))); (case side4 => exact (Kd.R_reads' HO306.out).2.1); rintro e w' ⟨rfl, ⟨nd, rfl⟩⟩))
     go_meet
     case rel => exact ⟨_, (!t307), (by first | rfl | (simp; done) | (simp [*]; done)), H', ⟨by first | omega | exact Nat.le_refl _⟩, ⟨by (with_reducible repeat (first | apply Kd.R_alloc | apply Kd.R_drewN | apply Kd.R_drew)); exact Kd.R_mono HO302.out (fun _ hk => trivial)⟩, ⟨by repeat (first | (with_reducible first | exact HB.out | apply below_alloc | apply pw_below_drewN | apply below_drew1) | exact HB.out)⟩⟩
  case rest =>
   clear HC7
   try clear c1
   try clear p2
   try clear c3
   try clear c4
   try clear c5
   try clear c6
   try clear c7
   try clear c11
   try clear c11b0
   try clear c11b1
   try clear c11b2
   obtain ⟨kq, x58_6, rfl, HA, HJ6, HO_5, HB⟩ := hcut
   cases kq with
   | zero => exact absurd HA.out (by simp [laws_FnTitleParts.j0])
   | succ kj6 =>
    have H := HA.out
    clear HA
    simp only [laws_FnTitleParts.j0] at H
    by_cases c15 : x58_6 = true
    ·subst c15
     have H1 : (some false) = some r := by rw [if_pos rfl] at H; exact H
     clear H
     have H := H1
     clear H1
     as_aux_lemma =>
      obtain rfl := Option.some.inj H
      go_wp2
      go_ret
      exact ⟨by first | rfl | (simp [errW_none, errW_some] <;> rfl) | (simp [*, errW_none, errW_some] <;> rfl) | (simp [errW_none, errW_some] <;> (apply Bool.eq_iff_iff.2; simp [List.isEmpty_iff])), by repeat (first | (with_reducible first | exact HB.out | apply below_alloc | apply pw_below_drewN | apply below_drew1) | exact HB.out)⟩
    ·replace c15 := Bool.eq_false_iff.mpr c15
     subst c15
     have H1 : (if t300 = true then (laws_FnTitleParts.l0 kj6 t297 t298 t299 (⟨#[]⟩ : ByteArray) 0) else (some true)) = some r := by rw [if_neg (show ¬ (false = true) by decide)] at H; exact H
     clear H
     have H := H1
     clear H1
     by_cases c16 : t300 = true
     ·subst c16
      have H1 : (laws_FnTitleParts.l0 kj6 t297 t298 t299 (⟨#[]⟩ : ByteArray) 0) = some r := by rw [if_pos rfl] at H; exact H
      clear H
      have H := H1
      clear H1
      have H' := Aside0.mk H
      clear H
      go_wp2
      go_loopg [9, 10] kj6 (fun kq v9 v10 w' => ∃ (x9_2 : ByteArray) (x10_2 : Int), v9 = .string x9_2 ∧ v10 = .int .i64 x10_2 ∧ Aside0 (laws_FnTitleParts.l0 kq t297 t298 t299 x9_2 x10_2 = some r) ∧ Aside0 (kq ≤ kj6) ∧ Aside0 (Kd.R Kd.string 9 w' w.heap.size (fun _ => True) v301 t299) ∧ Aside0 (Below w.heap.size w w'))
      case atStart => exact ⟨((⟨#[]⟩ : ByteArray)), (0), (by first | rfl | (simp; done) | (simp [*]; done)), (by first | rfl | (simp; done) | (simp [*]; done)), H', ⟨Nat.le_refl _⟩, ⟨by (with_reducible repeat (first | apply Kd.R_alloc | apply Kd.R_drewN | apply Kd.R_drew)); exact HO_5.out⟩, ⟨by repeat (first | (with_reducible first | exact HB.out | apply below_alloc | apply pw_below_drewN | apply below_drew1) | exact HB.out)⟩⟩
      case round =>
       clear H'
       try clear c1
       try clear p2
       try clear c3
       try clear c4
       try clear c5
       try clear c6
       try clear c7
       try clear c11
       try clear c11b0
       try clear c11b1
       try clear c11b2
       try clear c15
       try clear c16
       try clear p2
       obtain ⟨x9_2, x10_2, rfl, rfl, HA, HK2, HO_5, HB⟩ := hrel
       cases gk with
       | zero => exact absurd HA.out (by simp [laws_FnTitleParts.l0])
       | succ k2 =>
        have H := HA.out
        clear HA
        simp only [laws_FnTitleParts.l0] at H
        by_cases c17 : x10_2 < (t299.length : Int)
        ·rw [if_pos c17] at H
         have c17b0 : decide (x10_2 < (t299.length : Int)) = true := decide_eq_true c17
         clear c17
         by_cases c18 : x10_2 > 0
         ·rw [if_pos c18] at H
          have c18b0 : decide (0 < x10_2) = true := decide_eq_true c18
          clear c18
          by_cases c19 : x9_2.size + 1 ≤ 9223372036854775807
          ·rw [if_pos c19] at H
           have c19b0 := eq_true c19
           have c19b1 : decide (x9_2.size + 1 ≤ 9223372036854775807) = true := decide_eq_true c19
           try have c19b2 : (9223372036854775807 < x9_2.size + 1) = False := eq_false (Nat.not_lt.2 c19)
           by_cases c20 : 0 ≤ x10_2
           ·rw [if_pos c20] at H
            have c20b0 : decide (0 ≤ x10_2) = true := decide_eq_true c20
            clear c20
            by_cases c21 : (x9_2 ++ (⟨#[32]⟩ : ByteArray)).size + (rdOf ByteArray.empty t299 x10_2).size ≤ 9223372036854775807
            ·rw [if_pos c21] at H
             have c21b0 := eq_true c21
             have c21b1 : decide ((x9_2 ++ (⟨#[32]⟩ : ByteArray)).size + (rdOf ByteArray.empty t299 x10_2).size ≤ 9223372036854775807) = true := decide_eq_true c21
             try have c21b2 : (9223372036854775807 < (x9_2 ++ (⟨#[32]⟩ : ByteArray)).size + (rdOf ByteArray.empty t299 x10_2).size) = False := eq_false (Nat.not_lt.2 c21)
             try have c21b3 : (9223372036854775807 < x9_2.size + 1 + ((rdOf ByteArray.empty t299 x10_2).size)) = False := eq_false (by have h_ := c21; simp only [ByteArray.size_append, ByteArray.size_extract] at h_; (try simp only [show (⟨#[32]⟩ : ByteArray).size = 1 from rfl] at h_); (try have q0_ := of_eq_true c17b0); (try have q1_ := of_eq_true c18b0); (try have q2_ := of_eq_true c19b0); (try have q5_ := of_eq_true c20b0); omega)
             as_aux_lemma =>
              have H' := Aside0.mk H
              clear H
              obtain ⟨Ao22, co22, eo22⟩ := Kd.R_slice HO_5.out
              subst eo22
              have p308 : 0 ≤ (x10_2 : Int) := of_decide_eq_true (by first | (with_reducible assumption) | assumption)
              have q308 : x10_2 < (t299.length : Int) := of_decide_eq_true (by first | (with_reducible assumption) | assumption)
              obtain ⟨ad308, e308, hx308_0⟩ := Kd.at_string (Kd.R_reads' HO_5.out).2.2 x10_2 p308 q308
              cases e308
              replace p308 := eq_true p308
              replace q308 := eq_true q308
              go_wp2
              go_roundg k2
              case measure => have := HJ6.out; have := HK2.out; omega
              case rel => exact ⟨((x9_2 ++ (⟨#[32]⟩ : ByteArray)) ++ (rdOf ByteArray.empty t299 x10_2)), (wrap64 (x10_2 + 1)), (by first | rfl | (simp; done) | (simp [*]; done)), (by first | rfl | (simp; done) | (simp [*]; done)), H', ⟨by have := HJ6.out; have := HK2.out; omega⟩, ⟨by (with_reducible repeat (first | apply Kd.R_alloc | apply Kd.R_drewN | apply Kd.R_drew)); exact HO_5.out⟩, ⟨by repeat (first | (with_reducible first | exact HB.out | apply below_alloc | apply pw_below_drewN | apply below_drew1) | exact HB.out)⟩⟩
            ·rw [if_neg c21] at H
             exact absurd H (by simp)
           ·rw [if_neg c20] at H
            exact absurd H (by simp)
          ·rw [if_neg c19] at H
           exact absurd H (by simp)
         ·rw [if_neg c18] at H
          have c18b0 : decide (0 < x10_2) = false := decide_eq_false c18
          clear c18
          by_cases c23 : 0 ≤ x10_2
          ·rw [if_pos c23] at H
           have c23b0 : decide (0 ≤ x10_2) = true := decide_eq_true c23
           clear c23
           by_cases c24 : x9_2.size + (rdOf ByteArray.empty t299 x10_2).size ≤ 9223372036854775807
           ·rw [if_pos c24] at H
            have c24b0 := eq_true c24
            have c24b1 : decide (x9_2.size + (rdOf ByteArray.empty t299 x10_2).size ≤ 9223372036854775807) = true := decide_eq_true c24
            try have c24b2 : (9223372036854775807 < x9_2.size + (rdOf ByteArray.empty t299 x10_2).size) = False := eq_false (Nat.not_lt.2 c24)
            as_aux_lemma =>
             have H' := Aside0.mk H
             clear H
             obtain ⟨Ao25, co25, eo25⟩ := Kd.R_slice HO_5.out
             subst eo25
             have p309 : 0 ≤ (x10_2 : Int) := of_decide_eq_true (by first | (with_reducible assumption) | assumption)
             have q309 : x10_2 < (t299.length : Int) := of_decide_eq_true (by first | (with_reducible assumption) | assumption)
             obtain ⟨ad309, e309, hx309_0⟩ := Kd.at_string (Kd.R_reads' HO_5.out).2.2 x10_2 p309 q309
             cases e309
             replace p309 := eq_true p309
             replace q309 := eq_true q309
             go_wp2
             go_roundg k2
             case measure => have := HJ6.out; have := HK2.out; omega
             case rel => exact ⟨(x9_2 ++ (rdOf ByteArray.empty t299 x10_2)), (wrap64 (x10_2 + 1)), (by first | rfl | (simp; done) | (simp [*]; done)), (by first | rfl | (simp; done) | (simp [*]; done)), H', ⟨by have := HJ6.out; have := HK2.out; omega⟩, ⟨by (with_reducible repeat (first | apply Kd.R_alloc | apply Kd.R_drewN | apply Kd.R_drew)); exact HO_5.out⟩, ⟨by repeat (first | (with_reducible first | exact HB.out | apply below_alloc | apply pw_below_drewN | apply below_drew1) | exact HB.out)⟩⟩
           ·rw [if_neg c24] at H
            exact absurd H (by simp)
          ·rw [if_neg c23] at H
           exact absurd H (by simp)
        ·rw [if_neg c17] at H
         have c17b0 : decide (x10_2 < (t299.length : Int)) = false := decide_eq_false c17
         clear c17
         replace H := Option.bind_eq_some_iff.mp H
         obtain ⟨⟨t310, t311, t312⟩, A260, H⟩ := H
         replace H : ((spec_SplitSubtitle.f k2 t297).bind fun bt313 => (if x9_2.toList = t297.toList then (laws_FnTitleParts.j2 k2 t297 t298 t310 t311 t312 (t312 != bt313.2.2)) else (laws_FnTitleParts.j2 k2 t297 t298 t310 t311 t312 true))) = some r := H
         have A26 := Aside0.mk A260
         clear A260
         replace H := Option.bind_eq_some_iff.mp H
         obtain ⟨⟨t313, t314, t315⟩, A270, H⟩ := H
         replace H : (if x9_2.toList = t297.toList then (laws_FnTitleParts.j2 k2 t297 t298 t310 t311 t312 (t312 != t315)) else (laws_FnTitleParts.j2 k2 t297 t298 t310 t311 t312 true)) = some r := H
         have A27 := Aside0.mk A270
         clear A270
         have HC28 := Aside0.mk H
         clear H
         obtain ⟨Ao29, co29, eo29⟩ := Kd.R_slice HO_5.out
         subst eo29
         go_upto_region 19 with (first | ((with_reducible refine gate_callee (f := 9) rfl ?_); refine goesL_ (some 79) rfl rfl Tryd.func9 (by kernel_rfl) rfl #[.string t297] rfl (by (try simp only [List.map_toArray, List.map_cons, List.map_nil]); first | done | rfl | (simp only [List.length_drop, List.length_take]; rfl)) ?_; (with_reducible refine (impl_SplitSubtitle.calls k2 t297 t310 t311 t312 _ ?side1 A26.out).mono ?_); (case side1 => exact Go.Proofs.YtiofklnfpmphnaaDoorW.Envs.Env.below HENV.out (by repeat (first | (with_reducible first | exact HB.out | apply below_alloc | apply pw_below_drewN | apply below_drew1) | exact HB.out))); rintro e w30 ⟨rfl, hb⟩; refine ⟨_, rfl, ?_⟩; have n0_ := Aside0.mk (Kd.R_below (by (with_reducible repeat (first | apply Kd.R_alloc | apply Kd.R_drewN | apply Kd.R_drew)); exact HO_5.out) hb); have n1_ := Aside0.mk (below_step (by repeat (first | (with_reducible first | exact HB.out | apply below_alloc | apply pw_below_drewN | apply below_drew1) | exact HB.out)) hb); clear HO_5; clear HB; have HO_5 := n0_; have HB := n1_; clear n0_ n1_; (try clear hb); (try clear hb2); (try clear hk); (try clear hi)) | ((with_reducible refine gate_callee (f := 10) rfl ?_); refine goesL_ (some 85) rfl rfl Tryd.func10 (by kernel_rfl) rfl #[.string t297] rfl (by (try simp only [List.map_toArray, List.map_cons, List.map_nil]); first | done | rfl | (simp only [List.length_drop, List.length_take]; rfl)) ?_; (with_reducible refine (spec_SplitSubtitle.calls k2 t297 t313 t314 t315 _ A27.out).mono ?_); rintro e w' ⟨rfl, ⟨nd, rfl⟩⟩; refine ⟨_, rfl, ?_⟩))
         (try simp only [Act.put, List.setIfInBounds_toArray, List.set_cons_zero, List.set_cons_succ])
         go_cut [96] (fun v96 wc => ∃ (kq : Nat) (x96_27 : Bool), v96 = .bool x96_27 ∧ Aside0 (laws_FnTitleParts.j2 kq t297 t298 t310 t311 t312 x96_27 = some r) ∧ Aside0 (kq ≤ k2) ∧ Aside0 (Below w.heap.size w wc))
         case first =>
          have H := HC28.out
          clear HC28
          by_cases c31 : x9_2.toList = t297.toList
          ·rw [if_pos c31] at H
           have c31b0 : (x9_2.toList == t297.toList) = true := beq_iff_eq.mpr c31
           have c31b1 : (x9_2.toList != t297.toList) = false := bne_eq_false_iff_eq.mpr c31
           clear c31
           (first | rw [c31b0] | rw [c31b1] | rw [c31b2] | (simp only [i64_w, i32_w]; rw [c31b0]) | skip)
           as_aux_lemma =>
            have H' := Aside0.mk H
            clear H
            go_wp2
            go_meet
            case rel => exact ⟨_, ((t312 != t315)), (by first | rfl | (simp; done) | (simp [*]; done)), H', ⟨by have := HJ6.out; have := HK2.out; first | omega | exact Nat.le_refl _⟩, ⟨by repeat (first | (with_reducible first | exact HB.out | apply below_alloc | apply pw_below_drewN | apply below_drew1) | exact HB.out)⟩⟩
          ·rw [if_neg c31] at H
           have c31b0 : (x9_2.toList == t297.toList) = false := beq_eq_false_iff_ne.mpr c31
           have c31b1 : (x9_2.toList != t297.toList) = true := bne_iff_ne.mpr c31
           (first | rw [c31b0] | rw [c31b1] | rw [c31b2] | (simp only [i64_w, i32_w]; rw [c31b0]) | skip)
           as_aux_lemma =>
            have H' := Aside0.mk H
            clear H
            go_wp2
            go_meet
            case rel => exact ⟨_, (true), (by first | rfl | (simp; done) | (simp [*]; done)), H', ⟨by have := HJ6.out; have := HK2.out; first | omega | exact Nat.le_refl _⟩, ⟨by repeat (first | (with_reducible first | exact HB.out | apply below_alloc | apply pw_below_drewN | apply below_drew1) | exact HB.out)⟩⟩
         case rest =>
          clear HC28
          try clear c1
          try clear q1
          try clear c2
          try clear p2
          try clear q2
          try clear c3
          try clear p3
          try clear q3
          try clear hx3
          try clear c4
          try clear c5
          try clear q5
          try clear c6
          try clear p6
          try clear c7
          try clear c9
          try clear c10
          try clear c11
          try clear c11b0
          try clear c11b1
          try clear c11b2
          try clear c15
          try clear c16
          try clear c17
          try clear c17b0
          try clear c18
          try clear c18b0
          try clear c19
          try clear c19b0
          try clear c19b1
          try clear c19b2
          try clear c20
          try clear c20b0
          try clear c21
          try clear c21b0
          try clear c21b1
          try clear c21b2
          try clear c23
          try clear c23b0
          try clear c24
          try clear c24b0
          try clear c24b1
          try clear c24b2
          try clear p30
          try clear q30
          try clear hx30
          try clear c31
          try clear c31b0
          try clear c31b1
          try clear c31b2
          try clear hx308_0
          try clear hx309_0
          try clear p2
          try clear p308
          try clear p309
          try clear q308
          try clear q309
          obtain ⟨kq, x96_27, rfl, HA, HJ27, HB⟩ := hcut
          cases kq with
          | zero => exact absurd HA.out (by simp [laws_FnTitleParts.j2])
          | succ kj27 =>
           have H := HA.out
           clear HA
           simp only [laws_FnTitleParts.j2] at H
           by_cases c32 : x96_27 = true
           ·subst c32
            have H1 : (some false) = some r := by rw [if_pos rfl] at H; exact H
            clear H
            have H := H1
            clear H1
            as_aux_lemma =>
             obtain rfl := Option.some.inj H
             go_wp2
             go_ret
             exact ⟨by first | rfl | (simp [errW_none, errW_some] <;> rfl) | (simp [*, errW_none, errW_some] <;> rfl) | (simp [errW_none, errW_some] <;> (apply Bool.eq_iff_iff.2; simp [List.isEmpty_iff])), by repeat (first | (with_reducible first | exact HB.out | apply below_alloc | apply pw_below_drewN | apply below_drew1) | exact HB.out)⟩
           ·replace c32 := Bool.eq_false_iff.mpr c32
            subst c32
            have H1 : (if t312 = true then (if t311.toList = ([] : List UInt8) then (laws_FnTitleParts.j3 kj27 t297 t298 t312 (t310.toList != t297.toList)) else (if t310.size + 2 ≤ 9223372036854775807 then (if (t310 ++ (⟨#[58, 32]⟩ : ByteArray)).size + t311.size ≤ 9223372036854775807 then (if ((t310 ++ (⟨#[58, 32]⟩ : ByteArray)) ++ t311).toList = t297.toList then (laws_FnTitleParts.j3 kj27 t297 t298 t312 false) else (laws_FnTitleParts.j3 kj27 t297 t298 t312 true)) else (none)) else (none))) else (laws_FnTitleParts.j3 kj27 t297 t298 t312 false)) = some r := by rw [if_neg (show ¬ (false = true) by decide)] at H; exact H
            clear H
            have H := H1
            clear H1
            have HC33 := Aside0.mk H
            clear H
            go_upto_region 21 with (fail)
            go_cut [121] (fun v121 wc => ∃ (kq : Nat) (x121_32 : Bool), v121 = .bool x121_32 ∧ Aside0 (laws_FnTitleParts.j3 kq t297 t298 t312 x121_32 = some r) ∧ Aside0 (kq ≤ kj27) ∧ Aside0 (Below w.heap.size w wc))
            case first =>
             have H := HC33.out
             clear HC33
             by_cases c34 : t312 = true
             ·subst c34
              have H1 : (if t311.toList = ([] : List UInt8) then (laws_FnTitleParts.j3 kj27 t297 t298 true (t310.toList != t297.toList)) else (if t310.size + 2 ≤ 9223372036854775807 then (if (t310 ++ (⟨#[58, 32]⟩ : ByteArray)).size + t311.size ≤ 9223372036854775807 then (if ((t310 ++ (⟨#[58, 32]⟩ : ByteArray)) ++ t311).toList = t297.toList then (laws_FnTitleParts.j3 kj27 t297 t298 true false) else (laws_FnTitleParts.j3 kj27 t297 t298 true true)) else (none)) else (none))) = some r := by rw [if_pos rfl] at H; exact H
              clear H
              have H := H1
              clear H1
              by_cases c35 : t311.toList = ([] : List UInt8)
              ·rw [if_pos c35] at H
               have c35b0 : (t311.toList == ([] : List UInt8)) = true := beq_iff_eq.mpr c35
               have c35b1 : (t311.toList != ([] : List UInt8)) = false := bne_eq_false_iff_eq.mpr c35
               clear c35
               (first | rw [c35b0] | rw [c35b1] | rw [c35b2] | (simp only [i64_w, i32_w]; rw [c35b0]) | skip)
               as_aux_lemma =>
                have H' := Aside0.mk H
                clear H
                go_wp2
                go_meet
                case rel => exact ⟨_, ((t310.toList != t297.toList)), (by first | rfl | (simp; done) | (simp [*]; done)), H', ⟨by have := HJ6.out; have := HK2.out; have := HJ27.out; first | omega | exact Nat.le_refl _⟩, ⟨by repeat (first | (with_reducible first | exact HB.out | apply below_alloc | apply pw_below_drewN | apply below_drew1) | exact HB.out)⟩⟩
              ·rw [if_neg c35] at H
               have c35b0 : (t311.toList == ([] : List UInt8)) = false := beq_eq_false_iff_ne.mpr c35
               have c35b1 : (t311.toList != ([] : List UInt8)) = true := bne_iff_ne.mpr c35
               (first | rw [c35b0] | rw [c35b1] | rw [c35b2] | (simp only [i64_w, i32_w]; rw [c35b0]) | skip)
               by_cases c36 : t310.size + 2 ≤ 9223372036854775807
               ·rw [if_pos c36] at H
                have c36b0 := eq_true c36
                have c36b1 : decide (t310.size + 2 ≤ 9223372036854775807) = true := decide_eq_true c36
                try have c36b2 : (9223372036854775807 < t310.size + 2) = False := eq_false (Nat.not_lt.2 c36)
                by_cases c37 : (t310 ++ (⟨#[58, 32]⟩ : ByteArray)).size + t311.size ≤ 9223372036854775807
                ·rw [if_pos c37] at H
                 have c37b0 := eq_true c37
                 have c37b1 : decide ((t310 ++ (⟨#[58, 32]⟩ : ByteArray)).size + t311.size ≤ 9223372036854775807) = true := decide_eq_true c37
                 try have c37b2 : (9223372036854775807 < (t310 ++ (⟨#[58, 32]⟩ : ByteArray)).size + t311.size) = False := eq_false (Nat.not_lt.2 c37)
                 try have c37b3 : (9223372036854775807 < t310.size + 2 + t311.size) = False := eq_false (by have h_ := c37; simp only [ByteArray.size_append, ByteArray.size_extract] at h_; (try simp only [show (⟨#[58, 32]⟩ : ByteArray).size = 2 from rfl] at h_); (try have q0_ := of_eq_true c17b0); (try have q1_ := of_eq_true c35b0); (try have q3_ := of_eq_true c36b0); omega)
                 by_cases c38 : ((t310 ++ (⟨#[58, 32]⟩ : ByteArray)) ++ t311).toList = t297.toList
                 ·rw [if_pos c38] at H
                  have c38b0 : (((t310 ++ (⟨#[58, 32]⟩ : ByteArray)) ++ t311).toList == t297.toList) = true := beq_iff_eq.mpr c38
                  have c38b1 : (((t310 ++ (⟨#[58, 32]⟩ : ByteArray)) ++ t311).toList != t297.toList) = false := bne_eq_false_iff_eq.mpr c38
                  clear c38
                  as_aux_lemma =>
                   have H' := Aside0.mk H
                   clear H
                   go_wp2
                   go_meet
                   case rel => exact ⟨_, (false), (by first | rfl | (simp; done) | (simp [*]; done)), H', ⟨by have := HJ6.out; have := HK2.out; have := HJ27.out; first | omega | exact Nat.le_refl _⟩, ⟨by repeat (first | (with_reducible first | exact HB.out | apply below_alloc | apply pw_below_drewN | apply below_drew1) | exact HB.out)⟩⟩
                 ·rw [if_neg c38] at H
                  have c38b0 : (((t310 ++ (⟨#[58, 32]⟩ : ByteArray)) ++ t311).toList == t297.toList) = false := beq_eq_false_iff_ne.mpr c38
                  have c38b1 : (((t310 ++ (⟨#[58, 32]⟩ : ByteArray)) ++ t311).toList != t297.toList) = true := bne_iff_ne.mpr c38
                  as_aux_lemma =>
                   have H' := Aside0.mk H
                   clear H
                   go_wp2
                   go_meet
                   case rel => exact ⟨_, (true), (by first | rfl | (simp; done) | (simp [*]; done)), H', ⟨by have := HJ6.out; have := HK2.out; have := HJ27.out; first | omega | exact Nat.le_refl _⟩, ⟨by repeat (first | (with_reducible first | exact HB.out | apply below_alloc | apply pw_below_drewN | apply below_drew1) | exact HB.out)⟩⟩
                ·rw [if_neg c37] at H
                 exact absurd H (by simp)
               ·rw [if_neg c36] at H
                exact absurd H (by simp)
             ·replace c34 := Bool.eq_false_iff.mpr c34
              subst c34
              have H1 : (laws_FnTitleParts.j3 kj27 t297 t298 false false) = some r := by rw [if_neg (show ¬ (false = true) by decide)] at H; exact H
              clear H
              have H := H1
              clear H1
              as_aux_lemma =>
               have H' := Aside0.mk H
               clear H
               go_wp2
               go_meet
               case rel => exact ⟨_, (false), (by first | rfl | (simp; done) | (simp [*]; done)), H', ⟨by have := HJ6.out; have := HK2.out; have := HJ27.out; first | omega | exact Nat.le_refl _⟩, ⟨by repeat (first | (with_reducible first | exact HB.out | apply below_alloc | apply pw_below_drewN | apply below_drew1) | exact HB.out)⟩⟩
            case rest =>
             clear HC33
             try clear c1
             try clear q1
             try clear c2
             try clear p2
             try clear q2
             try clear c3
             try clear p3
             try clear q3
             try clear hx3
             try clear c4
             try clear c5
             try clear q5
             try clear c6
             try clear p6
             try clear c7
             try clear c9
             try clear c10
             try clear c11
             try clear c11b0
             try clear c11b1
             try clear c11b2
             try clear c15
             try clear c16
             try clear c17
             try clear c17b0
             try clear c18
             try clear c18b0
             try clear c19
             try clear c19b0
             try clear c19b1
             try clear c19b2
             try clear c20
             try clear c20b0
             try clear c21
             try clear c21b0
             try clear c21b1
             try clear c21b2
             try clear c23
             try clear c23b0
             try clear c24
             try clear c24b0
             try clear c24b1
             try clear c24b2
             try clear p30
             try clear q30
             try clear hx30
             try clear c31
             try clear c31b0
             try clear c31b1
             try clear c31b2
             try clear c32
             try clear c34
             try clear c35
             try clear c35b0
             try clear c35b1
             try clear c35b2
             try clear c36
             try clear c36b0
             try clear c36b1
             try clear c36b2
             try clear c37
             try clear c37b0
             try clear c37b1
             try clear c37b2
             try clear c38
             try clear c38b0
             try clear c38b1
             try clear hx308_0
             try clear hx309_0
             try clear p2
             try clear p3
             try clear p30
             try clear p308
             try clear p309
             try clear p6
             try clear q1
             try clear q2
             try clear q3
             try clear q30
             try clear q308
             try clear q309
             try clear q5
             obtain ⟨kq, x121_32, rfl, HA, HJ32, HB⟩ := hcut
             cases kq with
             | zero => exact absurd HA.out (by simp [laws_FnTitleParts.j3])
             | succ kj32 =>
              have H := HA.out
              clear HA
              simp only [laws_FnTitleParts.j3] at H
              by_cases c39 : x121_32 = true
              ·subst c39
               have H1 : (some false) = some r := by rw [if_pos rfl] at H; exact H
               clear H
               have H := H1
               clear H1
               as_aux_lemma =>
                obtain rfl := Option.some.inj H
                go_wp2
                go_ret
                exact ⟨by first | rfl | (simp [errW_none, errW_some] <;> rfl) | (simp [*, errW_none, errW_some] <;> rfl) | (simp [errW_none, errW_some] <;> (apply Bool.eq_iff_iff.2; simp [List.isEmpty_iff])), by repeat (first | (with_reducible first | exact HB.out | apply below_alloc | apply pw_below_drewN | apply below_drew1) | exact HB.out)⟩
              ·replace c39 := Bool.eq_false_iff.mpr c39
               subst c39
               have H1 : (if t312 = true then ((impl_ShortTitle.f kj32 t297 20).bind fun bt316 => ((spec_ShortTitle.f kj32 t297 20).bind fun bt318 => (if bt316.2 = true then (if bt316.1.toList = bt318.1.toList then (laws_FnTitleParts.j4 kj32 t297 t298) else (some false)) else (some false)))) else (laws_FnTitleParts.j4 kj32 t297 t298)) = some r := by rw [if_neg (show ¬ (false = true) by decide)] at H; exact H
               clear H
               have H := H1
               clear H1
               have HC40 := Aside0.mk H
               clear H
               go_upto_if 122 with (fail)
               go_cut [] (fun wc => ∃ (kq : Nat), Aside0 (laws_FnTitleParts.j4 kq t297 t298 = some r) ∧ Aside0 (kq ≤ kj32) ∧ Aside0 (Below w.heap.size w wc))
               case first =>
                have H := HC40.out
                clear HC40
                by_cases c41 : t312 = true
                ·subst c41
                 have H1 : ((impl_ShortTitle.f kj32 t297 20).bind fun bt316 => ((spec_ShortTitle.f kj32 t297 20).bind fun bt318 => (if bt316.2 = true then (if bt316.1.toList = bt318.1.toList then (laws_FnTitleParts.j4 kj32 t297 t298) else (some false)) else (some false)))) = some r := by rw [if_pos rfl] at H; exact H
                 clear H
                 have H := H1
                 clear H1
                 replace H := Option.bind_eq_some_iff.mp H
                 obtain ⟨⟨t316, t317⟩, A420, H⟩ := H
                 replace H : ((spec_ShortTitle.f kj32 t297 20).bind fun bt318 => (if t317 = true then (if t316.toList = bt318.1.toList then (laws_FnTitleParts.j4 kj32 t297 t298) else (some false)) else (some false))) = some r := H
                 have A42 := Aside0.mk A420
                 clear A420
                 replace H := Option.bind_eq_some_iff.mp H
                 obtain ⟨⟨t318, t319⟩, A430, H⟩ := H
                 replace H : (if t317 = true then (if t316.toList = t318.toList then (laws_FnTitleParts.j4 kj32 t297 t298) else (some false)) else (some false)) = some r := H
                 have A43 := Aside0.mk A430
                 clear A430
                 have HC44 := Aside0.mk H
                 clear H
                 go_upto_region 26 with (first | ((with_reducible refine gate_callee (f := 11) rfl ?_); refine goesL_ (some 125) rfl rfl Tryd.func11 (by kernel_rfl) rfl #[.string t297, .int .i64 20] rfl (by (try simp only [List.map_toArray, List.map_cons, List.map_nil]); first | done | rfl | (simp only [List.length_drop, List.length_take]; rfl)) ?_; (with_reducible refine (impl_ShortTitle.calls kj32 t297 20 t316 t317 _ ?side1 A42.out).mono ?_); (case side1 => exact Go.Proofs.YtiofklnfpmphnaaDoorW.Envs.Env.below HENV.out (by repeat (first | (with_reducible first | exact HB.out | apply below_alloc | apply pw_below_drewN | apply below_drew1) | exact HB.out))); rintro e w45 ⟨rfl, hb⟩; refine ⟨_, rfl, ?_⟩; have n0_ := Aside0.mk (below_step (by repeat (first | (with_reducible first | exact HB.out | apply below_alloc | apply pw_below_drewN | apply below_drew1) | exact HB.out)) hb); clear HB; have HB := n0_; clear n0_; (try clear hb); (try clear hb2); (try clear hk); (try clear hi)) | ((with_reducible refine gate_callee (f := 12) rfl ?_); refine goesL_ (some 130) rfl rfl Tryd.func12 (by kernel_rfl) rfl #[.string t297, .int .i64 20] rfl (by (try simp only [List.map_toArray, List.map_cons, List.map_nil]); first | done | rfl | (simp only [List.length_drop, List.length_take]; rfl)) ?_; (with_reducible refine (spec_ShortTitle.calls kj32 t297 20 t318 t319 _ A43.out).mono ?_); rintro e w46 ⟨rfl, hb⟩; refine ⟨_, rfl, ?_⟩; have n0_ := Aside0.mk (below_step (by repeat (first | (with_reducible first | exact HB.out | apply below_alloc | apply pw_below_drewN | apply below_drew1) | exact HB.out)) hb); clear HB; have HB := n0_; clear n0_; (try clear hb); (try clear hb2); (try clear hk); (try clear hi)))
                 have H := HC44.out
                 clear HC44
                 by_cases c47 : t317 = true
                 ·subst c47
                  have H1 : (if t316.toList = t318.toList then (laws_FnTitleParts.j4 kj32 t297 t298) else (some false)) = some r := by rw [if_pos rfl] at H; exact H
                  clear H
                  have H := H1
                  clear H1
                  by_cases c48 : t316.toList = t318.toList
                  ·rw [if_pos c48] at H
                   have c48b0 : (t316.toList == t318.toList) = true := beq_iff_eq.mpr c48
                   have c48b1 : (t316.toList != t318.toList) = false := bne_eq_false_iff_eq.mpr c48
                   clear c48
                   (first | rw [c48b0] | rw [c48b1] | rw [c48b2] | (simp only [i64_w, i32_w]; rw [c48b0]) | skip)
                   as_aux_lemma =>
                    have H' := Aside0.mk H
                    clear H
                    go_wp2
                    go_meet
                    case rel => exact ⟨_, H', ⟨by have := HJ6.out; have := HK2.out; have := HJ27.out; have := HJ32.out; first | omega | exact Nat.le_refl _⟩, ⟨by repeat (first | (with_reducible first | exact HB.out | apply below_alloc | apply pw_below_drewN | apply below_drew1) | exact HB.out)⟩⟩
                  ·rw [if_neg c48] at H
                   have c48b0 : (t316.toList == t318.toList) = false := beq_eq_false_iff_ne.mpr c48
                   have c48b1 : (t316.toList != t318.toList) = true := bne_iff_ne.mpr c48
                   (first | rw [c48b0] | rw [c48b1] | rw [c48b2] | (simp only [i64_w, i32_w]; rw [c48b0]) | skip)
                   as_aux_lemma =>
                    obtain rfl := Option.some.inj H
                    go_wp2
                    go_ret
                    exact ⟨by first | rfl | (simp [errW_none, errW_some] <;> rfl) | (simp [*, errW_none, errW_some] <;> rfl) | (simp [errW_none, errW_some] <;> (apply Bool.eq_iff_iff.2; simp [List.isEmpty_iff])), by repeat (first | (with_reducible first | exact HB.out | apply below_alloc | apply pw_below_drewN | apply below_drew1) | exact HB.out)⟩
                 ·replace c47 := Bool.eq_false_iff.mpr c47
                  subst c47
                  have H1 : (some false) = some r := by rw [if_neg (show ¬ (false = true) by decide)] at H; exact H
                  clear H
                  have H := H1
                  clear H1
                  as_aux_lemma =>
                   obtain rfl := Option.some.inj H
                   go_wp2
                   go_ret
                   exact ⟨by first | rfl | (simp [errW_none, errW_some] <;> rfl) | (simp [*, errW_none, errW_some] <;> rfl) | (simp [errW_none, errW_some] <;> (apply Bool.eq_iff_iff.2; simp [List.isEmpty_iff])), by repeat (first | (with_reducible first | exact HB.out | apply below_alloc | apply pw_below_drewN | apply below_drew1) | exact HB.out)⟩
                ·replace c41 := Bool.eq_false_iff.mpr c41
                 subst c41
                 have H1 : (laws_FnTitleParts.j4 kj32 t297 t298) = some r := by rw [if_neg (show ¬ (false = true) by decide)] at H; exact H
                 clear H
                 have H := H1
                 clear H1
                 as_aux_lemma =>
                  have H' := Aside0.mk H
                  clear H
                  go_wp2
                  go_meet
                  case rel => exact ⟨_, H', ⟨by have := HJ6.out; have := HK2.out; have := HJ27.out; have := HJ32.out; first | omega | exact Nat.le_refl _⟩, ⟨by repeat (first | (with_reducible first | exact HB.out | apply below_alloc | apply pw_below_drewN | apply below_drew1) | exact HB.out)⟩⟩
               case rest =>
                clear HC40
                try clear c1
                try clear q1
                try clear c2
                try clear p2
                try clear q2
                try clear c3
                try clear p3
                try clear q3
                try clear hx3
                try clear c4
                try clear c5
                try clear q5
                try clear c6
                try clear p6
                try clear c7
                try clear c9
                try clear c10
                try clear c11
                try clear c11b0
                try clear c11b1
                try clear c11b2
                try clear c12
                try clear c15
                try clear c16
                try clear c17
                try clear c17b0
                try clear c18
                try clear c18b0
                try clear c19
                try clear c19b0
                try clear c19b1
                try clear c19b2
                try clear c20
                try clear c20b0
                try clear c21
                try clear c21b0
                try clear c21b1
                try clear c21b2
                try clear c23
                try clear c23b0
                try clear c24
                try clear c24b0
                try clear c24b1
                try clear c24b2
                try clear p30
                try clear q30
                try clear hx30
                try clear c31
                try clear c31b0
                try clear c31b1
                try clear c31b2
                try clear c32
                try clear c34
                try clear c35
                try clear c35b0
                try clear c35b1
                try clear c35b2
                try clear c36
                try clear c36b0
                try clear c36b1
                try clear c36b2
                try clear c37
                try clear c37b0
                try clear c37b1
                try clear c37b2
                try clear c38
                try clear c38b0
                try clear c38b1
                try clear c39
                try clear c41
                try clear c47
                try clear c48
                try clear c48b0
                try clear c48b1
                try clear c48b2
                try clear hx308_0
                try clear hx309_0
                try clear p2
                try clear p3
                try clear p30
                try clear p308
                try clear p309
                try clear p6
                try clear q1
                try clear q2
                try clear q3
                try clear q30
                try clear q308
                try clear q309
                try clear q5
                obtain ⟨kq, HA, HJ39, HB⟩ := hcut
                cases kq with
                | zero => exact absurd HA.out (by simp [laws_FnTitleParts.j4])
                | succ kj39 =>
                 have H := HA.out
                 clear HA
                 simp only [laws_FnTitleParts.j4] at H
                 replace H := Option.bind_eq_some_iff.mp H
                 obtain ⟨⟨t320, t321⟩, A490, H⟩ := H
                 replace H : ((spec_ProtectTitle.f kj39 t297 t298).bind fun bt322 => (if (t321 != bt322.2) = true then (laws_FnTitleParts.j5 kj39 t297 t320 t321 true) else (laws_FnTitleParts.j5 kj39 t297 t320 t321 (t320.toList != bt322.1.toList)))) = some r := H
                 have A49 := Aside0.mk A490
                 clear A490
                 replace H := Option.bind_eq_some_iff.mp H
                 obtain ⟨⟨t322, t323⟩, A500, H⟩ := H
                 replace H : (if (t321 != t323) = true then (laws_FnTitleParts.j5 kj39 t297 t320 t321 true) else (laws_FnTitleParts.j5 kj39 t297 t320 t321 (t320.toList != t322.toList))) = some r := H
                 have A50 := Aside0.mk A500
                 clear A500
                 have HC51 := Aside0.mk H
                 clear H
                 go_upto_region 30 with (first | ((with_reducible refine gate_callee (f := 13) rfl ?_); refine goesL_ (some 143) rfl rfl Tryd.func13 (by kernel_rfl) rfl #[.string t297, .string t298] rfl (by (try simp only [List.map_toArray, List.map_cons, List.map_nil]); first | done | rfl | (simp only [List.length_drop, List.length_take]; rfl)) ?_; (with_reducible refine (impl_ProtectTitle.calls kj39 t297 t298 t320 t321 _ ?side1 A49.out).mono ?_); (case side1 => exact Go.Proofs.YtiofklnfpmphnaaDoorW.Envs.Env.below HENV.out (by repeat (first | (with_reducible first | exact HB.out | apply below_alloc | apply pw_below_drewN | apply below_drew1) | exact HB.out))); rintro e w52 ⟨rfl, hb⟩; refine ⟨_, rfl, ?_⟩; have n0_ := Aside0.mk (below_step (by repeat (first | (with_reducible first | exact HB.out | apply below_alloc | apply pw_below_drewN | apply below_drew1) | exact HB.out)) hb); clear HB; have HB := n0_; clear n0_; (try clear hb); (try clear hb2); (try clear hk); (try clear hi)) | ((with_reducible refine gate_callee (f := 14) rfl ?_); refine goesL_ (some 149) rfl rfl Tryd.func14 (by kernel_rfl) rfl #[.string t297, .string t298] rfl (by (try simp only [List.map_toArray, List.map_cons, List.map_nil]); first | done | rfl | (simp only [List.length_drop, List.length_take]; rfl)) ?_; (with_reducible refine (spec_ProtectTitle.calls kj39 t297 t298 t322 t323 _ A50.out).mono ?_); rintro e w53 ⟨rfl, hb⟩; refine ⟨_, rfl, ?_⟩; have n0_ := Aside0.mk (below_step (by repeat (first | (with_reducible first | exact HB.out | apply below_alloc | apply pw_below_drewN | apply below_drew1) | exact HB.out)) hb); clear HB; have HB := n0_; clear n0_; (try clear hb); (try clear hb2); (try clear hk); (try clear hi)))
                 (try simp only [Act.put, List.setIfInBounds_toArray, List.set_cons_zero, List.set_cons_succ])
                 go_cut [159] (fun v159 wc => ∃ (kq : Nat) (x159_50 : Bool), v159 = .bool x159_50 ∧ Aside0 (laws_FnTitleParts.j5 kq t297 t320 t321 x159_50 = some r) ∧ Aside0 (kq ≤ kj39) ∧ Aside0 (Below w.heap.size w wc))
                 case first =>
                  have H := HC51.out
                  clear HC51
                  by_cases c54 : (t321 != t323) = true
                  ·rw [if_pos c54] at H
                   have c54b0 : (t321 != t323) = true := c54
                   (try (have c54b1 : decide (t321 = t323) = false := by simpa using c54))
                   (try (have c54b2 : (t321 == t323) = false := by simpa using c54))
                   (try (have c54b3 : ¬ (t321 = t323) := by simpa using c54))
                   clear c54
                   (first | rw [c54b0] | rw [c54b1] | rw [c54b2] | (simp only [i64_w, i32_w]; rw [c54b0]) | skip)
                   as_aux_lemma =>
                    have H' := Aside0.mk H
                    clear H
                    go_wp2
                    go_meet
                    case rel => exact ⟨_, (true), (by first | rfl | (simp; done) | (simp [*]; done)), H', ⟨by have := HJ6.out; have := HK2.out; have := HJ27.out; have := HJ32.out; have := HJ39.out; first | omega | exact Nat.le_refl _⟩, ⟨by repeat (first | (with_reducible first | exact HB.out | apply below_alloc | apply pw_below_drewN | apply below_drew1) | exact HB.out)⟩⟩
                  ·rw [if_neg c54] at H
                   have c54b0 : (t321 != t323) = false := by simpa using c54
                   (try (have c54b1 : decide (t321 = t323) = true := by simpa using c54))
                   (try (have c54b2 : (t321 == t323) = true := by simpa using c54))
                   clear c54
                   (first | rw [c54b0] | rw [c54b1] | rw [c54b2] | (simp only [i64_w, i32_w]; rw [c54b0]) | skip)
                   as_aux_lemma =>
                    have H' := Aside0.mk H
                    clear H
                    go_wp2
                    go_meet
                    case rel => exact ⟨_, ((t320.toList != t322.toList)), (by first | rfl | (simp; done) | (simp [*]; done)), H', ⟨by have := HJ6.out; have := HK2.out; have := HJ27.out; have := HJ32.out; have := HJ39.out; first | omega | exact Nat.le_refl _⟩, ⟨by repeat (first | (with_reducible first | exact HB.out | apply below_alloc | apply pw_below_drewN | apply below_drew1) | exact HB.out)⟩⟩
                 case rest =>
                  clear HC51
                  try clear c1
                  try clear q1
                  try clear c2
                  try clear p2
                  try clear q2
                  try clear c3
                  try clear p3
                  try clear q3
                  try clear hx3
                  try clear c4
                  try clear c5
                  try clear q5
                  try clear c6
                  try clear p6
                  try clear c7
                  try clear c9
                  try clear c10
                  try clear c11
                  try clear c11b0
                  try clear c11b1
                  try clear c11b2
                  try clear c12
                  try clear c13
                  try clear c14
                  try clear c15
                  try clear c16
                  try clear c17
                  try clear c17b0
                  try clear c18
                  try clear c18b0
                  try clear c19
                  try clear c19b0
                  try clear c19b1
                  try clear c19b2
                  try clear c20
                  try clear c20b0
                  try clear c21
                  try clear c21b0
                  try clear c21b1
                  try clear c21b2
                  try clear c23
                  try clear c23b0
                  try clear c24
                  try clear c24b0
                  try clear c24b1
                  try clear c24b2
                  try clear p30
                  try clear q30
                  try clear hx30
                  try clear c31
                  try clear c31b0
                  try clear c31b1
                  try clear c31b2
                  try clear c32
                  try clear c34
                  try clear c35
                  try clear c35b0
                  try clear c35b1
                  try clear c35b2
                  try clear c36
                  try clear c36b0
                  try clear c36b1
                  try clear c36b2
                  try clear c37
                  try clear c37b0
                  try clear c37b1
                  try clear c37b2
                  try clear c38
                  try clear c38b0
                  try clear c38b1
                  try clear c39
                  try clear c41
                  try clear c47
                  try clear c48
                  try clear c48b0
                  try clear c48b1
                  try clear c48b2
                  try clear c54
                  try clear c54b0
                  try clear c54b1
                  try clear c54b2
                  try clear hx308_0
                  try clear hx309_0
                  try clear p2
                  try clear p3
                  try clear p30
                  try clear p308
                  try clear p309
                  try clear p6
                  try clear q1
                  try clear q2
                  try clear q3
                  try clear q30
                  try clear q308
                  try clear q309
                  try clear q5
                  obtain ⟨kq, x159_50, rfl, HA, HJ50, HB⟩ := hcut
                  cases kq with
                  | zero => exact absurd HA.out (by simp [laws_FnTitleParts.j5])
                  | succ kj50 =>
                   have H := HA.out
                   clear HA
                   simp only [laws_FnTitleParts.j5] at H
                   by_cases c55 : x159_50 = true
                   ·subst c55
                    have H1 : (some false) = some r := by rw [if_pos rfl] at H; exact H
                    clear H
                    have H := H1
                    clear H1
                    as_aux_lemma =>
                     obtain rfl := Option.some.inj H
                     go_wp2
                     go_ret
                     exact ⟨by first | rfl | (simp [errW_none, errW_some] <;> rfl) | (simp [*, errW_none, errW_some] <;> rfl) | (simp [errW_none, errW_some] <;> (apply Bool.eq_iff_iff.2; simp [List.isEmpty_iff])), by repeat (first | (with_reducible first | exact HB.out | apply below_alloc | apply pw_below_drewN | apply below_drew1) | exact HB.out)⟩
                   ·replace c55 := Bool.eq_false_iff.mpr c55
                    subst c55
                    have H1 : (if t321 = true then ((impl_PlainTitle.f kj50 t297).bind fun bt324 => ((impl_PlainTitle.f kj50 t320).bind fun bt326 => ((impl_SortTitle.f kj50 t297).bind fun bt328 => ((impl_SortTitle.f kj50 t320).bind fun bt330 => (if bt324.2 = true then (if bt326.2 = true then (if bt328.2 = true then (if bt330.2 = true then (if bt324.1.toList = bt326.1.toList then (some (bt328.1.toList == bt330.1.toList)) else (some false)) else (some false)) else (some false)) else (some false)) else (some false)))))) else (some true)) = some r := by rw [if_neg (show ¬ (false = true) by decide)] at H; exact H
                    clear H
                    have H := H1
                    clear H1
                    by_cases c56 : t321 = true
                    ·subst c56
                     have H1 : ((impl_PlainTitle.f kj50 t297).bind fun bt324 => ((impl_PlainTitle.f kj50 t320).bind fun bt326 => ((impl_SortTitle.f kj50 t297).bind fun bt328 => ((impl_SortTitle.f kj50 t320).bind fun bt330 => (if bt324.2 = true then (if bt326.2 = true then (if bt328.2 = true then (if bt330.2 = true then (if bt324.1.toList = bt326.1.toList then (some (bt328.1.toList == bt330.1.toList)) else (some false)) else (some false)) else (some false)) else (some false)) else (some false)))))) = some r := by rw [if_pos rfl] at H; exact H
                     clear H
                     have H := H1
                     clear H1
                     replace H := Option.bind_eq_some_iff.mp H
                     obtain ⟨⟨t324, t325⟩, A570, H⟩ := H
                     replace H : ((impl_PlainTitle.f kj50 t320).bind fun bt326 => ((impl_SortTitle.f kj50 t297).bind fun bt328 => ((impl_SortTitle.f kj50 t320).bind fun bt330 => (if t325 = true then (if bt326.2 = true then (if bt328.2 = true then (if bt330.2 = true then (if t324.toList = bt326.1.toList then (some (bt328.1.toList == bt330.1.toList)) else (some false)) else (some false)) else (some false)) else (some false)) else (some false))))) = some r := H
                     have A57 := Aside0.mk A570
                     clear A570
                     replace H := Option.bind_eq_some_iff.mp H
                     obtain ⟨⟨t326, t327⟩, A580, H⟩ := H
                     replace H : ((impl_SortTitle.f kj50 t297).bind fun bt328 => ((impl_SortTitle.f kj50 t320).bind fun bt330 => (if t325 = true then (if t327 = true then (if bt328.2 = true then (if bt330.2 = true then (if t324.toList = t326.toList then (some (bt328.1.toList == bt330.1.toList)) else (some false)) else (some false)) else (some false)) else (some false)) else (some false)))) = some r := H
                     have A58 := Aside0.mk A580
                     clear A580
                     replace H := Option.bind_eq_some_iff.mp H
                     obtain ⟨⟨t328, t329⟩, A590, H⟩ := H
                     replace H : ((impl_SortTitle.f kj50 t320).bind fun bt330 => (if t325 = true then (if t327 = true then (if t329 = true then (if bt330.2 = true then (if t324.toList = t326.toList then (some (t328.toList == bt330.1.toList)) else (some false)) else (some false)) else (some false)) else (some false)) else (some false))) = some r := H
                     have A59 := Aside0.mk A590
                     clear A590
                     replace H := Option.bind_eq_some_iff.mp H
                     obtain ⟨⟨t330, t331⟩, A600, H⟩ := H
                     replace H : (if t325 = true then (if t327 = true then (if t329 = true then (if t331 = true then (if t324.toList = t326.toList then (some (t328.toList == t330.toList)) else (some false)) else (some false)) else (some false)) else (some false)) else (some false)) = some r := H
                     have A60 := Aside0.mk A600
                     clear A600
                     have HC61 := Aside0.mk H
                     clear H
                     go_upto_region 38 with (first | ((with_reducible refine gate_callee (f := 15) rfl ?_); refine goesL_ (some 164) rfl rfl Tryd.func15 (by kernel_rfl) rfl #[.string t297] rfl (by (try simp only [List.map_toArray, List.map_cons, List.map_nil]); first | done | rfl | (simp only [List.length_drop, List.length_take]; rfl)) ?_; (with_reducible refine (impl_PlainTitle.calls kj50 t297 t324 t325 _ ?side1 A57.out).mono ?_); (case side1 => exact Go.Proofs.YtiofklnfpmphnaaDoorW.Envs.Env.below HENV.out (by repeat (first | (with_reducible first | exact HB.out | apply below_alloc | apply pw_below_drewN | apply below_drew1) | exact HB.out))); rintro e w62 ⟨rfl, hb⟩; refine ⟨_, rfl, ?_⟩; have n0_ := Aside0.mk (below_step (by repeat (first | (with_reducible first | exact HB.out | apply below_alloc | apply pw_below_drewN | apply below_drew1) | exact HB.out)) hb); clear HB; have HB := n0_; clear n0_; (try clear hb); (try clear hb2); (try clear hk); (try clear hi)) | ((with_reducible refine gate_callee (f := 15) rfl ?_); refine goesL_ (some 169) rfl rfl Tryd.func15 (by kernel_rfl) rfl #[.string t320] rfl (by (try simp only [List.map_toArray, List.map_cons, List.map_nil]); first | done | rfl | (simp only [List.length_drop, List.length_take]; rfl)) ?_; (with_reducible refine (impl_PlainTitle.calls kj50 t320 t326 t327 _ ?side1 A58.out).mono ?_); (case side1 => exact Go.Proofs.YtiofklnfpmphnaaDoorW.Envs.Env.below HENV.out (by repeat (first | (with_reducible first | exact HB.out | apply below_alloc | apply pw_below_drewN | apply below_drew1) | exact HB.out))); rintro e w63 ⟨rfl, hb⟩; refine ⟨_, rfl, ?_⟩; have n0_ := Aside0.mk (below_step (by repeat (first | (with_reducible first | exact HB.out | apply below_alloc | apply pw_below_drewN | apply below_drew1) | exact HB.out)) hb); clear HB; have HB := n0_; clear n0_; (try clear hb); (try clear hb2); (try clear hk); (try clear hi)) | ((with_reducible refine gate_callee (f := 16) rfl ?_); refine goesL_ (some 174) rfl rfl Tryd.func16 (by kernel_rfl) rfl #[.string t297] rfl (by (try simp only [List.map_toArray, List.map_cons, List.map_nil]); first | done | rfl | (simp only [List.length_drop, List.length_take]; rfl)) ?_; (with_reducible refine (impl_SortTitle.calls kj50 t297 t328 t329 _ ?side1 A59.out).mono ?_); (case side1 => exact Go.Proofs.YtiofklnfpmphnaaDoorW.Envs.Env.below HENV.out (by repeat (first | (with_reducible first | exact HB.out | apply below_alloc | apply pw_below_drewN | apply below_drew1) | exact HB.out))); rintro e w64 ⟨rfl, hb⟩; refine ⟨_, rfl, ?_⟩; have n0_ := Aside0.mk (below_step (by repeat (first | (with_reducible first | exact HB.out | apply below_alloc | apply pw_below_drewN | apply below_drew1) | exact HB.out)) hb); clear HB; have HB := n0_; clear n0_; (try clear hb); (try clear hb2); (try clear hk); (try clear hi)) | ((with_reducible refine gate_callee (f := 16) rfl ?_); refine goesL_ (some 179) rfl rfl Tryd.func16 (by kernel_rfl) rfl #[.string t320] rfl (by (try simp only [List.map_toArray, List.map_cons, List.map_nil]); first | done | rfl | (simp only [List.length_drop, List.length_take]; rfl)) ?_; (with_reducible refine (impl_SortTitle.calls kj50 t320 t330 t331 _ ?side1 A60.out).mono ?_); (case side1 => exact Go.Proofs.YtiofklnfpmphnaaDoorW.Envs.Env.below HENV.out (by repeat (first | (with_reducible first | exact HB.out | apply below_alloc | apply pw_below_drewN | apply below_drew1) | exact HB.out))); rintro e w65 ⟨rfl, hb⟩; refine ⟨_, rfl, ?_⟩; have n0_ := Aside0.mk (below_step (by repeat (first | (with_reducible first | exact HB.out | apply below_alloc | apply pw_below_drewN | apply below_drew1) | exact HB.out)) hb); clear HB; have HB := n0_; clear n0_; (try clear hb); (try clear hb2); (try clear hk); (try clear hi)))
                     have H := HC61.out
                     clear HC61
                     by_cases c66 : t325 = true
                     ·subst c66
                      have H1 : (if t327 = true then (if t329 = true then (if t331 = true then (if t324.toList = t326.toList then (some (t328.toList == t330.toList)) else (some false)) else (some false)) else (some false)) else (some false)) = some r := by rw [if_pos rfl] at H; exact H
                      clear H
                      have H := H1
                      clear H1
                      by_cases c67 : t327 = true
                      ·subst c67
                       have H1 : (if t329 = true then (if t331 = true then (if t324.toList = t326.toList then (some (t328.toList == t330.toList)) else (some false)) else (some false)) else (some false)) = some r := by rw [if_pos rfl] at H; exact H
                       clear H
                       have H := H1
                       clear H1
                       by_cases c68 : t329 = true
                       ·subst c68
                        have H1 : (if t331 = true then (if t324.toList = t326.toList then (some (t328.toList == t330.toList)) else (some false)) else (some false)) = some r := by rw [if_pos rfl] at H; exact H
                        clear H
                        have H := H1
                        clear H1
                        by_cases c69 : t331 = true
                        ·subst c69
                         have H1 : (if t324.toList = t326.toList then (some (t328.toList == t330.toList)) else (some false)) = some r := by rw [if_pos rfl] at H; exact H
                         clear H
                         have H := H1
                         clear H1
                         by_cases c70 : t324.toList = t326.toList
                         ·rw [if_pos c70] at H
                          have c70b0 : (t324.toList == t326.toList) = true := beq_iff_eq.mpr c70
                          have c70b1 : (t324.toList != t326.toList) = false := bne_eq_false_iff_eq.mpr c70
                          clear c70
                          (first | rw [c70b0] | rw [c70b1] | rw [c70b2] | (simp only [i64_w, i32_w]; rw [c70b0]) | skip)
                          as_aux_lemma =>
                           obtain rfl := Option.some.inj H
                           go_wp2
                           go_ret
                           exact ⟨by first | rfl | (simp [errW_none, errW_some] <;> rfl) | (simp [*, errW_none, errW_some] <;> rfl) | (simp [errW_none, errW_some] <;> (apply Bool.eq_iff_iff.2; simp [List.isEmpty_iff])), by repeat (first | (with_reducible first | exact HB.out | apply below_alloc | apply pw_below_drewN | apply below_drew1) | exact HB.out)⟩
                         ·rw [if_neg c70] at H
                          have c70b0 : (t324.toList == t326.toList) = false := beq_eq_false_iff_ne.mpr c70
                          have c70b1 : (t324.toList != t326.toList) = true := bne_iff_ne.mpr c70
                          (first | rw [c70b0] | rw [c70b1] | rw [c70b2] | (simp only [i64_w, i32_w]; rw [c70b0]) | skip)
                          as_aux_lemma =>
                           obtain rfl := Option.some.inj H
                           go_wp2
                           go_ret
                           exact ⟨by first | rfl | (simp [errW_none, errW_some] <;> rfl) | (simp [*, errW_none, errW_some] <;> rfl) | (simp [errW_none, errW_some] <;> (apply Bool.eq_iff_iff.2; simp [List.isEmpty_iff])), by repeat (first | (with_reducible first | exact HB.out | apply below_alloc | apply pw_below_drewN | apply below_drew1) | exact HB.out)⟩
                        ·replace c69 := Bool.eq_false_iff.mpr c69
                         subst c69
                         have H1 : (some false) = some r := by rw [if_neg (show ¬ (false = true) by decide)] at H; exact H
                         clear H
                         have H := H1
                         clear H1
                         as_aux_lemma =>
                          obtain rfl := Option.some.inj H
                          go_wp2
                          go_ret
                          exact ⟨by first | rfl | (simp [errW_none, errW_some] <;> rfl) | (simp [*, errW_none, errW_some] <;> rfl) | (simp [errW_none, errW_some] <;> (apply Bool.eq_iff_iff.2; simp [List.isEmpty_iff])), by repeat (first | (with_reducible first | exact HB.out | apply below_alloc | apply pw_below_drewN | apply below_drew1) | exact HB.out)⟩
                       ·replace c68 := Bool.eq_false_iff.mpr c68
                        subst c68
                        have H1 : (some false) = some r := by rw [if_neg (show ¬ (false = true) by decide)] at H; exact H
                        clear H
                        have H := H1
                        clear H1
                        as_aux_lemma =>
                         obtain rfl := Option.some.inj H
                         go_wp2
                         go_ret
                         exact ⟨by first | rfl | (simp [errW_none, errW_some] <;> rfl) | (simp [*, errW_none, errW_some] <;> rfl) | (simp [errW_none, errW_some] <;> (apply Bool.eq_iff_iff.2; simp [List.isEmpty_iff])), by repeat (first | (with_reducible first | exact HB.out | apply below_alloc | apply pw_below_drewN | apply below_drew1) | exact HB.out)⟩
                      ·replace c67 := Bool.eq_false_iff.mpr c67
                       subst c67
                       have H1 : (some false) = some r := by rw [if_neg (show ¬ (false = true) by decide)] at H; exact H
                       clear H
                       have H := H1
                       clear H1
                       as_aux_lemma =>
                        obtain rfl := Option.some.inj H
                        go_wp2
                        go_ret
                        exact ⟨by first | rfl | (simp [errW_none, errW_some] <;> rfl) | (simp [*, errW_none, errW_some] <;> rfl) | (simp [errW_none, errW_some] <;> (apply Bool.eq_iff_iff.2; simp [List.isEmpty_iff])), by repeat (first | (with_reducible first | exact HB.out | apply below_alloc | apply pw_below_drewN | apply below_drew1) | exact HB.out)⟩
                     ·replace c66 := Bool.eq_false_iff.mpr c66
                      subst c66
                      have H1 : (some false) = some r := by rw [if_neg (show ¬ (false = true) by decide)] at H; exact H
                      clear H
                      have H := H1
                      clear H1
                      as_aux_lemma =>
                       obtain rfl := Option.some.inj H
                       go_wp2
                       go_ret
                       exact ⟨by first | rfl | (simp [errW_none, errW_some] <;> rfl) | (simp [*, errW_none, errW_some] <;> rfl) | (simp [errW_none, errW_some] <;> (apply Bool.eq_iff_iff.2; simp [List.isEmpty_iff])), by repeat (first | (with_reducible first | exact HB.out | apply below_alloc | apply pw_below_drewN | apply below_drew1) | exact HB.out)⟩
                    ·replace c56 := Bool.eq_false_iff.mpr c56
                     subst c56
                     have H1 : (some true) = some r := by rw [if_neg (show ¬ (false = true) by decide)] at H; exact H
                     clear H
                     have H := H1
                     clear H1
                     as_aux_lemma =>
                      obtain rfl := Option.some.inj H
                      go_wp2
                      go_ret
                      exact ⟨by first | rfl | (simp [errW_none, errW_some] <;> rfl) | (simp [*, errW_none, errW_some] <;> rfl) | (simp [errW_none, errW_some] <;> (apply Bool.eq_iff_iff.2; simp [List.isEmpty_iff])), by repeat (first | (with_reducible first | exact HB.out | apply below_alloc | apply pw_below_drewN | apply below_drew1) | exact HB.out)⟩
     ·replace c16 := Bool.eq_false_iff.mpr c16
      subst c16
      have H1 : (some true) = some r := by rw [if_neg (show ¬ (false = true) by decide)] at H; exact H
      clear H
      have H := H1
      clear H1
      as_aux_lemma =>
       obtain rfl := Option.some.inj H
       go_wp2
       go_ret
       exact ⟨by first | rfl | (simp [errW_none, errW_some] <;> rfl) | (simp [*, errW_none, errW_some] <;> rfl) | (simp [errW_none, errW_some] <;> (apply Bool.eq_iff_iff.2; simp [List.isEmpty_iff])), by repeat (first | (with_reducible first | exact HB.out | apply below_alloc | apply pw_below_drewN | apply below_drew1) | exact HB.out)⟩

/-- THE ONE PURE STATEMENT of laws_FnTitleParts: yours. -/
def laws_FnTitleParts.Pure : Prop := ∀ (l0 : List Int), l0.length ≤ maxLen → l0.length * 1 ≤ 140737488351232 → (∀ x ∈ l0, (Lit.int .u8 x).wf = true) → ∃ k, laws_FnTitleParts.f k l0 = some true
theorem laws_FnTitleParts.walk (P : laws_FnTitleParts.Pure) (a0 : Option Addr) (len0 cap0 : Nat) (z0 : List Int) (w : World) (w0 : (a0 = none ∧ len0 = 0 ∧ cap0 = 0 ∧ z0 = []) ∨ ∃ x, a0 = some x ∧ len0 ≤ cap0 ∧ cap0 ≤ maxLen ∧ z0.length = cap0 ∧ (∀ i, i < z0.length → w.cell? (x.add i) = some (.int .u8 (z0.getD i 0))) ∧ ∀ n ∈ z0, (Lit.int .u8 n).wf = true) (y0 : len0 * 1 ≤ 140737488351232) (henv : Go.Proofs.YtiofklnfpmphnaaDoorW.Envs.Env [0] w) :
  Calls Tryd.prog 3 #[.slice a0 len0 cap0] w fun e w' => e = .returned (.bool true) ∧ Below w.heap.size w w' := by
 obtain ⟨l0, rfl, hr0, hm0, hw0, hc0⟩ := ReadsInt.ofRowC w0
 obtain ⟨k, h⟩ := P l0 hm0 y0 hw0
 refine (laws_FnTitleParts.calls k _ _ l0 true w (Kd.C_of_reads (d := (0 : Int)) (h1 := fun _ => rfl) hr0) hc0 henv h).mono ?_
 rintro e w' ⟨rfl, hd⟩
 exact ⟨rfl, hd⟩

end Go.Proofs.YtiofklnfpmphnaaDoor.Px
