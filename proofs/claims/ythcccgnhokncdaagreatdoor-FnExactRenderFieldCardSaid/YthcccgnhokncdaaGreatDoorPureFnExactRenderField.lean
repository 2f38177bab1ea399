/- The law FnExactRenderField, as a statement over numbers and lists: the program's function and the reference's answer alike, for every input; no further condition. -/
import Derived.Test.YthcccgnhokncdaaGreatDoorPx13
import Derived.Test.YthcccgnhokncdaaGreatDoorQEntH
namespace Go.Proofs.YthcccgnhokncdaaGreatDoor.Pure
open Go.RowKit Go.Proofs.YthcccgnhokncdaaGreatDoor.Px Go.Proofs.YthcccgnhokncdaaGreatDoorW.PrintWords Go.Proofs.YthcccgnhokncdaaGreatDoorW.PrintLast
set_option linter.unusedVariables false
set_option linter.unusedSimpArgs false

theorem law_ev (e : En1) (w : En1W e) (n : Int) (f : ByteArray) : Ev (fun k => laws_FnExactRenderField.f k e.key e.kind e.au e.ed e.ti e.co e.pu e.y e.m e.d e.c e.vol e.pg e.cr n f) true := by
  unfold laws_FnExactRenderField.f
  by_cases c0 : (f.size : Int) > 1048576
  · exact Ev.congr (fun _ => if_pos c0) (Ev.now _)
  refine Ev.congr (fun _ => if_neg c0) ?_
  obtain ⟨t, e1, ht, o1⟩ := sz_e e w 1048576 (by omega) (by omega)
  refine Ev.bind e1 ?_
  by_cases c1 : t < 0
  · exact Ev.congr (fun _ => if_pos c1) (Ev.now _)
  refine Ev.congr (fun _ => if_neg c1) ?_
  have oe := o1 (by omega)
  have te := to_e e oe
  obtain ⟨r, hs, hi⟩ := ans_both e.cv oe n f
  refine Ev.bind te (Ev.bind hs (Ev.bind te (Ev.bind hi (Ev.congr (fun _ => if_pos rfl) (Ev.congr (fun _ => if_neg ?_) (Ev.bind te (Ev.bind (eq_e e.cv oe) (Ev.congr (fun _ => if_pos rfl) (Ev.now _)))))))))
  simp
theorem FnExactRenderField : laws_FnExactRenderField.Pure := by
  intro a0_0 a0_1 l0_2 l0_3 a0_4 a0_5 a0_6 a0_7 a0_8 a0_9 a0_10 a0_11 a0_12 a0_13 a1 a2 h0 h1 h2
  obtain ⟨p0, _, p2, p3, p4, p5, p6, _, _, p9, p10⟩ := h0
  obtain ⟨K, hK⟩ := law_ev ⟨a0_0, a0_1, l0_2, l0_3, a0_4, a0_5, a0_6, a0_7, a0_8, a0_9, a0_10, a0_11, a0_12, a0_13⟩ ⟨p0, ⟨p2.1, p2.2⟩, ⟨p3.1, p3.2⟩, p4, p5, p6, p9, p10⟩ a1 a2
  exact ⟨K, hK K (Nat.le_refl _)⟩

end Go.Proofs.YthcccgnhokncdaaGreatDoor.Pure
