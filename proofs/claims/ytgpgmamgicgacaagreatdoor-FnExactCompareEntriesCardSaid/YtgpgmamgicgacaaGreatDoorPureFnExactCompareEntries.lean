/- The law over numbers and lists; no further condition. -/
import Derived.Test.YtgpgmamgicgacaaGreatDoorPx13
import Derived.Test.YtgpgmamgicgacaaGreatDoorQEntH
namespace Go.Proofs.YtgpgmamgicgacaaGreatDoor.Pure
open Go.RowKit Go.Proofs.YtgpgmamgicgacaaGreatDoor.Px Go.Proofs.YtgpgmamgicgacaaGreatDoorW.PrintWords Go.Proofs.YtgpgmamgicgacaaGreatDoorW.PrintLast
theorem law_ev (e f : En1) (we : En1W e) (wf : En1W f) : Ev (fun k => laws_FnExactCompareEntries.f k e.key e.kind e.au e.ed e.ti e.co e.pu e.y e.m e.d e.c e.vol e.pg e.cr f.key f.kind f.au f.ed f.ti f.co f.pu f.y f.m f.d f.c f.vol f.pg f.cr) true := by
  obtain ⟨t, e1, ht, o1⟩ := sz_e e we 1048576 (by omega) (by omega)
  unfold laws_FnExactCompareEntries.f
  refine Ev.bind e1 ?_
  by_cases c1 : t < 0
  · exact Ev.congr (fun _ => if_pos c1) (Ev.now _)
  refine Ev.congr (fun _ => if_neg c1) ?_
  obtain ⟨u, e2, hu, o2⟩ := sz_e f wf t (by omega) ht
  refine Ev.bind e2 ?_
  by_cases c2 : u < 0
  · exact Ev.congr (fun _ => if_pos c2) (Ev.now _)
  refine Ev.congr (fun _ => if_neg c2) ?_
  have oe := o1 (by omega)
  have of := o2 (by omega)
  have te := to_e e oe
  have tf := to_e f of
  refine Ev.bind te (Ev.bind tf (Ev.bind (ans_s e.cv f.cv oe of) (Ev.bind te (Ev.bind tf (Ev.bind (ans_i e.cv f.cv oe of) (Ev.congr (fun _ => if_pos rfl) (Ev.congr (fun _ => if_neg ?_) (Ev.bind te (Ev.bind (eq_e e.cv oe) (Ev.congr (fun _ => if_pos rfl) (Ev.bind tf (Ev.bind (eq_e f.cv of) (Ev.congr (fun _ => if_pos rfl) (Ev.now _))))))))))))))
  simp
theorem FnExactCompareEntries : laws_FnExactCompareEntries.Pure := by
  intro a0_0 a0_1 l0_2 l0_3 a0_4 a0_5 a0_6 a0_7 a0_8 a0_9 a0_10 a0_11 a0_12 a0_13 a1_0 a1_1 l1_2 l1_3 a1_4 a1_5 a1_6 a1_7 a1_8 a1_9 a1_10 a1_11 a1_12 a1_13 h0 h1
  obtain ⟨p0, _, p2, p3, p4, p5, p6, _, _, p9, p10⟩ := h0
  obtain ⟨q0, _, q2, q3, q4, q5, q6, _, _, q9, q10⟩ := h1
  obtain ⟨K, hK⟩ := law_ev ⟨a0_0, a0_1, l0_2, l0_3, a0_4, a0_5, a0_6, a0_7, a0_8, a0_9, a0_10, a0_11, a0_12, a0_13⟩ ⟨a1_0, a1_1, l1_2, l1_3, a1_4, a1_5, a1_6, a1_7, a1_8, a1_9, a1_10, a1_11, a1_12, a1_13⟩ ⟨p0, ⟨p2.1, p2.2⟩, ⟨p3.1, p3.2⟩, p4, p5, p6, p9, p10⟩ ⟨q0, ⟨q2.1, q2.2⟩, ⟨q3.1, q3.2⟩, q4, q5, q6, q9, q10⟩
  exact ⟨K, hK K (Nat.le_refl _)⟩

end Go.Proofs.YtgpgmamgicgacaaGreatDoor.Pure
