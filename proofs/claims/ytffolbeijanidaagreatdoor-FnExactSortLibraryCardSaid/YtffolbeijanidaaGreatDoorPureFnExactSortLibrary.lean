/- The law FnExactSortLibrary, as a statement over numbers and lists: the program's function and the reference's answer alike, for every input; no further condition. -/
import Derived.Test.YtffolbeijanidaaGreatDoorPx5
import Derived.Test.YtffolbeijanidaaGreatDoorPx7
import Derived.Test.YtffolbeijanidaaGreatDoorQLibS
namespace Go.Proofs.YtffolbeijanidaaGreatDoor.Pure
open Go.RowKit Go.Proofs.YtffolbeijanidaaGreatDoor.Px Go.Proofs.YtffolbeijanidaaGreatDoorW.PrintWords Go.Proofs.YtffolbeijanidaaGreatDoorW.PrintLast
set_option linter.unusedVariables false
set_option linter.unusedSimpArgs false

theorem law_ev (l : List E1) (wl : l.length ≤ 9223372036854775807 ∧ ∀ x ∈ l, Wf51 x) : Ev (fun k => laws_FnExactSortLibrary.f k l) true := by
  unfold laws_FnExactSortLibrary.f
  obtain ⟨t, e1, ht, o1⟩ := szL l wl 1048576 (by omega) (by omega)
  refine Ev.bind e1 ?_
  by_cases c1 : t < 0
  · exact Ev.congr (fun _ => if_pos c1) (Ev.now _)
  refine Ev.congr (fun _ => if_neg c1) ?_
  have ol := o1 (by omega)
  have tl := toL l ol
  obtain ⟨m, hm, em⟩ := markL _ ol
  obtain ⟨⟨R, b⟩, hR, es, ei⟩ := both _ ol
  have q : Ev (fun k => laws_eqStringS.f k R R) true := ⟨R.length + 1, fun k hk => eqStringS_k R hR k (by omega)⟩
  have h := heldS R hR
  have nb : ¬ (b != b) = true := by simp
  exact Ev.bind tl (Ev.bind es (Ev.bind tl (Ev.bind ei (Ev.bind q (Ev.congr (fun _ => (if_pos rfl).trans (if_neg nb)) (Ev.bind tl (Ev.bind (eqL _ ol) (Ev.congr (fun _ => if_pos rfl) (Ev.bind em (Ev.congr (fun _ => if_neg (by omega)) (Ev.bind q (Ev.congr (fun _ => if_pos rfl) (Ev.bind (markS R hR) (Ev.bind h (Ev.congr (fun _ => (if_neg (by omega)).trans (if_pos rfl)) (Ev.bind tl (Ev.bind ei (Ev.bind q (Ev.congr (fun _ => (if_pos rfl).trans (if_neg nb)) (Ev.bind h (Ev.congr (fun _ => (if_neg (by omega)).trans (if_pos rfl)) (Ev.now _))))))))))))))))))))))
theorem FnExactSortLibrary : laws_FnExactSortLibrary.Pure := by
  intro l h0
  obtain ⟨k, hk⟩ := law_ev l h0
  exact ⟨k, hk k (Nat.le_refl _)⟩

end Go.Proofs.YtffolbeijanidaaGreatDoor.Pure
