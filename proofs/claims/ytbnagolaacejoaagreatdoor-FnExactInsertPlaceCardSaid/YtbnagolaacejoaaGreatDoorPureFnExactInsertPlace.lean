/- The law FnExactInsertPlace, as a statement over numbers and lists: the program's function and the reference's answer alike, for every input; no further condition. -/
import Derived.Test.YtbnagolaacejoaaGreatDoorPx3
import Derived.Test.YtbnagolaacejoaaGreatDoorPx6
import Derived.Test.YtbnagolaacejoaaGreatDoorPx7
import Derived.Test.YtbnagolaacejoaaGreatDoorQLibC
namespace Go.Proofs.YtbnagolaacejoaaGreatDoor.Pure
open Go.RowKit Go.Proofs.YtbnagolaacejoaaGreatDoor.Px Go.Proofs.YtbnagolaacejoaaGreatDoorW.PrintWords Go.Proofs.YtbnagolaacejoaaGreatDoorW.PrintLast
set_option linter.unusedVariables false
set_option linter.unusedSimpArgs false

theorem law_ev (l : List E1) (wl : l.length ≤ 9223372036854775807 ∧ ∀ x ∈ l, Wf49 x) (K : List ByteArray) (wK : K.length ≤ 9223372036854775807 ∧ ∀ x ∈ K, x.size ≤ 9223372036854775807) (a : ByteArray) : Ev (fun k => laws_FnExactInsertPlace.f k l K a) true := by
  unfold laws_FnExactInsertPlace.f
  by_cases c0 : (a.size : Int) > 1048576
  · exact Ev.congr (fun _ => if_pos c0) (Ev.now _)
  refine Ev.congr (fun _ => if_neg c0) ?_
  obtain ⟨t, e1, ht, o1⟩ := szL l wl 1048576 (by omega) (by omega)
  refine Ev.bind e1 ?_
  by_cases c1 : t < 0
  · exact Ev.congr (fun _ => if_pos c1) (Ev.now _)
  refine Ev.congr (fun _ => if_neg c1) ?_
  obtain ⟨u, e2, hu, o2⟩ := szS K wK.1 wK.2 t (by omega) ht
  refine Ev.bind e2 ?_
  by_cases c2 : u < 0
  · exact Ev.congr (fun _ => if_pos c2) (Ev.now _)
  refine Ev.congr (fun _ => if_neg c2) ?_
  have ol := o1 (by omega)
  have oK := (o2 (by omega)).1
  have tl := toL l ol
  have tK : Ev (fun k => laws_toStringS.f k K) K := ⟨K.length + 1, fun k hk => toStringS_k K oK k (by omega)⟩
  obtain ⟨r, es, ei⟩ := place _ ol K oK a
  refine Ev.bind tl (Ev.bind tK (Ev.bind es (Ev.bind tl (Ev.bind tK (Ev.bind ei (Ev.congr (fun _ => if_pos rfl) (Ev.congr (fun _ => if_neg ?_) (Ev.bind tl (Ev.bind (eqL _ ol) (Ev.congr (fun _ => if_pos rfl) (Ev.bind tK (Ev.bind (⟨K.length + 1, fun k hk => eqStringS_k K oK k (by omega)⟩ : Ev (fun k => laws_eqStringS.f k K K) true) (Ev.congr (fun _ => if_pos rfl) (Ev.now _))))))))))))))
  simp
theorem FnExactInsertPlace : laws_FnExactInsertPlace.Pure := by
  intro l K a h0 h1 h2 h3
  obtain ⟨k, hk⟩ := law_ev l h0 K ⟨h1, h2⟩ a
  exact ⟨k, hk k (Nat.le_refl _)⟩

end Go.Proofs.YtbnagolaacejoaaGreatDoor.Pure
