/- The law FnExactGroupByYear, as a statement over numbers and lists: the program's function and the reference's answer alike, for every input; no further condition. -/
import Derived.Test.YtiaelacjjbdolaaGreatDoorPx6
import Derived.Test.YtiaelacjjbdolaaGreatDoorPx7
import Derived.Test.YtiaelacjjbdolaaGreatDoorQYrC
import Derived.Test.YtiaelacjjbdolaaGreatDoorQYrM
namespace Go.Proofs.YtiaelacjjbdolaaGreatDoor.Pure
open Go.RowKit Go.Proofs.YtiaelacjjbdolaaGreatDoor.Px Go.Proofs.YtiaelacjjbdolaaGreatDoorW.PrintWords Go.Proofs.YtiaelacjjbdolaaGreatDoorW.PrintLast
set_option linter.unusedVariables false
set_option linter.unusedSimpArgs false

theorem law_ev (l : List E1) (wl : l.length <= 9223372036854775807 /\ ∀ x ∈ l, jP x) : Ev (fun k => bl.f k l) true := by
  unfold bl.f
  obtain ⟨t, e1, ht, o1⟩ := szL l wl 1048576 (by omega) (by omega)
  refine Ev.bind e1 ?_
  by_cases c1 : t < 0
  · exact Ev.congr (fun _ => if_pos c1) (Ev.now _)
  refine Ev.congr (fun _ => if_neg c1) ?_
  have ol := o1 (by omega)
  have tl := toL l ol
  obtain ⟨m, hm, _, em⟩ := markL _ ol
  obtain ⟨⟨Y, G, b⟩, o, es, ei⟩ := both _ ol
  have oy : Y.length <= 8 := o.y
  have og : G.length <= 8 := o.g
  have hb := mV G o.e
  obtain ⟨k1, h1⟩ := eqI Y (by omega)
  obtain ⟨k2, h2⟩ := eqG G (by omega) o.e
  obtain ⟨k3, h3⟩ := eqL _ ol
  have m1 := lJ Y [] 1 (by omega) (by omega) (by simp; omega)
  have d1 := ld Y [] 1 (by omega) (by omega) (by simp; omega)
  have m2 := markG G (1 + Y.length) (by omega) (by omega) o.e o.n o.z
  have d2 := lc G [] (1 + Y.length) (by omega) (by omega) (by simp; omega) o.e
  have fin : Ev (fun k => (dj.f k (l.map cvE) 1).bind fun m => (de.f k Y 1).bind fun p => (bj.f k G p.1).bind fun q => (cT.f k p.2 1).bind fun u => (bu.f k q.2 u).bind fun v => if 0 <= m /\ 0 <= u /\ 0 <= v /\ v = q.1 then some true else none) true := Ev.bind em (Ev.bind m1 (Ev.bind m2 (Ev.bind d1 (Ev.bind d2 (Ev.congr (fun _ => if_pos ⟨hm, by omega, by omega, rfl⟩) (Ev.now _))))))
  refine Ev.bind tl (Ev.bind es (Ev.bind ei ?_))
  obtain ⟨k4, h4⟩ := fin
  refine ⟨k1 + k2 + k3 + k4, fun k hk => ?_⟩
  exact (if_pos ⟨rfl, h1 k (by omega), h2 k (by omega), h3 k (by omega)⟩).trans (h4 k (by omega))
theorem FnExactGroupByYear : bl.Pure := by
  intro l h0
  obtain ⟨k, hk⟩ := law_ev l h0
  exact ⟨k, hk k (Nat.le_refl _)⟩

end Go.Proofs.YtiaelacjjbdolaaGreatDoor.Pure
