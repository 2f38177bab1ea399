/- The law FnExactSortKeys, as a statement over numbers and lists: the program's function and the reference's answer alike, for every input; no further condition. -/
import Derived.Test.YthbcfjcmkngieaaGreatDoorPx3
import Derived.Test.YthbcfjcmkngieaaGreatDoorPx5
import Derived.Test.YthbcfjcmkngieaaGreatDoorPx7
import Derived.Test.YthbcfjcmkngieaaGreatDoorQLibS
namespace Go.Proofs.YthbcfjcmkngieaaGreatDoor.Pure
open Go.RowKit Go.Proofs.YthbcfjcmkngieaaGreatDoor.Px Go.Proofs.YthbcfjcmkngieaaGreatDoorW.PrintWords Go.Proofs.YthbcfjcmkngieaaGreatDoorW.PrintLast
set_option linter.unusedVariables false
set_option linter.unusedSimpArgs false

theorem law_ev (l : List E1) (wl : l.length ≤ 9223372036854775807 ∧ ∀ x ∈ l, Wf51 x) (K : List ByteArray) (wK : K.length ≤ 9223372036854775807 ∧ ∀ x ∈ K, x.size ≤ 9223372036854775807) : Ev (fun k => laws_FnExactSortKeys.f k l K) true := by
  unfold laws_FnExactSortKeys.f
  obtain ⟨t, e1, ht, o1⟩ := szL l wl 1048576 (by omega) (by omega)
  refine Ev.bind e1 ?_
  by_cases c1 : t < 0
  · exact Ev.congr (fun _ => if_pos c1) (Ev.now _)
  refine Ev.congr (fun _ => if_neg c1) ?_
  obtain ⟨u, e2, hu, o2⟩ := szS K wK.1 wK.2 t (by omega) ht
  refine Ev.bind e2 ?_
  by_cases c2 : u < 0
  · exact Ev.congr (fun _ => if_pos c2) (Ev.now _)
  refine Ev.congr (fun _ => if_neg c2) ?_
  have ol := o1 (by omega)
  have oK := (o2 (by omega)).1
  have tl := toL l ol
  have tK : Ev (fun k => laws_toStringS.f k K) K := ⟨K.length + 1, fun k hk => toStringS_k K oK k (by omega)⟩
  have qK : Ev (fun k => laws_eqStringS.f k K K) true := ⟨K.length + 1, fun k hk => eqStringS_k K oK k (by omega)⟩
  obtain ⟨m, hm, hm2, em⟩ := markL _ ol
  have eK := markN K oK m hm hm2
  obtain ⟨⟨R, b⟩, hR, es, ei⟩ := both _ ol K oK
  have q : Ev (fun k => laws_eqStringS.f k R R) true := ⟨R.length + 1, fun k hk => eqStringS_k R hR k (by omega)⟩
  have h := heldS R hR
  have nb : ¬ (b != b) = true := by simp
  exact Ev.bind tl (Ev.bind tK (Ev.bind es (Ev.bind tl (Ev.bind tK (Ev.bind ei (Ev.bind q (Ev.congr (fun _ => (if_pos rfl).trans (if_neg nb)) (Ev.bind tl (Ev.bind (eqL _ ol) (Ev.congr (fun _ => if_pos rfl) (Ev.bind tK (Ev.bind qK (Ev.congr (fun _ => if_pos rfl) (Ev.bind em (Ev.bind eK (Ev.congr (fun _ => if_neg (show ¬ (m + (K.length : Int) < 0) from by omega)) (Ev.bind q (Ev.congr (fun _ => if_pos rfl) (Ev.bind (markS R hR) (Ev.bind h (Ev.congr (fun _ => (if_neg (by omega)).trans (if_pos rfl)) (Ev.bind tl (Ev.bind tK (Ev.bind ei (Ev.bind q (Ev.congr (fun _ => (if_pos rfl).trans (if_neg nb)) (Ev.bind h (Ev.congr (fun _ => (if_neg (by omega)).trans (if_pos rfl)) (Ev.now _)))))))))))))))))))))))))))))
theorem FnExactSortKeys : laws_FnExactSortKeys.Pure := by
  intro l K h0 h1 h2
  obtain ⟨k, hk⟩ := law_ev l h0 K ⟨h1, h2⟩
  exact ⟨k, hk k (Nat.le_refl _)⟩

end Go.Proofs.YthbcfjcmkngieaaGreatDoor.Pure
