/- The law FnExactNormalizeSpans, as a statement over numbers and lists: the program's function and the reference's answer alike, for every input; no further condition. -/
import Derived.Test.YtgaepocgpjbapaaPx10
import Derived.Test.YtgaepocgpjbapaaPx12
import Derived.Test.YtgaepocgpjbapaaPx14
import Derived.Test.YtgaepocgpjbapaaQNorm
namespace Go.Proofs.Ytgaepocgpjbapaa.Pure
open Go.RowKit Go.Proofs.Ytgaepocgpjbapaa.Px Go.Proofs.YtgaepocgpjbapaaW.PrintWords Go.Proofs.YtgaepocgpjbapaaW.PrintLast
set_option linter.unusedVariables false
set_option linter.unusedSimpArgs false

theorem FnExactNormalizeSpans : laws_FnExactNormalizeSpans.Pure := by
  intro l hl hs
  unfold laws_FnExactNormalizeSpans.f
  obtain ⟨t, ht, hb⟩ := szSpanS_k l hl hs 8000003 (by omega)
  refine ⟨8000003, ?_⟩
  rw [ht, Option.bind_some]
  by_cases c2 : t < 0
  · rw [if_pos c2]
  · obtain ⟨h1, h2⟩ := hb c2
    rw [if_neg c2]
    have hm : (l.map conv).length ≤ 1048576 := by rw [List.length_map]; exact h1
    generalize hL : l.map conv = L at *
    have e1 := fun k hk => toSpanS_k l h1 k hk
    rw [hL] at e1
    have g := l10Good_k L hm h2 8000003 (by omega)
    have g' := fun k hk => areSpans_k L hm h2 k hk
    have n1 := l10Normal_k L hm h2 8000003 (by omega)
    have n2 := fun k hk => normalized_k L hm h2 k hk
    have nb := norm_bounds L []
    simp only [List.length_nil, tot_nil] at nb
    -- what both answer
    obtain ⟨R, hR, hRl⟩ : ∃ R : List Sp × Bool, (R = if goodS L = true then (norm [] L, true) else ([], false)) ∧ R.1.length ≤ 1048576 := by
      refine ⟨_, rfl, ?_⟩
      split
      · show (norm [] L).length ≤ 1048576
        omega
      · simp
    have s1 : spec_NormalizeSpans.f 8000003 L = some R := by
      unfold spec_NormalizeSpans.f
      rw [g, n1, hR]
      cases goodS L <;> simp
    have s2 : ∀ k, 4000000 < k → impl_NormalizeSpans.f k L = some R := by
      intro k hk
      unfold impl_NormalizeSpans.f
      rw [g' k hk, n2 k (by omega), hR]
      cases goodS L <;> simp
    have ll : l.length = L.length := by rw [← hL, List.length_map]
    simp only [e1 8000003 (by omega), s1, s2 8000003 (by omega), Option.bind_some, eqSpanS_k R.1 hRl 8000003 (by omega), if_true, bne_self_eq_false]
    simp only [laws_FnExactNormalizeSpans.j0, Bool.false_eq_true, if_false, e1 8000002 (by omega), Option.bind_some, eqSpanS_k L hm 8000002 (by omega), if_true, markSpanS_k L hm 8000002 (by omega), eqSpanS_k R.1 hRl 8000002 (by omega), bne_self_eq_false]
    rw [if_neg (by omega)]
    simp only [laws_FnExactNormalizeSpans.j1, Bool.false_eq_true, if_false, e1 8000001 (by omega), Option.bind_some, markSpanS_k R.1 hRl 8000001 (by omega), heldSpanS_k R.1 hRl 8000001 (by omega), s2 8000001 (by omega), eqSpanS_k R.1 hRl 8000001 (by omega), if_true, bne_self_eq_false]
    rw [if_neg (by omega)]
    simp only [laws_FnExactNormalizeSpans.j2, Bool.false_eq_true, if_false, Option.bind_some, heldSpanS_k R.1 hRl 8000000 (by omega), if_true]
    rw [if_neg (by omega)]

end Go.Proofs.Ytgaepocgpjbapaa.Pure
