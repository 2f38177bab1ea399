/- The law FnExactFormatSpans, as a statement over numbers and lists: the program's function and the reference's answer alike, for every input; no further condition. -/
import Derived.Test.YtgaepocgpjbapaaPx17
import Derived.Test.YtgaepocgpjbapaaPx19
import Derived.Test.YtgaepocgpjbapaaQFmt
namespace Go.Proofs.Ytgaepocgpjbapaa.Pure
open Go.RowKit Go.Proofs.Ytgaepocgpjbapaa.Px Go.Proofs.YtgaepocgpjbapaaW.PrintWords Go.Proofs.YtgaepocgpjbapaaW.PrintLast
set_option linter.unusedVariables false
set_option linter.unusedSimpArgs false

theorem FnExactFormatSpans : laws_FnExactFormatSpans.Pure := by
  intro l hl hs
  unfold laws_FnExactFormatSpans.f
  obtain ⟨t, ht, hb⟩ := szSpanS_k l hl hs 8000000 (by omega)
  refine ⟨8000000, ?_⟩
  rw [ht, Option.bind_some]
  by_cases c2 : t < 0
  · rw [if_pos c2]
  · obtain ⟨h1, h2⟩ := hb c2
    have hm : (l.map conv).length ≤ 1048576 := by rw [List.length_map]; exact h1
    have e1 := toSpanS_k l h1 8000000 (by omega)
    have e1' := toSpanS_k l h1 7999999 (by omega)
    have e2 := eqSpanS_k (l.map conv) hm 7999999 (by omega)
    have g := l10Good_k (l.map conv) hm h2 8000000 (by omega)
    have g' := areSpans_k (l.map conv) hm h2 8000000 (by omega)
    have n1 := l10Normal_k (l.map conv) hm h2 8000000 (by omega)
    have nb := norm_bounds (l.map conv) []
    simp only [List.length_nil, tot_nil] at nb
    have p1 := l10Markup_k (norm [] (l.map conv)) (by omega) (by omega) 8000000 (by omega)
    have p2 := formatSpans_k (l.map conv) hm h2 8000000 (by omega)
    rw [if_neg c2]
    simp only [e1, Option.bind_some, spec_FormatSpans.f, impl_FormatSpans.f, g, g']
    cases goodS (l.map conv)
    · simp [laws_FnExactFormatSpans.j0, e1', e2]
    · simp only [if_true, n1, p1, p2, Option.bind_some]
      simp [laws_FnExactFormatSpans.j0, e1', e2]

end Go.Proofs.Ytgaepocgpjbapaa.Pure
