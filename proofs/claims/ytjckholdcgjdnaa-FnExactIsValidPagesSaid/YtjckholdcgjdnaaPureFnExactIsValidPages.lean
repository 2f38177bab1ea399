/- The law FnExactIsValidPages, as a statement over numbers and lists: the program's function and the reference's answer alike, for every input; no further condition. -/
import Derived.Test.YtjckholdcgjdnaaPx7
import Derived.Test.YtjckholdcgjdnaaQPage
namespace Go.Proofs.Ytjckholdcgjdnaa.Pure
open Go.RowKit Go.Proofs.Ytjckholdcgjdnaa.Px Go.Proofs.YtjckholdcgjdnaaW.PrintWords Go.Proofs.YtjckholdcgjdnaaW.PrintLast
set_option linter.unusedVariables false
set_option linter.unusedSimpArgs false

theorem FnExactIsValidPages : laws_FnExactIsValidPages.Pure := by
  intro l hl hs
  unfold laws_FnExactIsValidPages.f
  obtain ⟨t, ht, hb⟩ := szPageRangeS_k l hl hs 8000000 (by omega)
  refine ⟨8000000, ?_⟩
  rw [ht, Option.bind_some]
  by_cases c2 : t < 0
  · rw [if_pos c2]
  · obtain ⟨h1, h2⟩ := hb c2
    have hm : (l.map conv).length ≤ 1048576 := by rw [List.length_map]; exact h1
    have e1 := toPageRangeS_k l h1 8000000 (by omega)
    have e2 := eqPageRangeS_k (l.map conv) hm 8000000 (by omega)
    have g := specValid_k (l.map conv) hm 8000000 (by omega)
    rw [if_neg c2]
    simp only [e1, Option.bind_some, g, implValid_eq, e2]
    simp

end Go.Proofs.Ytjckholdcgjdnaa.Pure
