/- The law FnExactFoldText, as a statement over numbers and lists: the program's function and the reference's answer alike, for every input; no further condition. -/
import Derived.Test.YtblcelelmjngfaaPx7
import Derived.Test.YtblcelelmjngfaaPx8
import Derived.Test.YtblcelelmjngfaaQFold
namespace Go.Proofs.Ytblcelelmjngfaa.Pure
open Go.RowKit Go.Proofs.Ytblcelelmjngfaa.Px Go.Proofs.YtblcelelmjngfaaW.PrintWords Go.Proofs.YtblcelelmjngfaaW.PrintLast
set_option linter.unusedVariables false
set_option linter.unusedSimpArgs false

theorem FnExactFoldText : laws_FnExactFoldText.Pure := by
  intro s hs
  unfold laws_FnExactFoldText.f
  by_cases c : (s.size : Int) > 1048576
  · exact ⟨0, by rw [if_pos c]⟩
  refine ⟨3000000, ?_⟩
  rw [if_neg c]
  obtain ⟨r, g1, g2⟩ := fold_k s (by omega) 3000000 (by omega)
  unfold spec_FoldText.f impl_FoldText.f
  by_cases c2 : (s.size : Int) > 4000
  · rw [if_pos c2, if_pos c2]; simp
  · rw [if_neg c2, if_neg c2, g1, g2]; simp

end Go.Proofs.Ytblcelelmjngfaa.Pure
