/- The law FnExactCollateTexts, as a statement over numbers and lists: the program's function and the reference's answer alike, for every input; no further condition. -/
import Derived.Test.YtblcelelmjngfaaPx10
import Derived.Test.YtblcelelmjngfaaPx9
import Derived.Test.YtblcelelmjngfaaQCol
namespace Go.Proofs.Ytblcelelmjngfaa.Pure
open Go.RowKit Go.Proofs.Ytblcelelmjngfaa.Px Go.Proofs.YtblcelelmjngfaaW.PrintWords Go.Proofs.YtblcelelmjngfaaW.PrintLast
set_option linter.unusedVariables false
set_option linter.unusedSimpArgs false

theorem FnExactCollateTexts : laws_FnExactCollateTexts.Pure := by
  intro a b ha hb
  unfold laws_FnExactCollateTexts.f
  by_cases c : (a.size : Int) > 1048576
  · exact ⟨0, by rw [if_pos c]⟩
  by_cases d : (b.size : Int) > 1048576
  · exact ⟨0, by rw [if_neg c, if_pos d]⟩
  refine ⟨3000000, ?_⟩
  rw [if_neg c, if_neg d]
  obtain ⟨r, g1, g2⟩ := collate_k a b (by omega) (by omega) 3000000 (by omega)
  unfold spec_CollateTexts.f impl_CollateTexts.f
  by_cases c2 : (a.size : Int) > 4000
  · rw [if_pos c2, if_pos c2]; simp
  · by_cases d2 : (b.size : Int) > 4000
    · rw [if_neg c2, if_neg c2, if_pos d2, if_pos d2]; simp
    · rw [if_neg c2, if_neg c2, if_neg d2, if_neg d2, g1, g2]; simp

end Go.Proofs.Ytblcelelmjngfaa.Pure
