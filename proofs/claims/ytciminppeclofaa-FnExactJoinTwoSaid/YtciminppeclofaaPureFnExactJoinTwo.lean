/- The law FnExactJoinTwo, as a statement over numbers and lists: the program's function and the reference's answer alike, for every input; no further condition. -/
import Derived.Test.YtciminppeclofaaPx13
import Derived.Test.YtciminppeclofaaPx15
import Derived.Test.YtciminppeclofaaPx16
import Derived.Test.YtciminppeclofaaQText
import Derived.Test.YtciminppeclofaaQTwo
namespace Go.Proofs.Ytciminppeclofaa.Pure
open Go.RowKit Go.Proofs.Ytciminppeclofaa.Px Go.Proofs.YtciminppeclofaaW.PrintWords Go.Proofs.YtciminppeclofaaW.PrintLast
set_option linter.unusedVariables false
set_option linter.unusedSimpArgs false

theorem FnExactJoinTwo : laws_FnExactJoinTwo.Pure := by
  intro a b ha hb
  unfold laws_FnExactJoinTwo.f
  by_cases ca : (a.size : Int) > 1048576
  · exact ⟨0, by rw [if_pos ca]⟩
  by_cases cb : (b.size : Int) > 1048576
  · exact ⟨0, by rw [if_neg ca, if_pos cb]⟩
  refine ⟨a.size + b.size + 20, ?_⟩
  rw [if_neg ca, if_neg cb]
  unfold spec_JoinTwo.f impl_JoinTwo.f
  simp only [l11Text_k a ha _ (show a.size < a.size + b.size + 20 from by omega), l11Text_k b hb _ (show b.size < a.size + b.size + 20 from by omega), isPart_k a ha _ (show a.size < a.size + b.size + 20 from by omega), isPart_k b hb _ (show b.size < a.size + b.size + 20 from by omega), l11Two_k a b (by omega) (by omega) _ (show 12 ≤ a.size + b.size + 20 from by omega), joinTwo_k a b (by omega) (by omega) _ (show 12 ≤ a.size + b.size + 20 from by omega), Option.bind_some]
  cases isP a <;> cases isP b <;> simp

end Go.Proofs.Ytciminppeclofaa.Pure
