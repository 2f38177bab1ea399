/- The law FnExactMoveIntoQuotes, as a statement over numbers and lists: the program's function and the reference's answer alike, for every input; no further condition. -/
import Derived.Test.YtciminppeclofaaPx10
import Derived.Test.YtciminppeclofaaPx11
import Derived.Test.YtciminppeclofaaPx7
import Derived.Test.YtciminppeclofaaQText
namespace Go.Proofs.Ytciminppeclofaa.Pure
open Go.RowKit Go.Proofs.Ytciminppeclofaa.Px Go.Proofs.YtciminppeclofaaW.PrintWords Go.Proofs.YtciminppeclofaaW.PrintLast
set_option linter.unusedVariables false
set_option linter.unusedSimpArgs false

set_option maxRecDepth 20000 in
theorem mk_all : ∀ n : Fin 256, spec_MoveIntoQuotes.mk ((n.val : Nat) : Int) = impl_MoveIntoQuotes.mk ((n.val : Nat) : Int) := by decide
theorem mk_same (b : Int) (h : 0 ≤ b ∧ b ≤ 255) : spec_MoveIntoQuotes.mk b = impl_MoveIntoQuotes.mk b := by
  have := mk_all ⟨b.toNat, by omega⟩
  simp only [Int.toNat_of_nonneg h.1] at this
  exact this
theorem mv_same : ∀ (n : Nat) (l : List Int) (i : Int), (∀ x ∈ l, 0 ≤ x ∧ x ≤ 255) → spec_MoveIntoQuotes.mv n l i = impl_MoveIntoQuotes.mv n l i
  | 0, _, _, _ => rfl
  | n + 1, l, i, h => by
    have ht : spec_MoveIntoQuotes.test l i = impl_MoveIntoQuotes.test l i := by
      unfold spec_MoveIntoQuotes.test impl_MoveIntoQuotes.test
      rw [mk_same _ (spec_MoveIntoQuotes.range l _ h)]
    unfold spec_MoveIntoQuotes.mv impl_MoveIntoQuotes.mv
    rw [ht]
    by_cases c : i + 1 < (l.length : Int)
    · rw [if_pos c, if_pos c]
      refine mv_same n _ _ ?_
      split
      · exact spec_MoveIntoQuotes.swap_range l i h
      · exact h
    · rw [if_neg c, if_neg c]
theorem FnExactMoveIntoQuotes : laws_FnExactMoveIntoQuotes.Pure := by
  intro s hs
  unfold laws_FnExactMoveIntoQuotes.f
  by_cases ca : (s.size : Int) > 1048576
  · exact ⟨0, by rw [if_pos ca]⟩
  refine ⟨s.size + 20, ?_⟩
  rw [if_neg ca]
  unfold spec_MoveIntoQuotes.f impl_MoveIntoQuotes.f
  have hc : (s.size ≤ 140737488351232) = True := eq_true hs
  simp only [l11Text_k s hs _ (show s.size < s.size + 20 from by omega), isPart_k s hs _ (show s.size < s.size + 20 from by omega), hc, if_true, Option.bind_some, mv_same s.size (bytesOf s) 0 (spec_MoveIntoQuotes.bytes_range s)]
  cases isP s <;> simp

end Go.Proofs.Ytciminppeclofaa.Pure
