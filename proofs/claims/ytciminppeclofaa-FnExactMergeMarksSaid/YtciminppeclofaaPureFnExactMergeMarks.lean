/- The law FnExactMergeMarks, as a statement over numbers and lists: the program's function and the reference's answer alike, for every input; no further condition. -/
import Derived.Test.YtciminppeclofaaPx3
import Derived.Test.YtciminppeclofaaPx5
import Derived.Test.YtciminppeclofaaQMarks
namespace Go.Proofs.Ytciminppeclofaa.Pure
open Go.RowKit Go.Proofs.Ytciminppeclofaa.Px Go.Proofs.YtciminppeclofaaW.PrintWords Go.Proofs.YtciminppeclofaaW.PrintLast
set_option linter.unusedVariables false
set_option linter.unusedSimpArgs false

theorem FnExactMergeMarks : laws_FnExactMergeMarks.Pure := by
  intro a b ha hb
  obtain ⟨K1, h1⟩ := l11Mark_ev a
  obtain ⟨K2, h2⟩ := l11Mark_ev b
  obtain ⟨a0, a1⟩ := u8_range ha
  obtain ⟨b0, b1⟩ := u8_range hb
  have ia := isMark_eq a a0 a1
  have ib := isMark_eq b b0 b1
  cases ma : mk a with
  | false =>
    refine ⟨K1 + K2, ?_⟩
    have g1 := h1 (K1 + K2) (by omega)
    rw [midx_neg a ma] at g1
    simp only [laws_FnExactMergeMarks.f, spec_MergeMarks.f, impl_MergeMarks.f, ia, ma, g1, Option.bind_some]
    simp
  | true =>
    cases mb : mk b with
    | false =>
      refine ⟨K1 + K2, ?_⟩
      have g1 := h1 (K1 + K2) (by omega)
      have g2 := h2 (K1 + K2) (by omega)
      rw [midx_neg b mb] at g2
      have := midx_lt a ma
      simp only [laws_FnExactMergeMarks.f, spec_MergeMarks.f, impl_MergeMarks.f, ia, ib, ma, mb, g1, g2, Option.bind_some]
      rw [if_neg (by omega)]
      simp
    | true =>
      obtain ⟨K3, h3⟩ := l11Merge_ev a b ma mb
      refine ⟨K1 + K2 + K3, ?_⟩
      have g1 := h1 (K1 + K2 + K3) (by omega)
      have g2 := h2 (K1 + K2 + K3) (by omega)
      have g3 := h3 (K1 + K2 + K3) (by omega)
      have := midx_lt a ma
      have := midx_lt b mb
      simp only [laws_FnExactMergeMarks.f, spec_MergeMarks.f, impl_MergeMarks.f, ia, ib, ma, mb, g1, g2, g3, mergeMarks_eq a b ma mb, Option.bind_some]
      rw [if_neg (by omega), if_neg (by omega)]
      simp

end Go.Proofs.Ytciminppeclofaa.Pure
