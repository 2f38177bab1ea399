/- The law FnExactCountMarks, as a statement over numbers and lists: the program's function and the reference's answer alike, for every input; no further condition. -/
import Derived.Test.YtciminppeclofaaPx10
import Derived.Test.YtciminppeclofaaPx11
import Derived.Test.YtciminppeclofaaPx9
import Derived.Test.YtciminppeclofaaQText
namespace Go.Proofs.Ytciminppeclofaa.Pure
open Go.RowKit Go.Proofs.Ytciminppeclofaa.Px Go.Proofs.YtciminppeclofaaW.PrintWords Go.Proofs.YtciminppeclofaaW.PrintLast
set_option linter.unusedVariables false
set_option linter.unusedSimpArgs false

theorem count_l0 (s : ByteArray) (hs : s.size ≤ 140737488351232) (d : Nat) : ∀ (k : Nat) (i x y : Int), 0 ≤ i → i + d = s.size → d + 8 < k →
    ∃ r, spec_CountMarks.l0 k s x y i = some r ∧ impl_CountMarks.l0 k s x y i = some r := by
  induction d with
  | zero =>
    intro k i x y h0 h1 hk
    obtain ⟨k, rfl⟩ : ∃ m, k = m + 1 := ⟨k - 1, by omega⟩
    refine ⟨(x, y, true), ?_, ?_⟩
    · simp only [spec_CountMarks.l0]; rw [if_neg (by omega)]
    · simp only [impl_CountMarks.l0]; rw [if_neg (by omega)]
  | succ d ih =>
    intro k i x y h0 h1 hk
    obtain ⟨k, rfl⟩ : ∃ m, k = m + 1 := ⟨k - 1, by omega⟩
    simp only [spec_CountMarks.l0, impl_CountMarks.l0]
    have hlt : i < (s.size : Int) := by omega
    simp only [if_pos hlt, if_pos h0, l11Mark_k _ k (by omega : 8 ≤ k), isMark_bt, Option.bind_some]
    have hw : wrap64 (i + 1) = i + 1 := wrap_small (by omega) (by omega)
    rw [hw]
    have IH := fun x y => ih k (i + 1) x y (by omega) (by omega) (by omega)
    cases hm : mk (bt s i) with
    | false =>
      rw [midx_neg _ hm]
      simp only [show ¬ ((-1 : Int) ≥ 0) from by omega, if_false, Bool.false_eq_true]
      exact IH x y
    | true =>
      have hx := midx_lt _ hm
      rw [if_pos (show midx (bt s i) ≥ 0 from by omega), if_pos rfl]
      by_cases hi : i > 0
      · have hw2 : wrap64 (i - 1) = i - 1 := wrap_small (by omega) (by omega)
        rw [if_pos hi, if_pos hi, hw2, if_pos (show 0 ≤ i - 1 from by omega), if_pos (show 0 ≤ i - 1 from by omega), if_pos (show i - 1 < (s.size : Int) from by omega), if_pos (show i - 1 < (s.size : Int) from by omega)]
        cases hm2 : mk (bt s (i - 1)) with
        | false =>
          rw [midx_neg _ hm2]
          simp only [show ¬ ((-1 : Int) ≥ 0) from by omega, if_false, Bool.false_eq_true]
          exact IH _ _
        | true =>
          have hx2 := midx_lt _ hm2
          rw [if_pos (show midx (bt s (i - 1)) ≥ 0 from by omega), if_pos rfl]
          exact IH _ _
      · rw [if_neg hi, if_neg hi]
        exact IH _ _
theorem FnExactCountMarks : laws_FnExactCountMarks.Pure := by
  intro s hs
  refine ⟨s.size + 20, ?_⟩
  have h1 := l11Text_k s hs (s.size + 20) (by omega)
  have h2 := isPart_k s hs (s.size + 20) (by omega)
  obtain ⟨r, g1, g2⟩ := count_l0 s hs s.size (s.size + 20) 0 0 0 (by omega) (by omega) (by omega)
  unfold laws_FnExactCountMarks.f
  split
  · rfl
  · unfold spec_CountMarks.f impl_CountMarks.f
    simp only [h1, h2, Option.bind_some]
    cases isP s
    · simp
    · simp [g1, g2]

end Go.Proofs.Ytciminppeclofaa.Pure
