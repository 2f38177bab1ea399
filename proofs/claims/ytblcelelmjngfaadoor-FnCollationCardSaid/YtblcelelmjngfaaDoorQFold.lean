/- Lemmas on the printed functions, without Go and memory. -/
import Derived.Test.YtblcelelmjngfaaDoorPx1
import Derived.Test.YtblcelelmjngfaaDoorPx12
import Derived.Test.YtblcelelmjngfaaDoorPx13
import Derived.Test.YtblcelelmjngfaaDoorPx14
import Derived.Test.YtblcelelmjngfaaDoorQLow
namespace Go.Proofs.YtblcelelmjngfaaDoor.Pure
open Go.RowKit Go.Proofs.YtblcelelmjngfaaDoor.Px Go.Proofs.YtblcelelmjngfaaDoorW.PrintWords Go.Proofs.YtblcelelmjngfaaDoorW.PrintLast
set_option linter.unusedVariables false
set_option linter.unusedSimpArgs false

theorem l2Lower_eq (b : Int) : spec_l2Lower.f b = some (impl_foldText.isL b) := by
  unfold spec_l2Lower.f impl_foldText.isL
  by_cases h : b ≥ 97
  · rw [if_pos h, decide_eq_true h]; rfl
  · rw [if_neg h, decide_eq_false h]; rfl
theorem l8Digit_eq (b : Int) : spec_l8Digit.f b = some (impl_foldText.isD b) := by
  unfold spec_l8Digit.f impl_foldText.isD
  by_cases h : b ≥ 48
  · rw [if_pos h, decide_eq_true h]; rfl
  · rw [if_neg h, decide_eq_false h]; rfl
theorem bytes_cons (t : ByteArray) (i : Int) (h0 : 0 ≤ i) (h1 : i < (t.size : Int)) : (bytesOf t).drop i.toNat = bt t i :: (bytesOf t).drop (i + 1).toNat := by
  rw [drop_cons 0 (bytesOf t) i h0 (by rw [bytesOf_length]; exact h1)]
  congr 1
  exact rd_bytesOf t i
theorem bytes_end (t : ByteArray) (i : Int) (h1 : i = (t.size : Int)) : (bytesOf t).drop i.toNat = [] := drop_none _ i (by rw [bytesOf_length]; omega)
theorem l8Fold_l0 (t : ByteArray) (ht : t.size ≤ 1048576) (d : Nat) : ∀ (k : Nat) (i : Int) (out : List Int) (gap : Bool), 0 ≤ i → i + d = t.size → 2 * d < k → (out.length : Int) ≤ 2 * i → spec_l8Fold.l0 k out gap t i = some (strOfNums (impl_foldText.fold out gap ((bytesOf t).drop i.toNat))) := by
  induction d with
  | zero =>
    intro k i out gap h0 h1 hk ho
    obtain ⟨k, rfl⟩ : ∃ m, k = m + 1 := ⟨k - 1, by omega⟩
    simp only [spec_l8Fold.l0]
    rw [if_neg (by omega), bytes_end t i (by omega), impl_foldText.fold]
  | succ d ih =>
    intro k i out gap h0 h1 hk ho
    obtain ⟨k, rfl⟩ : ∃ m, k = m + 2 := ⟨k - 2, by omega⟩
    have hw : wrap64 (i + 1) = i + 1 := wrap_small (by omega) (by omega)
    simp only [spec_l8Fold.l0]
    rw [if_pos (by omega), if_pos h0, l2Lower_eq, l8Digit_eq, Option.bind_some, bytes_cons t i h0 (by omega)]
    generalize bt t i = b
    have IH := fun out gap (hl : (out.length : Int) ≤ 2 * (i + 1)) => ih k (i + 1) out gap (by omega) (by omega) (by omega) hl
    have main : ∀ v : Bool, v = !(impl_foldText.isL b || impl_foldText.isD b) → spec_l8Fold.j1 (k + 1) out gap t i b v = some (strOfNums (impl_foldText.fold out gap (b :: (bytesOf t).drop (i + 1).toNat))) := by
      intro v hv
      simp only [spec_l8Fold.j1, hw, Option.bind_some]
      cases hL : (impl_foldText.isL b || impl_foldText.isD b) with
      | false =>
        rw [hL] at hv
        subst hv
        rw [impl_foldText.skip _ _ _ _ hL, if_pos (by decide)]
        cases gap with
        | true => rw [if_pos rfl, Bool.true_or]; exact IH _ _ (by omega)
        | false => rw [if_neg (by decide), Bool.false_or]; exact IH _ _ (by omega)
      | true =>
        rw [hL] at hv
        subst hv
        rw [if_neg (by decide)]
        cases gap with
        | false =>
          rw [if_neg (by decide), if_pos (by omega), impl_foldText.take0 _ _ _ _ hL rfl]
          exact IH _ _ (by rw [List.length_append]; simp; omega)
        | true =>
          rw [if_pos rfl]
          by_cases hn : 0 < out.length
          · rw [if_pos (by omega), if_pos (by omega), if_pos (by rw [List.length_append]; simp; omega), impl_foldText.take1 _ _ _ _ hL (by rw [decide_eq_true hn]; rfl)]
            exact IH _ _ (by rw [List.length_append, List.length_append]; simp; omega)
          · rw [if_neg (by omega), if_pos (by omega), impl_foldText.take0 _ _ _ _ hL (by rw [decide_eq_false hn]; rfl)]
            exact IH _ _ (by rw [List.length_append]; simp; omega)
    cases hL : impl_foldText.isL b with
    | true => rw [if_pos rfl]; exact main false (by rw [hL]; rfl)
    | false =>
      rw [if_neg (by decide), Option.bind_some]
      exact main _ (by rw [hL, Bool.false_or])
theorem fold_k (s : ByteArray) (hs : s.size ≤ 1048576) (k : Nat) (hk : 2097160 < k) : ∃ r, spec_l8Fold.f k s = some r ∧ impl_foldText.f s = some r := by
  obtain ⟨t, h1, h2, h3⟩ := lower_k s (by omega)
  have hz : t.size = s.size := by rw [← data_length, h3, List.length_map, data_length]
  refine ⟨strOfNums (impl_foldText.fold [] false (bytesOf t)), ?_, ?_⟩
  · unfold spec_l8Fold.f
    rw [h2, Option.bind_some, l8Fold_l0 t (by omega) t.size k 0 [] false (by omega) (by omega) (by omega) (by simp)]
    rfl
  · unfold impl_foldText.f
    rw [h1, Option.bind_some, if_pos (by omega)]

end Go.Proofs.YtblcelelmjngfaaDoor.Pure
