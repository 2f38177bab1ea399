/- Lemmas on the printed functions, without Go and memory. -/
import Derived.Test.YtblcelelmjngfaaPx10
import Derived.Test.YtblcelelmjngfaaPx8
import Derived.Test.YtblcelelmjngfaaPx9
import Derived.Test.YtblcelelmjngfaaQFold
namespace Go.Proofs.Ytblcelelmjngfaa.Pure
open Go.RowKit Go.Proofs.Ytblcelelmjngfaa.Px Go.Proofs.YtblcelelmjngfaaW.PrintWords Go.Proofs.YtblcelelmjngfaaW.PrintLast
set_option linter.unusedVariables false
set_option linter.unusedSimpArgs false

theorem or2 (x y : Int) (k : Nat) (hk : 5 ≤ k) : cmp_Or_int.f k [x, y] = some (if x = 0 then y else x) := by
  obtain ⟨k, rfl⟩ : ∃ m, k = m + 3 := ⟨k - 3, by omega⟩
  unfold cmp_Or_int.f
  have w1 : wrap64 (0 + 1) = 1 := wrap_small (by omega) (by omega)
  have w2 : wrap64 (1 + 1) = 2 := wrap_small (by omega) (by omega)
  have r0 : rd [x, y] 0 = x := rfl
  have r1 : rd [x, y] 1 = y := rfl
  have l2 : (([x, y] : List Int).length : Int) = 2 := rfl
  simp only [cmp_Or_int.l0, w1, w2, r0, r1, l2]
  by_cases hx : x = 0
  · by_cases hy : y = 0
    · simp [hx, hy]
    · simp [hx, hy]
  · simp [hx]
theorem collate_k (a b : ByteArray) (ha : a.size ≤ 1048576) (hb : b.size ≤ 1048576) (k : Nat) (hk : 2097160 < k) : ∃ r, spec_l8Collate.f k a b = some r ∧ impl_collate.f k a b = some r := by
  obtain ⟨x, p1, q1⟩ := fold_k a ha k hk
  obtain ⟨y, p2, q2⟩ := fold_k b hb k hk
  unfold spec_l8Collate.f impl_collate.f strings_Compare.f bytealg_CompareString.f spec_l2Text.f
  simp only [p1, p2, q1, q2, Option.bind_some, or2 _ _ k (by omega : 5 ≤ k)]
  by_cases h : Lib.compareBytes x.data.toList y.data.toList = 0
  · rw [if_pos h, if_pos h]; exact ⟨_, rfl, rfl⟩
  · rw [if_neg h, if_neg h]; exact ⟨_, rfl, rfl⟩

end Go.Proofs.Ytblcelelmjngfaa.Pure
