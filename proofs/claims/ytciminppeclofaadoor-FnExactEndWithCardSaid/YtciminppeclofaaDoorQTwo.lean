/- Lemmas on the printed functions, without Go and memory. -/
import Derived.Test.YtciminppeclofaaDoorPx2
import Derived.Test.YtciminppeclofaaDoorPx3
import Derived.Test.YtciminppeclofaaDoorPx8
import Derived.Test.YtciminppeclofaaDoorPx9
import Derived.Test.YtciminppeclofaaDoorQMarks
namespace Go.Proofs.YtciminppeclofaaDoor.Pure
open Go.RowKit Go.Proofs.YtciminppeclofaaDoor.Px Go.Proofs.YtciminppeclofaaDoorW.PrintWords Go.Proofs.YtciminppeclofaaDoorW.PrintLast
set_option linter.unusedVariables false
set_option linter.unusedSimpArgs false

theorem mrg_size (a b : Int) (ha : mk a = true) (hb : mk b = true) : (mrg a b).size ≤ 2 ∧ 1 ≤ (mrg a b).size := by
  rcases impl_mergeMarks.mark_cases ha with rfl | rfl | rfl | rfl | rfl | rfl <;> rcases impl_mergeMarks.mark_cases hb with rfl | rfl | rfl | rfl | rfl | rfl <;> decide
/-- Two texts, joined. -/
def two (a b : ByteArray) : ByteArray :=
  if a.size = 0 ∨ b.size = 0 then a ++ b
  else if bt a ((a.size : Int) - 1) = 32 ∧ bt b 0 = 32 then a ++ b.extract 1 b.size
  else if mk (bt a ((a.size : Int) - 1)) = true ∧ mk (bt b 0) = true then (a.extract 0 ((a.size : Int) - 1).toNat ++ mrg (bt a ((a.size : Int) - 1)) (bt b 0)) ++ b.extract 1 b.size
  else a ++ b
theorem two_size (a b : ByteArray) : (two a b).size ≤ a.size + b.size := by
  unfold two
  split
  · rw [ByteArray.size_append]; omega
  · rename_i h
    split
    · rw [ByteArray.size_append, ByteArray.size_extract]; omega
    · split
      · rename_i h2
        have := mrg_size _ _ h2.1 h2.2
        rw [ByteArray.size_append, ByteArray.size_append, ByteArray.size_extract, ByteArray.size_extract]; omega
      · rw [ByteArray.size_append]; omega
theorem mk_space : mk 32 = false := by decide
theorem l11Two_k (a b : ByteArray) (ha : a.size ≤ 1099511627776) (hb : b.size ≤ 1099511627776) (k : Nat) (hk : 12 ≤ k) : spec_l11Two.f k a b = some (two a b) := by
  obtain ⟨k, rfl⟩ : ∃ m, k = m + 12 := ⟨k - 12, by omega⟩
  unfold spec_l11Two.f two
  by_cases ha0 : a.size = 0
  · rw [if_pos ((toList_nil a).2 ha0), if_pos (.inl ha0)]
    simp only [spec_l11Two.j0, if_true]
    rw [if_pos (by omega)]
  · rw [if_neg (fun e => ha0 ((toList_nil a).1 e)), toList_nil_b]
    by_cases hb0 : b.size = 0
    · rw [if_pos (.inr hb0), decide_eq_true hb0]
      simp only [spec_l11Two.j0, if_true]
      rw [if_pos (by omega)]
    · rw [if_neg (by omega), decide_eq_false hb0]
      have hw : wrap64 ((a.size : Int) - 1) = (a.size : Int) - 1 := wrap_small (by omega) (by omega)
      simp only [spec_l11Two.j0, hw]
      rw [if_neg (by simp), if_pos (by omega), if_pos (by omega), if_pos (by omega)]
      have hz1 : (b.extract 1 b.size).size = b.size - 1 := by rw [ByteArray.size_extract]; omega
      have hz2 : (a.extract 0 ((a.size : Int) - 1).toNat).size = a.size - 1 := by rw [ByteArray.size_extract]; omega
      simp only [spec_l11Two.j1, hw, l11Mark_k _ (k + 10) (by omega), Option.bind_some]
      have rest : (if midx (bt a ((a.size : Int) - 1)) ≥ 0 then (if midx (bt b 0) ≥ 0 then (if 0 ≤ (a.size : Int) - 1 then (if (a.size : Int) - 1 ≤ (a.size : Int) then ((spec_l11Merge.f (k + 10) (bt a ((a.size : Int) - 1)) (bt b 0)).bind fun t142 => (if (a.extract 0 ((a.size : Int) - 1).toNat).size + t142.size ≤ 9223372036854775807 then (if 1 ≤ (b.size : Int) then (if ((a.extract 0 ((a.size : Int) - 1).toNat) ++ t142).size + (b.extract 1 b.size).size ≤ 9223372036854775807 then (some (((a.extract 0 ((a.size : Int) - 1).toNat) ++ t142) ++ (b.extract 1 b.size))) else (none)) else (none)) else (none))) else (none)) else (none)) else (if a.size + b.size ≤ 9223372036854775807 then (some (a ++ b)) else (none))) else (if a.size + b.size ≤ 9223372036854775807 then (some (a ++ b)) else (none))) = some (if mk (bt a ((a.size : Int) - 1)) = true ∧ mk (bt b 0) = true then (a.extract 0 ((a.size : Int) - 1).toNat ++ mrg (bt a ((a.size : Int) - 1)) (bt b 0)) ++ b.extract 1 b.size else a ++ b) := by
        cases m1 : mk (bt a ((a.size : Int) - 1)) with
        | false => rw [midx_neg _ m1, if_neg (by omega), if_pos (by omega)]; simp
        | true =>
          have := midx_lt _ m1
          rw [if_pos (by omega)]
          cases m2 : mk (bt b 0) with
          | false => rw [midx_neg _ m2, if_neg (by omega), if_pos (by omega)]; simp
          | true =>
            have := midx_lt _ m2
            have hm := mrg_size _ _ m1 m2
            rw [if_pos (by omega), if_pos (by omega), if_pos (by omega), l11Merge_k _ _ m1 m2 _ (by omega), Option.bind_some, if_pos (by omega), if_pos (by omega), if_pos (by rw [ByteArray.size_append]; omega)]
            simp
      by_cases c1 : bt a ((a.size : Int) - 1) = 32
      · by_cases c2 : bt b 0 = 32
        · rw [if_pos c1, beq_iff_eq.mpr c2, if_pos (show bt a ((a.size : Int) - 1) = 32 ∧ bt b 0 = 32 from ⟨c1, c2⟩), if_pos rfl, if_pos (by omega), if_pos (by omega)]
        · rw [if_pos c1, beq_eq_false_iff_ne.mpr c2, if_neg (show ¬ (bt a ((a.size : Int) - 1) = 32 ∧ bt b 0 = 32) from fun h => c2 h.2), if_neg (show ¬ (false = true) from by decide)]
          exact rest
      · rw [if_neg c1, if_neg (show ¬ (bt a ((a.size : Int) - 1) = 32 ∧ bt b 0 = 32) from fun h => c1 h.1), if_neg (show ¬ (false = true) from by decide)]
        exact rest
theorem joinTwo_k (a b : ByteArray) (ha : a.size ≤ 1099511627776) (hb : b.size ≤ 1099511627776) (k : Nat) (hk : 12 ≤ k) : impl_joinTwo.f k a b = some (two a b) := by
  obtain ⟨k, rfl⟩ : ∃ m, k = m + 12 := ⟨k - 12, by omega⟩
  unfold impl_joinTwo.f two
  by_cases ha0 : a.size = 0
  · rw [if_pos ((toList_nil a).2 ha0), if_pos (.inl ha0)]
    simp only [impl_joinTwo.j0, if_true]
    rw [if_pos (by omega)]
  · rw [if_neg (fun e => ha0 ((toList_nil a).1 e)), toList_nil_b]
    by_cases hb0 : b.size = 0
    · rw [if_pos (.inr hb0), decide_eq_true hb0]
      simp only [impl_joinTwo.j0, if_true]
      rw [if_pos (by omega)]
    · rw [if_neg (by omega), decide_eq_false hb0]
      have hw : wrap64 ((a.size : Int) - 1) = (a.size : Int) - 1 := wrap_small (by omega) (by omega)
      simp only [impl_joinTwo.j0, hw, isMark_bt, Option.bind_some]
      rw [if_neg (by simp), if_pos (by omega), if_pos (by omega), if_pos (by omega)]
      have hz1 : (b.extract 1 b.size).size = b.size - 1 := by rw [ByteArray.size_extract]; omega
      have hz2 : (a.extract 0 ((a.size : Int) - 1).toNat).size = a.size - 1 := by rw [ByteArray.size_extract]; omega
      simp only [impl_joinTwo.j1, hw]
      have key : ∀ t : ByteArray, (if bt a ((a.size : Int) - 1) = 32 then (if bt b 0 = 32 then (if 1 ≤ (b.size : Int) then (if a.size + (b.extract 1 b.size).size ≤ 9223372036854775807 then (some (a ++ (b.extract 1 b.size))) else (none)) else (none)) else (if a.size + b.size ≤ 9223372036854775807 then (some (a ++ b)) else (none))) else (if a.size + b.size ≤ 9223372036854775807 then (some (a ++ b)) else (none))) = some (if bt a ((a.size : Int) - 1) = 32 ∧ bt b 0 = 32 then a ++ b.extract 1 b.size else a ++ b) := by
        intro t
        by_cases c1 : bt a ((a.size : Int) - 1) = 32
        · rw [if_pos c1]
          by_cases c2 : bt b 0 = 32
          · rw [if_pos c2, if_pos (show bt a ((a.size : Int) - 1) = 32 ∧ bt b 0 = 32 from ⟨c1, c2⟩), if_pos (show 1 ≤ (b.size : Int) from by omega), if_pos (by omega)]
          · rw [if_neg c2, if_neg (show ¬ (bt a ((a.size : Int) - 1) = 32 ∧ bt b 0 = 32) from fun h => c2 h.2), if_pos (by omega)]
        · rw [if_neg c1, if_neg (show ¬ (bt a ((a.size : Int) - 1) = 32 ∧ bt b 0 = 32) from fun h => c1 h.1), if_pos (by omega)]
      cases m1 : mk (bt a ((a.size : Int) - 1)) with
      | false =>
        simp only [Bool.false_eq_true, if_false, false_and]
        exact key a
      | true =>
        cases m2 : mk (bt b 0) with
        | false =>
          simp only [Bool.false_eq_true, if_false, and_false, if_true]
          exact key a
        | true =>
          have hm := mrg_size _ _ m1 m2
          have n1 : ¬ (bt a ((a.size : Int) - 1) = 32 ∧ bt b 0 = 32) := by
            rintro ⟨e, _⟩
            rw [e, mk_space] at m1
            cases m1
          simp only [if_true]
          rw [if_pos (by omega), if_pos (by omega), mergeMarks_eq _ _ m1 m2, Option.bind_some, if_pos (by omega), if_pos (by omega), if_pos (by rw [ByteArray.size_append]; omega), if_neg n1, if_pos (show True ∧ True from ⟨trivial, trivial⟩)]

end Go.Proofs.YtciminppeclofaaDoor.Pure
