/- The law FnExactEndWith, as a statement over numbers and lists: the program's function and the reference's answer alike, for every input; no further condition. -/
import Derived.Test.YtciminppeclofaaDoorPx10
import Derived.Test.YtciminppeclofaaDoorPx11
import Derived.Test.YtciminppeclofaaDoorPx4
import Derived.Test.YtciminppeclofaaDoorPx6
import Derived.Test.YtciminppeclofaaDoorPx7
import Derived.Test.YtciminppeclofaaDoorQText
import Derived.Test.YtciminppeclofaaDoorQTwo
namespace Go.Proofs.YtciminppeclofaaDoor.Pure
open Go.RowKit Go.Proofs.YtciminppeclofaaDoor.Px Go.Proofs.YtciminppeclofaaDoorW.PrintWords Go.Proofs.YtciminppeclofaaDoorW.PrintLast
set_option linter.unusedVariables false
set_option linter.unusedSimpArgs false

/-- A text without the spaces at its end. -/
def trR : Nat → ByteArray → ByteArray
  | 0, s => s
  | n + 1, s => if bt s ((s.size : Int) - 1) = 32 then trR n (s.extract 0 ((s.size : Int) - 1).toNat) else s
theorem trR_size : ∀ (n : Nat) (s : ByteArray), (trR n s).size ≤ s.size
  | 0, _ => Nat.le_refl _
  | n + 1, s => by
    unfold trR
    split
    · refine Nat.le_trans (trR_size n _) ?_
      rw [ByteArray.size_extract]; omega
    · exact Nat.le_refl _
theorem trimRight_l0 : ∀ (n : Nat) (s : ByteArray) (k : Nat), s.size = n → s.size ≤ 1099511627776 → n < k → strings_trimRightByte.l0 k s 32 = some (trR n s)
  | 0, s, k, hn, hs, hk => by
    obtain ⟨k, rfl⟩ : ∃ m, k = m + 1 := ⟨k - 1, by omega⟩
    simp only [strings_trimRightByte.l0, trR]
    rw [if_neg (by omega)]
  | n + 1, s, k, hn, hs, hk => by
    obtain ⟨k, rfl⟩ : ∃ m, k = m + 1 := ⟨k - 1, by omega⟩
    have hw : wrap64 ((s.size : Int) - 1) = (s.size : Int) - 1 := wrap_small (by omega) (by omega)
    have hz : (s.extract 0 ((s.size : Int) - 1).toNat).size = n := by rw [ByteArray.size_extract]; omega
    simp only [strings_trimRightByte.l0, trR, hw]
    rw [if_pos (by omega), if_pos (by omega), if_pos (by omega), if_pos (show (s.size : Int) - 1 ≤ (s.size : Int) from by omega), trimRight_l0 n _ k hz (by omega) (by omega)]
    split <;> rfl
theorem TrimRight_k (s : ByteArray) (hs : s.size ≤ 1099511627776) (k : Nat) (hk : s.size < k) : strings_TrimRight.f k s ⟨#[32]⟩ = some (trR s.size s) := by
  unfold strings_TrimRight.f
  rw [if_pos (by rfl), if_pos (by decide)]
  exact trimRight_l0 _ s k rfl hs hk
def endW (s : ByteArray) (m : Int) : ByteArray := if m = 46 ∧ (s.size : Int) ≥ 2 ∧ bt s ((s.size : Int) - 1) = 34 ∧ (bt s ((s.size : Int) - 2) = 46 ∨ bt s ((s.size : Int) - 2) = 33 ∨ bt s ((s.size : Int) - 2) = 63) then s else two s (strOfNums [m])
theorem mark_size (m : Int) : (strOfNums [m]).size = 1 := rfl
theorem spec_l0 (m : Int) : ∀ (n : Nat) (s : ByteArray) (k : Nat), s.size = n → s.size ≤ 1048576 → n + 13 < k → spec_EndWith.l0 k s m = some (endW (trR n s) m, true)
  | 0, s, k, hn, hs, hk => by
    obtain ⟨k, rfl⟩ : ∃ m, k = m + 1 := ⟨k - 1, by omega⟩
    simp only [spec_EndWith.l0, trR]
    rw [if_pos ((toList_nil s).2 hn), if_neg (by omega), l11Two_k _ _ (by omega) (by rw [mark_size]; omega) _ (by omega), Option.bind_some]
    unfold endW
    rw [if_neg (by rintro ⟨_, h, _⟩; omega)]
  | n + 1, s, k, hn, hs, hk => by
    obtain ⟨k, rfl⟩ : ∃ m, k = m + 1 := ⟨k - 1, by omega⟩
    have hw : wrap64 ((s.size : Int) - 1) = (s.size : Int) - 1 := wrap_small (by omega) (by omega)
    have hw2 : wrap64 ((s.size : Int) - 2) = (s.size : Int) - 2 := wrap_small (by omega) (by omega)
    have hz : (s.extract 0 ((s.size : Int) - 1).toNat).size = n := by rw [ByteArray.size_extract]; omega
    simp only [spec_EndWith.l0, trR, hw, hw2, l11Two_k s (strOfNums [m]) (by omega) (by rw [mark_size]; omega) k (by omega), Option.bind_some]
    rw [if_neg (fun e => by have := (toList_nil s).1 e; omega), if_pos (by omega), if_pos (by omega), if_pos (show (s.size : Int) - 1 ≤ (s.size : Int) from by omega), spec_l0 m n _ k hz (by omega) (by omega)]
    by_cases c : bt s ((s.size : Int) - 1) = 32
    · rw [if_pos c, if_pos c]
    · rw [if_neg c, if_neg c]
      unfold endW
      by_cases n2 : (s.size : Int) > 1
      · rw [if_pos n2]
        have e1 : (0 ≤ (s.size : Int) - 2) = True := by simp only [eq_iff_iff, iff_true]; omega
        have e2 : ((s.size : Int) - 2 < (s.size : Int)) = True := by simp only [eq_iff_iff, iff_true]; omega
        have e3 : ((s.size : Int) ≥ 2) = True := by simp only [eq_iff_iff, iff_true]; omega
        simp only [e1, e2, e3, if_true, true_and]
        by_cases a : bt s ((s.size : Int) - 1) = 34 <;> by_cases b : m = 46 <;> by_cases d1 : bt s ((s.size : Int) - 2) = 46 <;> by_cases d2 : bt s ((s.size : Int) - 2) = 33 <;> by_cases d3 : bt s ((s.size : Int) - 2) = 63 <;> simp [a, b, d1, d2, d3]
      · rw [if_neg n2, if_neg (by rintro ⟨_, h, _⟩; omega)]
theorem impl_j0 (s : ByteArray) (m : Int) (hs : s.size ≤ 1048576) (k : Nat) (hk : s.size + 13 < k) : impl_EndWith.j0 k s m false = some (endW (trR s.size s) m, true) := by
  obtain ⟨k, rfl⟩ : ∃ m, k = m + 1 := ⟨k - 1, by omega⟩
  simp only [impl_EndWith.j0, TrimRight_k s (by omega) k (by omega), Option.bind_some]
  rw [if_neg (by decide)]
  have ht := trR_size s.size s
  generalize trR s.size s = t at ht
  have hw : wrap64 ((t.size : Int) - 1) = (t.size : Int) - 1 := wrap_small (by omega) (by omega)
  have hw2 : wrap64 ((t.size : Int) - 2) = (t.size : Int) - 2 := wrap_small (by omega) (by omega)
  simp only [hw, hw2, joinTwo_k t (strOfNums [m]) (by omega) (by rw [mark_size]; omega) k (by omega), Option.bind_some]
  unfold endW
  by_cases n2 : (t.size : Int) ≥ 2
  · have e1 : (0 ≤ (t.size : Int) - 2) = True := by simp only [eq_iff_iff, iff_true]; omega
    have e2 : ((t.size : Int) - 2 < (t.size : Int)) = True := by simp only [eq_iff_iff, iff_true]; omega
    have e3 : ((t.size : Int) ≥ 2) = True := by simp only [eq_iff_iff, iff_true]; omega
    have e4 : (0 ≤ (t.size : Int) - 1) = True := by simp only [eq_iff_iff, iff_true]; omega
    have e5 : ((t.size : Int) - 1 < (t.size : Int)) = True := by simp only [eq_iff_iff, iff_true]; omega
    simp only [e1, e2, e3, e4, e5, if_true, true_and]
    by_cases a : bt t ((t.size : Int) - 1) = 34 <;> by_cases b : m = 46 <;> by_cases d1 : bt t ((t.size : Int) - 2) = 46 <;> by_cases d2 : bt t ((t.size : Int) - 2) = 33 <;> by_cases d3 : bt t ((t.size : Int) - 2) = 63 <;> simp [a, b, d1, d2, d3]
  · rw [if_neg n2, if_neg (show ¬ (m = 46 ∧ _) from by rintro ⟨_, h, _⟩; exact n2 h)]
    split <;> rfl
theorem FnExactEndWith : laws_FnExactEndWith.Pure := by
  intro s m hs hm
  have hr := u8_range hm
  unfold laws_FnExactEndWith.f
  by_cases ca : (s.size : Int) > 1048576
  · exact ⟨0, by rw [if_pos ca]⟩
  refine ⟨s.size + 20, ?_⟩
  rw [if_neg ca]
  unfold spec_EndWith.f impl_EndWith.f
  simp only [l11Text_k s hs _ (show s.size < s.size + 20 from by omega), isPart_k s hs _ (show s.size < s.size + 20 from by omega), l11Mark_k m _ (show 8 ≤ s.size + 20 from by omega), isMark_eq m hr.1 hr.2, Option.bind_some]
  have t1 : ∀ k, spec_EndWith.j0 (k + 1) s m true = some ((⟨#[]⟩ : ByteArray), false) := fun k => by simp [spec_EndWith.j0]
  have t2 : ∀ k, impl_EndWith.j0 (k + 1) s m true = some ((⟨#[]⟩ : ByteArray), false) := fun k => by simp [impl_EndWith.j0]
  have t3 : spec_EndWith.j0 (s.size + 20) s m false = some (endW (trR s.size s) m, true) := by
    simp only [spec_EndWith.j0]
    rw [if_neg (by decide)]
    exact spec_l0 m _ s _ rfl (by omega) (by omega)
  have t4 : impl_EndWith.j0 (s.size + 20) s m false = some (endW (trR s.size s) m, true) := impl_j0 s m (by omega) _ (by omega)
  have t1 := t1 (s.size + 19)
  have t2 := t2 (s.size + 19)
  cases hp : isP s
  · simp only [Bool.false_eq_true, if_false]
    rw [t1, t2]; simp
  · simp only [if_true]
    cases hk : mk m with
    | false =>
      rw [midx_neg _ hk]
      simp only [show decide ((-1 : Int) < 0) = true from rfl, Bool.not_false]
      rw [t1, t2]; simp
    | true =>
      have := midx_lt _ hk
      rw [decide_eq_false (show ¬ midx m < 0 from by omega)]
      simp only [Bool.not_true]
      rw [t3, t4]; simp

end Go.Proofs.YtciminppeclofaaDoor.Pure
