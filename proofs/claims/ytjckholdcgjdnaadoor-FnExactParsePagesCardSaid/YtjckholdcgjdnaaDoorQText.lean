/- Lemmas on the printed functions, without Go and memory. -/
import Derived.Test.YtjckholdcgjdnaaDoorPx10
import Derived.Test.YtjckholdcgjdnaaDoorPx4
import Derived.Test.YtjckholdcgjdnaaDoorQNum
namespace Go.Proofs.YtjckholdcgjdnaaDoor.Pure
open Go.RowKit Go.Proofs.YtjckholdcgjdnaaDoor.Px Go.Proofs.YtjckholdcgjdnaaDoorW.PrintWords Go.Proofs.YtjckholdcgjdnaaDoorW.PrintLast
set_option linter.unusedVariables false
set_option linter.unusedSimpArgs false

/-! the text of a range, and of a collapsed one -/
def valD (l : List UInt8) : Nat := l.foldl (fun acc b => acc * 10 + (b.toNat - 48)) 0
theorem valD_dec (u : Nat) : valD (Lib.decDigits u) = u := by
  induction u using Nat.strongRecOn with
  | _ u ih =>
    rw [Lib.decDigits.eq_def]
    by_cases h : u < 10
    · rw [dif_pos h]
      simp only [valD, List.foldl_cons, List.foldl_nil, UInt8.toNat_ofNat']
      omega
    · rw [dif_neg h]
      have := ih (u / 10) (by omega)
      simp only [valD, List.foldl_append, List.foldl_cons, List.foldl_nil, UInt8.toNat_ofNat'] at this ⊢
      rw [this]
      omega
theorem numT_inj (x y : Int) (hx : 0 ≤ x) (hy : 0 ≤ y) (h : numT x = numT y) : x = y := by
  have e : (numT x).data.toList = (numT y).data.toList := by rw [h]
  rw [numT_list, numT_list, show x = ((x.toNat : Nat) : Int) from by omega, show y = ((y.toNat : Nat) : Int) from by omega, Lib.itoa_nonneg, Lib.itoa_nonneg] at e
  have := congrArg valD e
  rw [valD_dec, valD_dec] at this
  omega
theorem least (p : Nat → Prop) (n : Nat) (h : p n) : ∃ m, m ≤ n ∧ p m ∧ ∀ i, i < m → ¬ p i := by
  induction n using Nat.strongRecOn with
  | _ n ih =>
    by_cases c : ∃ i, i < n ∧ p i
    · obtain ⟨i, h1, h2⟩ := c
      obtain ⟨m, a, b, d⟩ := ih i h1 h2
      exact ⟨m, by omega, b, d⟩
    · exact ⟨n, Nat.le_refl _, h, fun i hi hp => c ⟨i, hi, hp⟩⟩
theorem bt_nat (s : ByteArray) (i : Nat) (h : i < s.size) : bt s (i : Int) = ((s.data.toList[i]'(by rw [data_length]; exact h)).toNat : Int) := by
  unfold bt
  rw [dif_pos (by omega)]
  rfl
theorem first_diff (A B : ByteArray) (hs : A.size = B.size) (hne : A ≠ B) : ∃ D : Nat, D < A.size ∧ bt A (D : Int) ≠ bt B (D : Int) ∧ ∀ i : Nat, i < D → bt A (i : Int) = bt B (i : Int) := by
  have : ∃ i : Nat, i < A.size ∧ bt A (i : Int) ≠ bt B (i : Int) := by
    apply Classical.byContradiction
    intro hno
    apply hne
    apply ByteArray.ext
    apply Array.toList_inj.1
    apply List.ext_getElem (by rw [data_length, data_length, hs])
    intro i h1 h2
    rw [data_length] at h1 h2
    apply Classical.byContradiction
    intro hd
    apply hno
    refine ⟨i, h1, fun he => hd ?_⟩
    rw [bt_nat A i h1, bt_nat B i h2] at he
    exact UInt8.toNat_inj.1 (by omega)
  obtain ⟨i, h1, h2⟩ := this
  obtain ⟨D, a, b, c⟩ := least (fun j => bt A (j : Int) ≠ bt B (j : Int)) i h2
  exact ⟨D, by omega, b, fun j hj => Classical.byContradiction fun h => c j hj h⟩
def rText (a : ByteArray) (x y : Int) : ByteArray := if y > x then (a ++ numT x) ++ (((⟨#[45]⟩ : ByteArray) ++ a) ++ numT y) else a ++ numT x
theorem dash : (⟨#[45]⟩ : ByteArray).size = 1 := rfl
structure Fit (a : ByteArray) (x y : Int) : Prop where
  a : a.size ≤ 1
  x0 : 1 ≤ x
  xy : x ≤ y
  y1 : y ≤ 99999
theorem implText (a : ByteArray) (x y : Int) (h : Fit a x y) : impl_rangeText.f a x y = some (rText a x y) := by
  obtain ⟨ha, h0, h1, h2⟩ := h
  have s1 := numT_le x (by omega) (by omega)
  have s2 := numT_le y (by omega) (by omega)
  unfold impl_rangeText.f rText
  rw [itoa_some x (by omega) (by omega), Option.bind_some, itoa_some y (by omega) (by omega), Option.bind_some, if_pos (by omega)]
  by_cases c : y > x
  · rw [if_pos c, if_pos c, if_pos (by omega), if_pos (by simp only [ByteArray.size_append, dash]; omega), if_pos (by simp only [ByteArray.size_append, dash]; omega)]
  · rw [if_neg c, if_neg c]
theorem specText (a : ByteArray) (x y : Int) (h : Fit a x y) : Ev (fun k => spec_l7Text.f k a x y) (rText a x y) := by
  obtain ⟨ha, h0, h1, h2⟩ := h
  have s1 := numT_le x (by omega) (by omega)
  have s2 := numT_le y (by omega) (by omega)
  unfold spec_l7Text.f rText
  refine Ev.bind (num_evI x (by omega) (by omega)) (Ev.congr (fun _ => if_pos (by omega)) ?_)
  by_cases c : y > x
  · rw [if_pos c]
    refine Ev.congr (fun _ => if_pos c) (Ev.congr (fun _ => if_pos (by simp only [ByteArray.size_append, dash]; omega)) (Ev.congr (fun _ => if_pos (by simp only [ByteArray.size_append, dash]; omega)) ?_))
    refine Ev.bind (num_evI y (by omega) (by omega)) (Ev.congr (fun _ => if_pos (by simp only [ByteArray.size_append, dash]; omega)) ?_)
    rw [show a ++ numT x ++ ⟨#[45]⟩ ++ a ++ numT y = a ++ numT x ++ (⟨#[45]⟩ ++ a ++ numT y) from by simp only [ByteArray.append_assoc]]
    exact Ev.now _
  · rw [if_neg c]
    exact Ev.congr (fun _ => if_neg c) (Ev.now _)
theorem rText_size (a : ByteArray) (x y : Int) (h : Fit a x y) : (rText a x y).size ≤ 45 := by
  obtain ⟨ha, h0, h1, h2⟩ := h
  have s1 := numT_le x (by omega) (by omega)
  have s2 := numT_le y (by omega) (by omega)
  unfold rText
  split <;> simp only [ByteArray.size_append, dash] <;> omega
theorem fit_of (x : Sp) (h : okr x = true) : Fit x.f0 x.f1 x.f2 := by
  unfold okr at h
  simp only [Bool.and_eq_true, decide_eq_true_eq] at h
  obtain ⟨l, a, b, c⟩ := h
  refine ⟨?_, a, b, c⟩
  unfold letter at l
  by_cases d : x.f0.size = 0
  · omega
  · rw [decide_eq_false d, Bool.false_or] at l
    have := of_decide_eq_true (Bool.and_eq_true_iff.1 l).1
    omega

end Go.Proofs.YtjckholdcgjdnaaDoor.Pure
