/- Lemmas on the printed functions, without Go and memory. -/
import Derived.Lib.ItoaLen
import Derived.Lib.ItoaMem
import Derived.Test.YtmemcncbkgcbeaaGreatDoorPx3
import Derived.Test.YtmemcncbkgcbeaaGreatDoorPx4
import Derived.Test.YtmemcncbkgcbeaaGreatDoorQPage
namespace Go.Proofs.YtmemcncbkgcbeaaGreatDoor.Pure
open Go.RowKit Go.Proofs.YtmemcncbkgcbeaaGreatDoor.Px Go.Proofs.YtmemcncbkgcbeaaGreatDoorW.PrintWords Go.Proofs.YtmemcncbkgcbeaaGreatDoorW.PrintLast
set_option linter.unusedVariables false
set_option linter.unusedSimpArgs false

def numT (n : Int) : ByteArray := ⟨(Lib.itoa n).toArray⟩
theorem numT_list (n : Int) : (numT n).data.toList = Lib.itoa n := by simp [numT]
theorem numT_size (n : Int) : (numT n).size = (Lib.itoa n).length := by rw [← data_length, numT_list]
theorem numT_le (n : Int) (h0 : -9223372036854775808 ≤ n) (h1 : n ≤ 9223372036854775807) : (numT n).size ≤ 21 := by rw [numT_size]; exact Lib.itoa_length_le n h0 h1
theorem numT_nat (u : Nat) : numT (u : Int) = ⟨(Lib.decDigits u).toArray⟩ := by unfold numT; rw [Lib.itoa_nonneg]
theorem itoa_some (n : Int) (h0 : -9223372036854775808 ≤ n) (h1 : n ≤ 9223372036854775807) : strconv_Itoa_56.f n = some (numT n) := by
  unfold strconv_Itoa_56.f
  rw [if_pos h0, if_pos h1]
  rfl
theorem digit_fin : ∀ i : Fin 10, (⟨#[48, 49, 50, 51, 52, 53, 54, 55, 56, 57]⟩ : ByteArray).extract i.val (i.val + 1) = ⟨#[UInt8.ofNat (48 + i.val)]⟩ := by decide +kernel
theorem digit_cut (d : Int) (h0 : 0 ≤ d) (h1 : d < 10) : (⟨#[48, 49, 50, 51, 52, 53, 54, 55, 56, 57]⟩ : ByteArray).extract d.toNat (wrap64 (d + 1)).toNat = ⟨#[UInt8.ofNat (48 + d.toNat)]⟩ := by
  have := digit_fin ⟨d.toNat, by omega⟩
  rw [wrap_small (by omega) (by omega), show (d + 1).toNat = d.toNat + 1 from by omega]
  exact this
theorem num_ev (u : Nat) (hu : u ≤ 1000000) : Ev (fun k => spec_l1Num.f k (u : Int)) (numT u) := by
  induction u using Nat.strongRecOn with
  | _ u ih =>
    by_cases h : u < 10
    · refine Ev.step (f := fun _ => some (numT u)) (fun k => ?_) (Ev.now _)
      simp only [spec_l1Num.f]
      rw [if_neg (by omega), if_pos (by omega), if_pos (by omega), digit_cut _ (by omega) (by omega), wrap_small (by omega) (by omega), if_pos (by omega), if_pos (by omega), numT_nat, Lib.decDigits_one h]
      rfl
    · have e := ih (u / 10) (by omega) (by omega)
      have hd : Int.tdiv (u : Int) 10 = ((u / 10 : Nat) : Int) := by rw [Int.tdiv_eq_ediv_of_nonneg (by omega)]; omega
      have hm : Int.tmod (u : Int) 10 = ((u % 10 : Nat) : Int) := by rw [Int.tmod_eq_emod_of_nonneg (by omega)]; omega
      have hs := numT_le ((u / 10 : Nat) : Int) (by omega) (by omega)
      have hz : (⟨#[UInt8.ofNat (48 + u % 10)]⟩ : ByteArray).size = 1 := rfl
      refine Ev.step (f := fun k => (spec_l1Num.f k ((u / 10 : Nat) : Int)).bind fun t => if t.size + (⟨#[UInt8.ofNat (48 + u % 10)]⟩ : ByteArray).size ≤ 9223372036854775807 then some (t ++ ⟨#[UInt8.ofNat (48 + u % 10)]⟩) else none) (fun k => ?_) (Ev.bind e ?_)
      · simp only [spec_l1Num.f]
        rw [if_neg (by omega), if_neg (by omega), hd, hm, digit_cut _ (by omega) (by omega), wrap_small (x := ((u / 10 : Nat) : Int)) (by omega) (by omega), wrap_small (by omega) (by omega)]
        simp only [if_pos (show (0 : Int) ≤ ((u % 10 : Nat) : Int) by omega), if_pos (show ((u % 10 : Nat) : Int) ≤ ((u % 10 : Nat) : Int) + 1 by omega), if_pos (show ((u % 10 : Nat) : Int) + 1 ≤ 10 by omega), Int.toNat_natCast]
      · refine Ev.congr (fun _ => if_pos (by omega)) ?_
        have : numT ((u / 10 : Nat) : Int) ++ ⟨#[UInt8.ofNat (48 + u % 10)]⟩ = numT u := by
          rw [numT_nat, numT_nat u, Lib.decDigits.eq_def u, dif_neg h]
          apply ByteArray.ext
          simp
        rw [this]
        exact Ev.now _
theorem num_evI (n : Int) (h0 : 0 ≤ n) (h1 : n ≤ 1000000) : Ev (fun k => spec_l1Num.f k n) (numT n) := by
  have := num_ev n.toNat (by omega)
  rwa [show ((n.toNat : Nat) : Int) = n from by omega] at this
theorem numT_pos (n : Int) : 0 < (numT n).size := by
  rw [numT_size]
  unfold Lib.itoa
  split
  · simp
  · rw [Lib.decDigits_length]; exact Lib.nDigits_pos _

def valD (l : List UInt8) : Nat := l.foldl (fun acc b => acc * 10 + (b.toNat - 48)) 0
theorem valD_dec (u : Nat) : valD (Lib.decDigits u) = u := by
  induction u using Nat.strongRecOn with
  | _ u ih =>
    rw [Lib.decDigits.eq_def]
    by_cases h : u < 10
    · rw [dif_pos h]
      simp only [valD, List.foldl_cons, List.foldl_nil, UInt8.toNat_ofNat']
      omega
    · rw [dif_neg h]
      have := ih (u / 10) (by omega)
      simp only [valD, List.foldl_append, List.foldl_cons, List.foldl_nil, UInt8.toNat_ofNat'] at this ⊢
      rw [this]
      omega
theorem numT_inj (x y : Int) (hx : 0 ≤ x) (hy : 0 ≤ y) (h : numT x = numT y) : x = y := by
  have e : (numT x).data.toList = (numT y).data.toList := by rw [h]
  rw [numT_list, numT_list, show x = ((x.toNat : Nat) : Int) from by omega, show y = ((y.toNat : Nat) : Int) from by omega, Lib.itoa_nonneg, Lib.itoa_nonneg] at e
  have := congrArg valD e
  rw [valD_dec, valD_dec] at this
  omega
theorem least (p : Nat → Prop) (n : Nat) (h : p n) : ∃ m, m ≤ n ∧ p m ∧ ∀ i, i < m → ¬ p i := by
  induction n using Nat.strongRecOn with
  | _ n ih =>
    by_cases c : ∃ i, i < n ∧ p i
    · obtain ⟨i, h1, h2⟩ := c
      obtain ⟨m, a, b, d⟩ := ih i h1 h2
      exact ⟨m, by omega, b, d⟩
    · exact ⟨n, Nat.le_refl _, h, fun i hi hp => c ⟨i, hi, hp⟩⟩
theorem bt_nat (s : ByteArray) (i : Nat) (h : i < s.size) : bt s (i : Int) = ((s.data.toList[i]'(by rw [data_length]; exact h)).toNat : Int) := by
  unfold bt
  rw [dif_pos (by omega)]
  rfl
theorem first_diff (A B : ByteArray) (hs : A.size = B.size) (hne : A ≠ B) : ∃ D : Nat, D < A.size ∧ bt A (D : Int) ≠ bt B (D : Int) ∧ ∀ i : Nat, i < D → bt A (i : Int) = bt B (i : Int) := by
  have : ∃ i : Nat, i < A.size ∧ bt A (i : Int) ≠ bt B (i : Int) := by
    apply Classical.byContradiction
    intro hno
    apply hne
    apply ByteArray.ext
    apply Array.toList_inj.1
    apply List.ext_getElem (by rw [data_length, data_length, hs])
    intro i h1 h2
    rw [data_length] at h1 h2
    apply Classical.byContradiction
    intro hd
    apply hno
    refine ⟨i, h1, fun he => hd ?_⟩
    rw [bt_nat A i h1, bt_nat B i h2] at he
    exact UInt8.toNat_inj.1 (by omega)
  obtain ⟨i, h1, h2⟩ := this
  obtain ⟨D, a, b, c⟩ := least (fun j => bt A (j : Int) ≠ bt B (j : Int)) i h2
  exact ⟨D, by omega, b, fun j hj => Classical.byContradiction fun h => c j hj h⟩
def rText (a : ByteArray) (x y : Int) : ByteArray := if y > x then (a ++ numT x) ++ (((⟨#[45]⟩ : ByteArray) ++ a) ++ numT y) else a ++ numT x
theorem dash : (⟨#[45]⟩ : ByteArray).size = 1 := rfl
structure Fit (a : ByteArray) (x y : Int) : Prop where
  a : a.size ≤ 1
  x0 : 1 ≤ x
  xy : x ≤ y
  y1 : y ≤ 99999
theorem implText (a : ByteArray) (x y : Int) (h : Fit a x y) : impl_rangeText.f a x y = some (rText a x y) := by
  obtain ⟨ha, h0, h1, h2⟩ := h
  have s1 := numT_le x (by omega) (by omega)
  have s2 := numT_le y (by omega) (by omega)
  unfold impl_rangeText.f rText
  rw [itoa_some x (by omega) (by omega), Option.bind_some, itoa_some y (by omega) (by omega), Option.bind_some, if_pos (by omega)]
  by_cases c : y > x
  · rw [if_pos c, if_pos c, if_pos (by omega), if_pos (by simp only [ByteArray.size_append, dash]; omega), if_pos (by simp only [ByteArray.size_append, dash]; omega)]
  · rw [if_neg c, if_neg c]
theorem specText (a : ByteArray) (x y : Int) (h : Fit a x y) : Ev (fun k => spec_l7Text.f k a x y) (rText a x y) := by
  obtain ⟨ha, h0, h1, h2⟩ := h
  have s1 := numT_le x (by omega) (by omega)
  have s2 := numT_le y (by omega) (by omega)
  unfold spec_l7Text.f rText
  refine Ev.bind (num_evI x (by omega) (by omega)) (Ev.congr (fun _ => if_pos (by omega)) ?_)
  by_cases c : y > x
  · rw [if_pos c]
    refine Ev.congr (fun _ => if_pos c) (Ev.congr (fun _ => if_pos (by simp only [ByteArray.size_append, dash]; omega)) (Ev.congr (fun _ => if_pos (by simp only [ByteArray.size_append, dash]; omega)) ?_))
    refine Ev.bind (num_evI y (by omega) (by omega)) (Ev.congr (fun _ => if_pos (by simp only [ByteArray.size_append, dash]; omega)) ?_)
    rw [show a ++ numT x ++ ⟨#[45]⟩ ++ a ++ numT y = a ++ numT x ++ (⟨#[45]⟩ ++ a ++ numT y) from by simp only [ByteArray.append_assoc]]
    exact Ev.now _
  · rw [if_neg c]
    exact Ev.congr (fun _ => if_neg c) (Ev.now _)
theorem rText_size (a : ByteArray) (x y : Int) (h : Fit a x y) : (rText a x y).size ≤ 45 := by
  obtain ⟨ha, h0, h1, h2⟩ := h
  have s1 := numT_le x (by omega) (by omega)
  have s2 := numT_le y (by omega) (by omega)
  unfold rText
  split <;> simp only [ByteArray.size_append, dash] <;> omega
theorem fit_of (x : Sp) (h : okr x = true) : Fit x.f0 x.f1 x.f2 := by
  unfold okr at h
  simp only [Bool.and_eq_true, decide_eq_true_eq] at h
  obtain ⟨l, a, b, c⟩ := h
  refine ⟨?_, a, b, c⟩
  unfold letter at l
  by_cases d : x.f0.size = 0
  · omega
  · rw [decide_eq_false d, Bool.false_or] at l
    have := of_decide_eq_true (Bool.and_eq_true_iff.1 l).1
    omega

end Go.Proofs.YtmemcncbkgcbeaaGreatDoor.Pure
