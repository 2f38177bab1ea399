/- Lemmas on the printed functions, without Go and memory. -/
import Derived.Test.YtjckholdcgjdnaaDoorPx10
import Derived.Test.YtjckholdcgjdnaaDoorPx4
import Derived.Test.YtjckholdcgjdnaaDoorPx5
import Derived.Test.YtjckholdcgjdnaaDoorPx6
import Derived.Test.YtjckholdcgjdnaaDoorPx9
import Derived.Test.YtjckholdcgjdnaaDoorQNum
namespace Go.Proofs.YtjckholdcgjdnaaDoor.Pure
open Go.RowKit Go.Proofs.YtjckholdcgjdnaaDoor.Px Go.Proofs.YtjckholdcgjdnaaDoorW.PrintWords Go.Proofs.YtjckholdcgjdnaaDoorW.PrintLast
set_option linter.unusedVariables false
set_option linter.unusedSimpArgs false

/-! the text of a range, and of a collapsed one -/
def valD (l : List UInt8) : Nat := l.foldl (fun acc b => acc * 10 + (b.toNat - 48)) 0
theorem valD_dec (u : Nat) : valD (Lib.decDigits u) = u := by
  induction u using Nat.strongRecOn with
  | _ u ih =>
    rw [Lib.decDigits.eq_def]
    by_cases h : u < 10
    · rw [dif_pos h]
      simp only [valD, List.foldl_cons, List.foldl_nil, UInt8.toNat_ofNat']
      omega
    · rw [dif_neg h]
      have := ih (u / 10) (by omega)
      simp only [valD, List.foldl_append, List.foldl_cons, List.foldl_nil, UInt8.toNat_ofNat'] at this ⊢
      rw [this]
      omega
theorem numT_inj (x y : Int) (hx : 0 ≤ x) (hy : 0 ≤ y) (h : numT x = numT y) : x = y := by
  have e : (numT x).data.toList = (numT y).data.toList := by rw [h]
  rw [numT_list, numT_list, show x = ((x.toNat : Nat) : Int) from by omega, show y = ((y.toNat : Nat) : Int) from by omega, Lib.itoa_nonneg, Lib.itoa_nonneg] at e
  have := congrArg valD e
  rw [valD_dec, valD_dec] at this
  omega
theorem least (p : Nat → Prop) (n : Nat) (h : p n) : ∃ m, m ≤ n ∧ p m ∧ ∀ i, i < m → ¬ p i := by
  induction n using Nat.strongRecOn with
  | _ n ih =>
    by_cases c : ∃ i, i < n ∧ p i
    · obtain ⟨i, h1, h2⟩ := c
      obtain ⟨m, a, b, d⟩ := ih i h1 h2
      exact ⟨m, by omega, b, d⟩
    · exact ⟨n, Nat.le_refl _, h, fun i hi hp => c ⟨i, hi, hp⟩⟩
theorem bt_nat (s : ByteArray) (i : Nat) (h : i < s.size) : bt s (i : Int) = ((s.data.toList[i]'(by rw [data_length]; exact h)).toNat : Int) := by
  unfold bt
  rw [dif_pos (by omega)]
  rfl
theorem first_diff (A B : ByteArray) (hs : A.size = B.size) (hne : A ≠ B) : ∃ D : Nat, D < A.size ∧ bt A (D : Int) ≠ bt B (D : Int) ∧ ∀ i : Nat, i < D → bt A (i : Int) = bt B (i : Int) := by
  have : ∃ i : Nat, i < A.size ∧ bt A (i : Int) ≠ bt B (i : Int) := by
    apply Classical.byContradiction
    intro hno
    apply hne
    apply ByteArray.ext
    apply Array.toList_inj.1
    apply List.ext_getElem (by rw [data_length, data_length, hs])
    intro i h1 h2
    rw [data_length] at h1 h2
    apply Classical.byContradiction
    intro hd
    apply hno
    refine ⟨i, h1, fun he => hd ?_⟩
    rw [bt_nat A i h1, bt_nat B i h2] at he
    exact UInt8.toNat_inj.1 (by omega)
  obtain ⟨i, h1, h2⟩ := this
  obtain ⟨D, a, b, c⟩ := least (fun j => bt A (j : Int) ≠ bt B (j : Int)) i h2
  exact ⟨D, by omega, b, fun j hj => Classical.byContradiction fun h => c j hj h⟩
def rText (a : ByteArray) (x y : Int) : ByteArray := if y > x then (a ++ numT x) ++ (((⟨#[45]⟩ : ByteArray) ++ a) ++ numT y) else a ++ numT x
theorem dash : (⟨#[45]⟩ : ByteArray).size = 1 := rfl
structure Fit (a : ByteArray) (x y : Int) : Prop where
  a : a.size ≤ 1
  x0 : 1 ≤ x
  xy : x ≤ y
  y1 : y ≤ 99999
theorem implText (a : ByteArray) (x y : Int) (h : Fit a x y) : impl_rangeText.f a x y = some (rText a x y) := by
  obtain ⟨ha, h0, h1, h2⟩ := h
  have s1 := numT_le x (by omega) (by omega)
  have s2 := numT_le y (by omega) (by omega)
  unfold impl_rangeText.f rText
  rw [itoa_some x (by omega) (by omega), Option.bind_some, itoa_some y (by omega) (by omega), Option.bind_some, if_pos (by omega)]
  by_cases c : y > x
  · rw [if_pos c, if_pos c, if_pos (by omega), if_pos (by simp only [ByteArray.size_append, dash]; omega), if_pos (by simp only [ByteArray.size_append, dash]; omega)]
  · rw [if_neg c, if_neg c]
theorem specText (a : ByteArray) (x y : Int) (h : Fit a x y) : Ev (fun k => spec_l7Text.f k a x y) (rText a x y) := by
  obtain ⟨ha, h0, h1, h2⟩ := h
  have s1 := numT_le x (by omega) (by omega)
  have s2 := numT_le y (by omega) (by omega)
  unfold spec_l7Text.f rText
  refine Ev.bind (num_evI x (by omega) (by omega)) (Ev.congr (fun _ => if_pos (by omega)) ?_)
  by_cases c : y > x
  · rw [if_pos c]
    refine Ev.congr (fun _ => if_pos c) (Ev.congr (fun _ => if_pos (by simp only [ByteArray.size_append, dash]; omega)) (Ev.congr (fun _ => if_pos (by simp only [ByteArray.size_append, dash]; omega)) ?_))
    refine Ev.bind (num_evI y (by omega) (by omega)) (Ev.congr (fun _ => if_pos (by simp only [ByteArray.size_append, dash]; omega)) ?_)
    rw [show a ++ numT x ++ ⟨#[45]⟩ ++ a ++ numT y = a ++ numT x ++ (⟨#[45]⟩ ++ a ++ numT y) from by simp only [ByteArray.append_assoc]]
    exact Ev.now _
  · rw [if_neg c]
    exact Ev.congr (fun _ => if_neg c) (Ev.now _)
theorem rText_size (a : ByteArray) (x y : Int) (h : Fit a x y) : (rText a x y).size ≤ 45 := by
  obtain ⟨ha, h0, h1, h2⟩ := h
  have s1 := numT_le x (by omega) (by omega)
  have s2 := numT_le y (by omega) (by omega)
  unfold rText
  split <;> simp only [ByteArray.size_append, dash] <;> omega
def cutT (a A B : ByteArray) (i : Int) : ByteArray := ((a ++ A) ++ (⟨#[45]⟩ : ByteArray)) ++ B.extract i.toNat B.size
theorem ext_size (B : ByteArray) (i : Nat) : (B.extract i B.size).size ≤ B.size := by rw [ByteArray.size_extract]; omega
theorem spec_scan (a A B : ByteArray) (st x y : Int) (ha : a.size ≤ 1) (hA : A.size ≤ 21) (hB : B.size = A.size) (D : Nat) (hD : D < A.size) (hne : bt A (D : Int) ≠ bt B (D : Int)) (heq : ∀ i : Nat, i < D → bt A (i : Int) = bt B (i : Int)) :
    ∀ (d i : Nat), i + d = D → Ev (fun k => spec_l7Collapse.l0 k st A B (i : Int) a x y) (cutT a A B (if st = 3 then mx (mn (D : Int) ((A.size : Int) - 2)) 0 else (D : Int)))
  | 0, i, hi => by
    obtain rfl : i = D := by omega
    refine Ev.step (f := fun _ => some (cutT a A B (if st = 3 then mx (mn (i : Int) ((A.size : Int) - 2)) 0 else (i : Int)))) (fun k => ?_) (Ev.now _)
    simp only [spec_l7Collapse.l0]
    rw [if_pos (by omega), if_pos (by omega), if_pos (by omega), if_neg hne]
    have q := ext_size B
    by_cases c : st = 3
    · rw [if_pos c, if_pos c]
      unfold spec_l1Least.f spec_l1Most.f
      rw [wrap_small (by omega) (by omega), hB]
      have e1 : (if (i : Int) < (A.size : Int) - 2 then some (i : Int) else some ((A.size : Int) - 2)) = some (mn (i : Int) ((A.size : Int) - 2)) := by unfold mn; split <;> split <;> first | rfl | (congr 1; omega)
      have e2 : ∀ z : Int, (if z > 0 then some z else some 0) = some (mx z 0) := fun z => by unfold mx; split <;> split <;> first | rfl | (congr 1; omega)
      rw [e1, Option.bind_some, e2, Option.bind_some]
      have m0 : 0 ≤ mx (mn (i : Int) ((A.size : Int) - 2)) 0 ∧ mx (mn (i : Int) ((A.size : Int) - 2)) 0 ≤ A.size := by unfold mx mn; (repeat' split) <;> omega
      have q2 := q (mx (mn (i : Int) ((A.size : Int) - 2)) 0).toNat
      rw [hB] at q2
      rw [if_pos (by omega), if_pos (by simp only [ByteArray.size_append, dash]; omega), if_pos m0.1, if_pos (by omega), if_pos (by simp only [ByteArray.size_append, dash]; omega)]
      unfold cutT
      rw [hB]
    · rw [if_neg c, if_neg c]
      have q2 := q (i : Int).toNat
      rw [if_pos (by omega), if_pos (by simp only [ByteArray.size_append, dash]; omega), if_pos (by omega), if_pos (by simp only [ByteArray.size_append, dash]; omega)]
      rfl
  | d + 1, i, hi => by
    refine Ev.step (fun k => ?_) (spec_scan a A B st x y ha hA hB D hD hne heq d (i + 1) (by omega))
    simp only [spec_l7Collapse.l0]
    rw [if_pos (by omega), if_pos (by omega), if_pos (by omega), if_pos (heq i (by omega)), wrap_small (by omega) (by omega)]
    rfl
theorem impl_scan (a A B : ByteArray) (le x y : Int) (ha : a.size ≤ 1) (hA : A.size ≤ 21) (hB : B.size = A.size) (h1 : 1 ≤ le) (h2 : le ≤ A.size) (D : Nat) (hD : D < A.size) (hne : bt A (D : Int) ≠ bt B (D : Int)) (heq : ∀ i : Nat, i < D → bt A (i : Int) = bt B (i : Int)) (E : Nat) (hE : (E : Int) = mn (D : Int) ((A.size : Int) - le)) :
    ∀ (d i : Nat), i + d = E → Ev (fun k => impl_collapseRange.l0 k A B le (i : Int) a x y) (cutT a A B E)
  | 0, i, hi => by
    obtain rfl : i = E := by omega
    have q := ext_size B (i : Int).toNat
    refine Ev.step (f := fun _ => some (cutT a A B i)) (fun k => ?_) (Ev.now _)
    simp only [impl_collapseRange.l0]
    have hlt : i ≤ D ∧ (i : Int) ≤ (A.size : Int) - le := by unfold mn at hE; split at hE <;> omega
    rw [wrap_small (by omega) (by omega)]
    by_cases c : (B.size : Int) - (i : Int) > le
    · have : i = D := by unfold mn at hE; split at hE <;> omega
      subst this
      rw [if_pos c, if_pos (by omega), if_pos (by omega), if_pos (by omega), if_neg hne, if_pos (by omega), if_pos (by simp only [ByteArray.size_append, dash]; omega), if_pos (by omega), if_pos (by simp only [ByteArray.size_append, dash]; omega)]
      rfl
    · rw [if_neg c, if_pos (by omega), if_pos (by simp only [ByteArray.size_append, dash]; omega), if_pos (by omega), if_pos (by omega), if_pos (by simp only [ByteArray.size_append, dash]; omega)]
      rfl
  | d + 1, i, hi => by
    have hlt : i < D ∧ (i : Int) < (A.size : Int) - le := by unfold mn at hE; split at hE <;> omega
    refine Ev.step (fun k => ?_) (impl_scan a A B le x y ha hA hB h1 h2 D hD hne heq E hE d (i + 1) (by omega))
    simp only [impl_collapseRange.l0]
    rw [wrap_small (x := (B.size : Int) - (i : Int)) (by omega) (by omega), if_pos (by omega), if_pos (by omega), if_pos (by omega), if_pos (by omega), if_pos (heq i (by omega)), wrap_small (by omega) (by omega)]
    rfl
theorem collapse_both (a : ByteArray) (x y st : Int) (h : Fit a x y) : ∃ r : ByteArray, r.size ≤ 45 ∧ Ev (fun k => spec_l7Collapse.f k a x y st) r ∧ Ev (fun k => impl_collapseRange.f k a x y st) r := by
  have hf := h
  obtain ⟨ha, h0, h1, h2⟩ := h
  have s1 := numT_le x (by omega) (by omega)
  have s2 := numT_le y (by omega) (by omega)
  have spec0 : Ev (fun k => spec_l7Collapse.j0 k st (numT x) (numT y) true a x y) (rText a x y) := by
    refine Ev.step (f := fun k => (spec_l7Text.f k a x y).bind fun t => some t) (fun k => ?_) (Ev.bind (specText a x y hf) (Ev.now _))
    simp only [spec_l7Collapse.j0, if_true]
  have impl0 : Ev (fun k => impl_collapseRange.j0 k st (numT x) (numT y) true a x y) (rText a x y) := by
    refine Ev.step (f := fun k => some (rText a x y)) (fun k => ?_) (Ev.now _)
    simp only [impl_collapseRange.j0, if_true, implText a x y hf, Option.bind_some]
  unfold spec_l7Collapse.f impl_collapseRange.f
  rw [itoa_some x (by omega) (by omega), itoa_some y (by omega) (by omega)]
  simp only [Option.bind_some]
  by_cases c1 : st = 1
  · exact ⟨_, rText_size a x y hf, Ev.bind (num_evI x (by omega) (by omega)) (Ev.bind (num_evI y (by omega) (by omega)) (Ev.congr (fun _ => if_pos c1) spec0)), Ev.congr (fun _ => if_pos c1) impl0⟩
  by_cases c2 : y = x
  · exact ⟨_, rText_size a x y hf, Ev.bind (num_evI x (by omega) (by omega)) (Ev.bind (num_evI y (by omega) (by omega)) (Ev.congr (fun _ => if_neg c1) (Ev.congr (fun _ => if_pos c2) spec0))), Ev.congr (fun _ => if_neg c1) (Ev.congr (fun _ => if_pos c2) impl0)⟩
  by_cases c3 : (numT x).size = (numT y).size
  · have hb : (((numT x).size : Int) != ((numT y).size : Int)) = false := by rw [c3]; simp
    obtain ⟨D, hD, hne, heq⟩ := first_diff (numT x) (numT y) c3 (fun e => c2 (numT_inj x y (by omega) (by omega) e).symm)
    have es := spec_scan a (numT x) (numT y) st x y ha s1 c3.symm D hD hne heq D 0 (by omega)
    have hsz : ∀ i : Int, (cutT a (numT x) (numT y) i).size ≤ 45 := fun i => by
      have := ext_size (numT y) i.toNat
      unfold cutT
      simp only [ByteArray.size_append, dash]
      omega
    have ei : ∀ le : Int, 1 ≤ le → le ≤ (numT x).size → Ev (fun k => impl_collapseRange.j1 k (numT x) (numT y) le a x y) (cutT a (numT x) (numT y) (mn (D : Int) (((numT x).size : Int) - le))) := fun le l1 l2 => by
      have e0 : 0 ≤ mn (D : Int) (((numT x).size : Int) - le) := by unfold mn; split <;> omega
      have := impl_scan a (numT x) (numT y) le x y ha s1 c3.symm l1 l2 D hD hne heq (mn (D : Int) (((numT x).size : Int) - le)).toNat (by omega) _ 0 (Nat.zero_add _)
      rw [show (((mn (D : Int) (((numT x).size : Int) - le)).toNat : Nat) : Int) = mn (D : Int) (((numT x).size : Int) - le) from by omega] at this
      exact Ev.step (fun k => rfl) this
    refine ⟨cutT a (numT x) (numT y) (if st = 3 then mx (mn (D : Int) (((numT x).size : Int) - 2)) 0 else (D : Int)), hsz _, Ev.bind (num_evI x (by omega) (by omega)) (Ev.bind (num_evI y (by omega) (by omega)) (Ev.congr (fun _ => if_neg c1) (Ev.congr (fun _ => if_neg c2) ?_))), Ev.congr (fun _ => if_neg c1) (Ev.congr (fun _ => if_neg c2) ?_)⟩
    · rw [hb]
      refine Ev.step (fun k => ?_) es
      simp only [spec_l7Collapse.j0, Bool.false_eq_true, if_false]
      rfl
    · rw [hb]
      by_cases c : st = 3
      · rw [if_pos c]
        have := ei (mn 2 ((numT y).size : Int)) (by unfold mn; split <;> omega) (by unfold mn; split <;> omega)
        rw [show mn (D : Int) (((numT x).size : Int) - mn 2 ((numT y).size : Int)) = mx (mn (D : Int) (((numT x).size : Int) - 2)) 0 from by unfold mn mx; (repeat' split) <;> omega] at this
        refine Ev.step (fun k => ?_) this
        simp only [impl_collapseRange.j0, Bool.false_eq_true, if_false]
        rw [if_pos c]
      · rw [if_neg c]
        have := ei 1 (by omega) (by omega)
        rw [show mn (D : Int) (((numT x).size : Int) - 1) = (D : Int) from by unfold mn; split <;> omega] at this
        refine Ev.step (fun k => ?_) this
        simp only [impl_collapseRange.j0, Bool.false_eq_true, if_false]
        rw [if_neg c]
  · have hb : (((numT x).size : Int) != ((numT y).size : Int)) = true := by simp; omega
    exact ⟨_, rText_size a x y hf, Ev.bind (num_evI x (by omega) (by omega)) (Ev.bind (num_evI y (by omega) (by omega)) (Ev.congr (fun _ => if_neg c1) (Ev.congr (fun _ => if_neg c2) (by rw [hb]; exact spec0)))), Ev.congr (fun _ => if_neg c1) (Ev.congr (fun _ => if_neg c2) (by rw [hb]; exact impl0))⟩
theorem fit_of (x : Sp) (h : okr x = true) : Fit x.f0 x.f1 x.f2 := by
  unfold okr at h
  simp only [Bool.and_eq_true, decide_eq_true_eq] at h
  obtain ⟨l, a, b, c⟩ := h
  refine ⟨?_, a, b, c⟩
  unfold letter at l
  by_cases d : x.f0.size = 0
  · omega
  · rw [decide_eq_false d, Bool.false_or] at l
    have := of_decide_eq_true (Bool.and_eq_true_iff.1 l).1
    omega

end Go.Proofs.YtjckholdcgjdnaaDoor.Pure
