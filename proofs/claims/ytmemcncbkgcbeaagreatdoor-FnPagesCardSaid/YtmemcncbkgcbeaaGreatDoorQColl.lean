/- Lemmas on the printed functions, without Go and memory. -/
import Derived.Test.YtmemcncbkgcbeaaGreatDoorPx4
import Derived.Test.YtmemcncbkgcbeaaGreatDoorPx7
import Derived.Test.YtmemcncbkgcbeaaGreatDoorQText
namespace Go.Proofs.YtmemcncbkgcbeaaGreatDoor.Pure
open Go.RowKit Go.Proofs.YtmemcncbkgcbeaaGreatDoor.Px Go.Proofs.YtmemcncbkgcbeaaGreatDoorW.PrintWords Go.Proofs.YtmemcncbkgcbeaaGreatDoorW.PrintLast
set_option linter.unusedVariables false
set_option linter.unusedSimpArgs false

def cutT (a A B : ByteArray) (i : Int) : ByteArray := ((a ++ A) ++ (⟨#[45]⟩ : ByteArray)) ++ B.extract i.toNat B.size
theorem ext_size (B : ByteArray) (i : Nat) : (B.extract i B.size).size ≤ B.size := by rw [ByteArray.size_extract]; omega
theorem spec_scan (a A B : ByteArray) (st x y : Int) (ha : a.size ≤ 2) (hA : A.size ≤ 30) (hB : B.size = A.size) (D : Nat) (hD : D < A.size) (hne : bt A (D : Int) ≠ bt B (D : Int)) (heq : ∀ i : Nat, i < D → bt A (i : Int) = bt B (i : Int)) :
    ∀ (d i : Nat), i + d = D → Ev (fun k => spec_l7Collapse.l0 k st A B (i : Int) a x y) (cutT a A B (if st = 3 then mx (mn (D : Int) ((A.size : Int) - 2)) 0 else (D : Int)))
  | 0, i, hi => by
    obtain rfl : i = D := by omega
    refine Ev.step (f := fun _ => some (cutT a A B (if st = 3 then mx (mn (i : Int) ((A.size : Int) - 2)) 0 else (i : Int)))) (fun k => ?_) (Ev.now _)
    simp only [spec_l7Collapse.l0]
    rw [if_pos (by omega), if_pos (by omega), if_pos (by omega), if_neg hne]
    have q := ext_size B
    by_cases c : st = 3
    · rw [if_pos c, if_pos c]
      unfold spec_l1Least.f spec_l1Most.f
      rw [wrap_small (by omega) (by omega), hB]
      have e1 : (if (i : Int) < (A.size : Int) - 2 then some (i : Int) else some ((A.size : Int) - 2)) = some (mn (i : Int) ((A.size : Int) - 2)) := by unfold mn; split <;> split <;> first | rfl | (congr 1; omega)
      have e2 : ∀ z : Int, (if z > 0 then some z else some 0) = some (mx z 0) := fun z => by unfold mx; split <;> split <;> first | rfl | (congr 1; omega)
      rw [e1, Option.bind_some, e2, Option.bind_some]
      have m0 : 0 ≤ mx (mn (i : Int) ((A.size : Int) - 2)) 0 ∧ mx (mn (i : Int) ((A.size : Int) - 2)) 0 ≤ A.size := by unfold mx mn; (repeat' split) <;> omega
      have q2 := q (mx (mn (i : Int) ((A.size : Int) - 2)) 0).toNat
      rw [hB] at q2
      rw [if_pos (by omega), if_pos (by simp only [ByteArray.size_append, dash]; omega), if_pos m0.1, if_pos (by omega), if_pos (by simp only [ByteArray.size_append, dash]; omega)]
      unfold cutT
      rw [hB]
    · rw [if_neg c, if_neg c]
      have q2 := q (i : Int).toNat
      rw [if_pos (by omega), if_pos (by simp only [ByteArray.size_append, dash]; omega), if_pos (by omega), if_pos (by simp only [ByteArray.size_append, dash]; omega)]
      rfl
  | d + 1, i, hi => by
    refine Ev.step (fun k => ?_) (spec_scan a A B st x y ha hA hB D hD hne heq d (i + 1) (by omega))
    simp only [spec_l7Collapse.l0]
    rw [if_pos (by omega), if_pos (by omega), if_pos (by omega), if_pos (heq i (by omega)), wrap_small (by omega) (by omega)]
    rfl
theorem impl_scan (a A B : ByteArray) (le x y : Int) (ha : a.size ≤ 1) (hA : A.size ≤ 21) (hB : B.size = A.size) (h1 : 1 ≤ le) (h2 : le ≤ A.size) (D : Nat) (hD : D < A.size) (hne : bt A (D : Int) ≠ bt B (D : Int)) (heq : ∀ i : Nat, i < D → bt A (i : Int) = bt B (i : Int)) (E : Nat) (hE : (E : Int) = mn (D : Int) ((A.size : Int) - le)) :
    ∀ (d i : Nat), i + d = E → Ev (fun k => impl_collapseRange.l0 k A B le (i : Int) a x y) (cutT a A B E)
  | 0, i, hi => by
    obtain rfl : i = E := by omega
    have q := ext_size B (i : Int).toNat
    refine Ev.step (f := fun _ => some (cutT a A B i)) (fun k => ?_) (Ev.now _)
    simp only [impl_collapseRange.l0]
    have hlt : i ≤ D ∧ (i : Int) ≤ (A.size : Int) - le := by unfold mn at hE; split at hE <;> omega
    rw [wrap_small (by omega) (by omega)]
    by_cases c : (B.size : Int) - (i : Int) > le
    · have : i = D := by unfold mn at hE; split at hE <;> omega
      subst this
      rw [if_pos c, if_pos (by omega), if_pos (by omega), if_pos (by omega), if_neg hne, if_pos (by omega), if_pos (by simp only [ByteArray.size_append, dash]; omega), if_pos (by omega), if_pos (by simp only [ByteArray.size_append, dash]; omega)]
      rfl
    · rw [if_neg c, if_pos (by omega), if_pos (by simp only [ByteArray.size_append, dash]; omega), if_pos (by omega), if_pos (by omega), if_pos (by simp only [ByteArray.size_append, dash]; omega)]
      rfl
  | d + 1, i, hi => by
    have hlt : i < D ∧ (i : Int) < (A.size : Int) - le := by unfold mn at hE; split at hE <;> omega
    refine Ev.step (fun k => ?_) (impl_scan a A B le x y ha hA hB h1 h2 D hD hne heq E hE d (i + 1) (by omega))
    simp only [impl_collapseRange.l0]
    rw [wrap_small (x := (B.size : Int) - (i : Int)) (by omega) (by omega), if_pos (by omega), if_pos (by omega), if_pos (by omega), if_pos (by omega), if_pos (heq i (by omega)), wrap_small (by omega) (by omega)]
    rfl
def Agree (x y i : Int) : Prop := 0 ≤ i ∧ i ≤ ((numT x).size : Int) ∧ (numT x).size = (numT y).size ∧ ∀ j : Nat, (j : Int) < i → bt (numT x) (j : Int) = bt (numT y) (j : Int)
theorem collapse_full (a : ByteArray) (x y st : Int) (h : Fit a x y) : ∃ r : ByteArray, ((r = rText a x y ∨ ∃ i : Int, r = cutT a (numT x) (numT y) i ∧ Agree x y i) ∧ (st = 1 → r = rText a x y)) ∧ Ev (fun k => spec_l7Collapse.f k a x y st) r ∧ Ev (fun k => impl_collapseRange.f k a x y st) r := by
  have hf := h
  obtain ⟨ha, h0, h1, h2⟩ := h
  have s1 := numT_le x (by omega) (by omega)
  have s2 := numT_le y (by omega) (by omega)
  have spec0 : Ev (fun k => spec_l7Collapse.j0 k st (numT x) (numT y) true a x y) (rText a x y) := by
    refine Ev.step (f := fun k => (spec_l7Text.f k a x y).bind fun t => some t) (fun k => ?_) (Ev.bind (specText a x y hf) (Ev.now _))
    simp only [spec_l7Collapse.j0, if_true]
  have impl0 : Ev (fun k => impl_collapseRange.j0 k st (numT x) (numT y) true a x y) (rText a x y) := by
    refine Ev.step (f := fun k => some (rText a x y)) (fun k => ?_) (Ev.now _)
    simp only [impl_collapseRange.j0, if_true, implText a x y hf, Option.bind_some]
  unfold spec_l7Collapse.f impl_collapseRange.f
  rw [itoa_some x (by omega) (by omega), itoa_some y (by omega) (by omega)]
  simp only [Option.bind_some]
  by_cases c1 : st = 1
  · exact ⟨rText a x y, ⟨.inl rfl, fun _ => rfl⟩, Ev.bind (num_evI x (by omega) (by omega)) (Ev.bind (num_evI y (by omega) (by omega)) (Ev.congr (fun _ => if_pos c1) spec0)), Ev.congr (fun _ => if_pos c1) impl0⟩
  by_cases c2 : y = x
  · exact ⟨rText a x y, ⟨.inl rfl, fun _ => rfl⟩, Ev.bind (num_evI x (by omega) (by omega)) (Ev.bind (num_evI y (by omega) (by omega)) (Ev.congr (fun _ => if_neg c1) (Ev.congr (fun _ => if_pos c2) spec0))), Ev.congr (fun _ => if_neg c1) (Ev.congr (fun _ => if_pos c2) impl0)⟩
  by_cases c3 : (numT x).size = (numT y).size
  · have hb : (((numT x).size : Int) != ((numT y).size : Int)) = false := by rw [c3]; simp
    obtain ⟨D, hD, hne, heq⟩ := first_diff (numT x) (numT y) c3 (fun e => c2 (numT_inj x y (by omega) (by omega) e).symm)
    have es := spec_scan a (numT x) (numT y) st x y (by omega) (by omega) c3.symm D hD hne heq D 0 (by omega)
    have ei : ∀ le : Int, 1 ≤ le → le ≤ (numT x).size → Ev (fun k => impl_collapseRange.j1 k (numT x) (numT y) le a x y) (cutT a (numT x) (numT y) (mn (D : Int) (((numT x).size : Int) - le))) := fun le l1 l2 => by
      have e0 : 0 ≤ mn (D : Int) (((numT x).size : Int) - le) := by unfold mn; split <;> omega
      have := impl_scan a (numT x) (numT y) le x y ha s1 c3.symm l1 l2 D hD hne heq (mn (D : Int) (((numT x).size : Int) - le)).toNat (by omega) _ 0 (Nat.zero_add _)
      rw [show (((mn (D : Int) (((numT x).size : Int) - le)).toNat : Nat) : Int) = mn (D : Int) (((numT x).size : Int) - le) from by omega] at this
      exact Ev.step (fun k => rfl) this
    have agr : Agree x y (if st = 3 then mx (mn (D : Int) (((numT x).size : Int) - 2)) 0 else (D : Int)) := by
      have hb : 0 ≤ (if st = 3 then mx (mn (D : Int) (((numT x).size : Int) - 2)) 0 else (D : Int)) ∧ (if st = 3 then mx (mn (D : Int) (((numT x).size : Int) - 2)) 0 else (D : Int)) ≤ (D : Int) := by
        unfold mx mn
        (repeat' split) <;> omega
      exact ⟨hb.1, by omega, c3, fun j hj => heq j (by omega)⟩
    refine ⟨cutT a (numT x) (numT y) (if st = 3 then mx (mn (D : Int) (((numT x).size : Int) - 2)) 0 else (D : Int)), ⟨.inr ⟨_, rfl, agr⟩, fun h => absurd h c1⟩, Ev.bind (num_evI x (by omega) (by omega)) (Ev.bind (num_evI y (by omega) (by omega)) (Ev.congr (fun _ => if_neg c1) (Ev.congr (fun _ => if_neg c2) ?_))), Ev.congr (fun _ => if_neg c1) (Ev.congr (fun _ => if_neg c2) ?_)⟩
    · rw [hb]
      refine Ev.step (fun k => ?_) es
      simp only [spec_l7Collapse.j0, Bool.false_eq_true, if_false]
      rfl
    · rw [hb]
      by_cases c : st = 3
      · rw [if_pos c]
        have := ei (mn 2 ((numT y).size : Int)) (by unfold mn; split <;> omega) (by unfold mn; split <;> omega)
        rw [show mn (D : Int) (((numT x).size : Int) - mn 2 ((numT y).size : Int)) = mx (mn (D : Int) (((numT x).size : Int) - 2)) 0 from by unfold mn mx; (repeat' split) <;> omega] at this
        refine Ev.step (fun k => ?_) this
        simp only [impl_collapseRange.j0, Bool.false_eq_true, if_false]
        rw [if_pos c]
      · rw [if_neg c]
        have := ei 1 (by omega) (by omega)
        rw [show mn (D : Int) (((numT x).size : Int) - 1) = (D : Int) from by unfold mn; split <;> omega] at this
        refine Ev.step (fun k => ?_) this
        simp only [impl_collapseRange.j0, Bool.false_eq_true, if_false]
        rw [if_neg c]
  · have hb : (((numT x).size : Int) != ((numT y).size : Int)) = true := by simp; omega
    exact ⟨rText a x y, ⟨.inl rfl, fun _ => rfl⟩, Ev.bind (num_evI x (by omega) (by omega)) (Ev.bind (num_evI y (by omega) (by omega)) (Ev.congr (fun _ => if_neg c1) (Ev.congr (fun _ => if_neg c2) (by rw [hb]; exact spec0)))), Ev.congr (fun _ => if_neg c1) (Ev.congr (fun _ => if_neg c2) (by rw [hb]; exact impl0))⟩
theorem collapse_both (a : ByteArray) (x y st : Int) (h : Fit a x y) : ∃ r : ByteArray, ((r = rText a x y ∨ ∃ i : Int, r = cutT a (numT x) (numT y) i) ∧ (st = 1 → r = rText a x y)) ∧ Ev (fun k => spec_l7Collapse.f k a x y st) r ∧ Ev (fun k => impl_collapseRange.f k a x y st) r := by
  obtain ⟨r, ⟨hr, h1⟩, e⟩ := collapse_full a x y st h
  refine ⟨r, ⟨?_, h1⟩, e⟩
  rcases hr with hr | ⟨i, hr, _⟩
  · exact .inl hr
  · exact .inr ⟨i, hr⟩

end Go.Proofs.YtmemcncbkgcbeaaGreatDoor.Pure
