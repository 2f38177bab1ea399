/- Lemmas on the printed functions, without Go and memory. -/
import Derived.Test.YtgaepocgpjbapaaPx2
import Derived.Test.YtgaepocgpjbapaaPx3
import Derived.Test.YtgaepocgpjbapaaPx4
namespace Go.Proofs.Ytgaepocgpjbapaa.Pure
open Go.RowKit Go.Proofs.Ytgaepocgpjbapaa.Px Go.Proofs.YtgaepocgpjbapaaW.PrintWords Go.Proofs.YtgaepocgpjbapaaW.PrintLast
set_option linter.unusedVariables false
set_option linter.unusedSimpArgs false

theorem wrap_small {x : Int} (h0 : -4611686018427387904 ≤ x) (h1 : x ≤ 4611686018427387904) : wrap64 x = x := by unfold wrap64; omega
theorem drop_at (s : ByteArray) (i : Int) (h0 : 0 ≤ i) (h1 : i < (s.size : Int)) : ∃ b : UInt8, s.data.toList.drop i.toNat = b :: s.data.toList.drop (i + 1).toNat ∧ bt s i = (b.toNat : Int) := by
  have hl : i.toNat < s.data.toList.length := by rw [data_length]; omega
  refine ⟨s.data.toList[i.toNat], ?_, ?_⟩
  · rw [List.drop_eq_getElem_cons hl]
    congr 2
    omega
  · unfold bt
    rw [dif_pos (by omega)]
    rfl
theorem drop_end (s : ByteArray) (i : Int) (h1 : i = (s.size : Int)) : s.data.toList.drop i.toNat = [] := by
  apply List.drop_of_length_le
  rw [data_length]
  omega
theorem toList_nil (s : ByteArray) : s.toList = ([] : List UInt8) ↔ s.size = 0 := by
  rw [Lib.toList_data, ← data_length, List.length_eq_zero_iff]
theorem toList_nil_b (s : ByteArray) : (s.toList == ([] : List UInt8)) = decide (s.size = 0) := by
  by_cases h : s.size = 0
  · rw [(toList_nil s).2 h]; simp [h]
  · have : s.toList ≠ [] := fun e => h ((toList_nil s).1 e)
    simp [h, this]

theorem take_set_succ {β : Type} (r : List β) (i : Nat) (h : i < r.length) (v : β) : (r.set i v).take (i + 1) = r.take i ++ [v] := by
  rw [List.take_succ_eq_append_getElem (by rw [List.length_set]; exact h), List.take_set_of_le (Nat.le_refl _), List.getElem_set_self]
theorem take_map_succ {α β : Type} (f : α → β) (l : List α) (i : Nat) (h : i < l.length) : (l.map f).take (i + 1) = (l.map f).take i ++ [f l[i]] := by
  rw [List.take_succ_eq_append_getElem (by rw [List.length_map]; exact h), List.getElem_map]
theorem getD_at {α : Type} (z : α) (l : List α) (i : Int) (h1 : i.toNat < l.length) : l.getD i.toNat z = l[i.toNat] := by
  rw [List.getD_eq_getElem?_getD, List.getElem?_eq_getElem h1]
  rfl
theorem getD_mem {α : Type} (z : α) (l : List α) (i : Int) (h0 : 0 ≤ i) (h1 : i < (l.length : Int)) : l.getD i.toNat z ∈ l := by
  rw [getD_at z l i (by omega)]
  exact List.getElem_mem _
theorem drop_cons {α : Type} (z : α) (l : List α) (i : Int) (h0 : 0 ≤ i) (h1 : i < (l.length : Int)) : l.drop i.toNat = l.getD i.toNat z :: l.drop (i + 1).toNat := by
  have h : i.toNat < l.length := by omega
  rw [List.drop_eq_getElem_cons h, getD_at z l i h, show (i + 1).toNat = i.toNat + 1 from by omega]
theorem drop_none {α : Type} (l : List α) (i : Int) (h1 : (l.length : Int) ≤ i) : l.drop i.toNat = [] := List.drop_of_length_le (by omega)
theorem strOfNums_append (a b : List Int) : strOfNums (a ++ b) = strOfNums a ++ strOfNums b := by
  apply ByteArray.ext
  apply Array.toList_inj.1
  simp [strOfNums]

abbrev Sp := S44
def tot (l : List Sp) : Nat := (l.map fun x => x.f0.size).sum
theorem tot_cons (x : Sp) (l : List Sp) : tot (x :: l) = x.f0.size + tot l := by simp [tot]
theorem tot_append (l m : List Sp) : tot (l ++ m) = tot l + tot m := by simp [tot]
theorem tot_nil : tot [] = 0 := rfl
theorem size_le_tot (l : List Sp) (x : Sp) (h : x ∈ l) : x.f0.size ≤ tot l := by
  induction l with
  | nil => cases h
  | cons y l ih =>
    rw [tot_cons]
    rcases List.mem_cons.1 h with rfl | h
    · omega
    · have := ih h; omega
theorem tdiv_small (x : Int) (h : 0 < x) : Int.tdiv x 10 = x / 10 := Int.tdiv_eq_ediv_of_nonneg (by omega)
theorem pow10_le (d : Nat) (h : d ≤ 18) : (10 : Int) ^ d ≤ 1000000000000000000 := by
  have h1 : (10 : Int) ^ 18 = 1000000000000000000 := by decide
  rw [← h1, show (18 : Nat) = d + (18 - d) from by omega, Int.pow_add]
  have h2 : (1 : Int) ≤ 10 ^ (18 - d) := Int.add_one_le_of_lt (Int.pow_pos (by omega))
  have h3 : (0 : Int) ≤ 10 ^ d := Int.le_of_lt (Int.pow_pos (by omega))
  calc (10 : Int) ^ d = 10 ^ d * 1 := (Int.mul_one _).symm
    _ ≤ 10 ^ d * 10 ^ (18 - d) := Int.mul_le_mul_of_nonneg_left h2 h3

/-- A text's bytes are printable. -/
def okb (b : UInt8) : Bool := !(decide ((b.toNat : Int) < 32)) && !(decide ((b.toNat : Int) > 126))
def okt (s : ByteArray) : Bool := s.data.toList.all okb

def goodS (l : List Sp) : Bool := decide (l.length ≤ 80) && (l.all (fun x => okt x.f0) && decide (tot l ≤ 4000))
theorem l1In_okb (b : UInt8) : spec_l1In.f (wrap64 (b.toNat : Int)) 32 126 = some (okb b) := by
  have hb := b.toNat_lt
  rw [wrap_small (by omega) (by omega)]
  unfold spec_l1In.f okb
  by_cases c : (b.toNat : Int) ≥ 32
  · rw [if_pos c, decide_eq_false (show ¬ (b.toNat : Int) < 32 from by omega)]
    congr 1
    by_cases c2 : (b.toNat : Int) > 126
    · rw [decide_eq_true c2, decide_eq_false (show ¬ (b.toNat : Int) ≤ 126 from by omega)]; rfl
    · rw [decide_eq_false c2, decide_eq_true (show (b.toNat : Int) ≤ 126 from by omega)]; rfl
  · rw [if_neg c, decide_eq_true (show (b.toNat : Int) < 32 from by omega)]
    rfl
theorem good_l1 (l : List Sp) (s i : Int) (h0 : 0 ≤ i) (h1 : i < (l.length : Int)) (hz : (l.getD i.toNat z44).f0.size ≤ 1048576) (d : Nat) : ∀ (k : Nat) (j : Int), 0 ≤ j → j + d = (l.getD i.toNat z44).f0.size → d < k →
    spec_l10Good.l1 k l s i j = if ((l.getD i.toNat z44).f0.data.toList.drop j.toNat).all okb = true then spec_l10Good.l0 (k - d - 1) l s (wrap64 (i + 1)) else some false := by
  have e : rd_T44 l i = l.getD i.toNat z44 := rfl
  induction d with
  | zero =>
    intro k j hj0 hj hk
    obtain ⟨k, rfl⟩ : ∃ m, k = m + 1 := ⟨k - 1, by omega⟩
    simp only [spec_l10Good.l1, e]
    rw [if_pos h0, if_pos h1, if_neg (by omega), drop_end _ j (by omega)]
    simp
  | succ d ih =>
    intro k j hj0 hj hk
    obtain ⟨k, rfl⟩ : ∃ m, k = m + 1 := ⟨k - 1, by omega⟩
    obtain ⟨b, hb, hv⟩ := drop_at (l.getD i.toNat z44).f0 j hj0 (by omega)
    simp only [spec_l10Good.l1, e]
    rw [if_pos h0, if_pos h1, if_pos (by omega), if_pos hj0, hv, l1In_okb, Option.bind_some, hb, List.all_cons, wrap_small (x := j + 1) (by omega) (by omega), ih k (j + 1) (by omega) (by omega) (by omega)]
    cases okb b
    · simp
    · simp only [Bool.true_and, if_true]
      rw [show k + 1 - (d + 1) - 1 = k - d - 1 from by omega]
theorem are_l1 (x0 l : List Sp) (s i n : Int) (t : ByteArray) (p q : Bool) (hz : t.size ≤ 1048576) (d : Nat) : ∀ (k : Nat) (j : Int), 0 ≤ j → j + d = t.size → d < k →
    impl_areSpans.l1 k x0 s j l n i t p q = if (t.data.toList.drop j.toNat).all okb = true then impl_areSpans.l0 (k - d - 1) x0 (wrap64 (s + (t.size : Int))) l n (wrap64 (i + 1)) else some false := by
  induction d with
  | zero =>
    intro k j hj0 hj hk
    obtain ⟨k, rfl⟩ : ∃ m, k = m + 1 := ⟨k - 1, by omega⟩
    simp only [impl_areSpans.l1]
    rw [if_neg (by omega), drop_end _ j (by omega)]
    simp
  | succ d ih =>
    intro k j hj0 hj hk
    obtain ⟨k, rfl⟩ : ∃ m, k = m + 1 := ⟨k - 1, by omega⟩
    obtain ⟨b, hb, hv⟩ := drop_at t j hj0 (by omega)
    simp only [impl_areSpans.l1]
    rw [if_pos (by omega), if_pos hj0, hv, hb, List.all_cons, wrap_small (x := j + 1) (by omega) (by omega), ih k (j + 1) (by omega) (by omega) (by omega)]
    unfold okb
    by_cases c1 : (b.toNat : Int) < 32
    · rw [if_pos c1, decide_eq_true c1]; simp
    · rw [if_neg c1, decide_eq_false c1]
      by_cases c2 : (b.toNat : Int) > 126
      · rw [if_pos c2, decide_eq_true c2]; simp
      · rw [if_neg c2, decide_eq_false c2, show k + 1 - (d + 1) - 1 = k - d - 1 from by omega]; simp
theorem good_l0 (l : List Sp) (hl : l.length ≤ 1048576) (ht : tot l ≤ 1048576) (d : Nat) : ∀ (k : Nat) (i s : Int), 0 ≤ i → i + d = l.length → tot (l.drop i.toNat) + 2 * d < k → 0 ≤ s → s + tot (l.drop i.toNat) ≤ 2097152 →
    spec_l10Good.l0 k l s i = some ((l.drop i.toNat).all (fun x => okt x.f0) && decide (s + tot (l.drop i.toNat) ≤ 4000)) := by
  induction d with
  | zero =>
    intro k i s h0 h1 hk hs0 hs
    obtain ⟨k, rfl⟩ : ∃ m, k = m + 1 := ⟨k - 1, by omega⟩
    rw [drop_none l i (by omega)]
    simp only [spec_l10Good.l0]
    rw [if_neg (by omega)]
    simp [tot]
  | succ d ih =>
    intro k i s h0 h1 hk hs0 hs
    obtain ⟨k, rfl⟩ : ∃ m, k = m + 1 := ⟨k - 1, by omega⟩
    have hc := drop_cons z44 l i h0 (by omega)
    have hmem := size_le_tot l _ (getD_mem z44 l i h0 (by omega))
    rw [hc, tot_cons] at hk hs ⊢
    have e : rd_T44 l i = l.getD i.toNat z44 := rfl
    simp only [spec_l10Good.l0, e]
    rw [if_pos (by omega), if_pos h0, wrap_small (x := s + _) (by omega) (by omega), good_l1 l _ i h0 (by omega) (by omega) (l.getD i.toNat z44).f0.size k 0 (by omega) (by omega) (by omega)]
    rw [wrap_small (x := i + 1) (by omega) (by omega), ih _ (i + 1) _ (by omega) (by omega) (by omega) (by omega) (by omega), List.all_cons]
    simp only [Int.toNat_zero, List.drop_zero]
    change (if okt (l.getD i.toNat z44).f0 = true then _ else _) = _
    cases okt (l.getD i.toNat z44).f0
    · simp
    · simp only [if_true, Bool.true_and]
      congr 3
      simp only [eq_iff_iff]
      omega
theorem are_l0 (l : List Sp) (hl : l.length ≤ 1048576) (ht : tot l ≤ 1048576) (d : Nat) : ∀ (k : Nat) (i s : Int), 0 ≤ i → i + d = l.length → tot (l.drop i.toNat) + 2 * d < k → 0 ≤ s → s + tot (l.drop i.toNat) ≤ 2097152 →
    impl_areSpans.l0 k l s l (l.length : Int) i = some ((l.drop i.toNat).all (fun x => okt x.f0) && (decide (l.length ≤ 80) && decide (s + tot (l.drop i.toNat) ≤ 4000))) := by
  induction d with
  | zero =>
    intro k i s h0 h1 hk hs0 hs
    obtain ⟨k, rfl⟩ : ∃ m, k = m + 1 := ⟨k - 1, by omega⟩
    rw [drop_none l i (by omega)]
    simp only [impl_areSpans.l0]
    rw [if_neg (by omega)]
    by_cases c : (l.length : Int) ≤ 80
    · rw [if_pos c, decide_eq_true (by omega : l.length ≤ 80)]
      simp [tot]
    · rw [if_neg c, decide_eq_false (by omega : ¬ l.length ≤ 80)]
      simp
  | succ d ih =>
    intro k i s h0 h1 hk hs0 hs
    obtain ⟨k, rfl⟩ : ∃ m, k = m + 1 := ⟨k - 1, by omega⟩
    have hc := drop_cons z44 l i h0 (by omega)
    have hmem := size_le_tot l _ (getD_mem z44 l i h0 (by omega))
    rw [hc, tot_cons] at hk hs ⊢
    have e : rd_T44 l i = l.getD i.toNat z44 := rfl
    simp only [impl_areSpans.l0, e]
    rw [if_pos (by omega), if_pos h0, if_pos (by omega), are_l1 l l s i _ _ _ _ (by omega) (l.getD i.toNat z44).f0.size k 0 (by omega) (by omega) (by omega)]
    rw [wrap_small (x := s + _) (by omega) (by omega), wrap_small (x := i + 1) (by omega) (by omega), ih _ (i + 1) _ (by omega) (by omega) (by omega) (by omega) (by omega), List.all_cons]
    simp only [Int.toNat_zero, List.drop_zero]
    change (if okt (l.getD i.toNat z44).f0 = true then _ else _) = _
    cases okt (l.getD i.toNat z44).f0
    · simp
    · simp only [if_true, Bool.true_and]
      congr 4
      simp only [eq_iff_iff]
      omega
theorem l10Good_k (l : List Sp) (hl : l.length ≤ 1048576) (ht : tot l ≤ 1048576) (k : Nat) (hk : 4000000 < k) : spec_l10Good.f k l = some (goodS l) := by
  unfold spec_l10Good.f goodS
  by_cases c : (l.length : Int) > 80
  · rw [if_pos c, decide_eq_false (by omega)]; rfl
  · rw [if_neg c, decide_eq_true (by omega)]
    have := good_l0 l hl ht l.length k 0 0 (by omega) (by omega) (by simp; omega) (by omega) (by simp; omega)
    simp only [Int.toNat_zero, List.drop_zero] at this
    rw [this, Bool.true_and]
    congr 3
    simp only [eq_iff_iff]
    omega
theorem areSpans_k (l : List Sp) (hl : l.length ≤ 1048576) (ht : tot l ≤ 1048576) (k : Nat) (hk : 4000000 < k) : impl_areSpans.f k l = some (goodS l) := by
  unfold impl_areSpans.f goodS
  have := are_l0 l hl ht l.length k 0 0 (by omega) (by omega) (by simp; omega) (by omega) (by simp; omega)
  simp only [Int.toNat_zero, List.drop_zero] at this
  rw [this, show decide ((0 : Int) + (tot l : Int) ≤ 4000) = decide (tot l ≤ 4000) from by congr 1; simp only [eq_iff_iff]; omega]
  cases l.all (fun x => okt x.f0) <;> cases decide (l.length ≤ 80) <;> rfl

end Go.Proofs.Ytgaepocgpjbapaa.Pure
