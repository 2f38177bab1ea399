/- The law FnExactCleanText, as a statement over numbers and lists: the program's function and the reference's answer alike, for every input; no further condition. -/
import Derived.Test.YtciminppeclofaaDoorPx15
import Derived.Test.YtciminppeclofaaDoorPx17
import Derived.Test.YtciminppeclofaaDoorPx18
import Derived.Test.YtciminppeclofaaDoorPx19
import Derived.Test.YtciminppeclofaaDoorQText
import Derived.Test.YtciminppeclofaaDoorQTrim
namespace Go.Proofs.YtciminppeclofaaDoor.Pure
open Go.RowKit Go.Proofs.YtciminppeclofaaDoor.Px Go.Proofs.YtciminppeclofaaDoorW.PrintWords Go.Proofs.YtciminppeclofaaDoorW.PrintLast
set_option linter.unusedVariables false
set_option linter.unusedSimpArgs false

/-- What may be shortened at a place; the text, shortened there. -/
def red (s : ByteArray) (j : Int) : Bool := (bt s j == 32 && (bt s (j + 1) == 32 || mk (bt s (j + 1)))) || (mk (bt s j) && mk (bt s (j + 1)) && decide (((mrg (bt s j) (bt s (j + 1))).size : Int) = 1))
def act (s : ByteArray) (j : Int) : ByteArray := if bt s j = 32 then s.extract 0 j.toNat ++ s.extract (j + 1).toNat s.size else (s.extract 0 j.toNat ++ mrg (bt s j) (bt s (j + 1))) ++ s.extract (j + 2).toNat s.size
theorem act_size (s : ByteArray) (j : Int) (h0 : 0 ≤ j) (h1 : j + 1 < (s.size : Int)) (h : red s j = true) : (act s j).size + 1 = s.size := by
  unfold act
  by_cases c : bt s j = 32
  · rw [if_pos c, ByteArray.size_append, ByteArray.size_extract, ByteArray.size_extract]; omega
  · rw [if_neg c]
    unfold red at h
    rw [beq_eq_false_iff_ne.2 c] at h
    simp only [Bool.false_and, Bool.false_or, Bool.and_eq_true, decide_eq_true_eq] at h
    rw [ByteArray.size_append, ByteArray.size_append, ByteArray.size_extract, ByteArray.size_extract]; omega
theorem bt_list (s : ByteArray) (i : Int) : bt s i = (((s.data.toList[i.toNat]?).getD 0).toNat : Int) := by
  have hl := data_length s
  unfold bt
  split
  · rename_i h
    rw [List.getElem?_eq_getElem (by omega)]
    rfl
  · rw [List.getElem?_eq_none (by omega)]
    rfl
theorem act_take (s : ByteArray) (j : Int) (h0 : 0 ≤ j) (h1 : j + 1 < (s.size : Int)) : (act s j).data.toList.take j.toNat = s.data.toList.take j.toNat := by
  have hl := data_length s
  have e : (s.extract 0 j.toNat).data.toList = s.data.toList.take j.toNat := by simp
  have hlen : (s.extract 0 j.toNat).data.toList.length = j.toNat := by rw [e, List.length_take, hl]; omega
  unfold act
  split
  · rw [ByteArray.data_append, Array.toList_append, List.take_append_of_le_length (by omega), List.take_of_length_le (by omega), e]
  · rw [ByteArray.data_append, Array.toList_append, ByteArray.data_append, Array.toList_append, List.append_assoc, List.take_append_of_le_length (by omega), List.take_of_length_le (by omega), e]
theorem act_bt (s : ByteArray) (j : Int) (h0 : 0 ≤ j) (h1 : j + 1 < (s.size : Int)) (i : Int) (hi0 : 0 ≤ i) (hi : i < j) : bt (act s j) i = bt s i := by
  have h := act_take s j h0 h1
  have e1 : (act s j).data.toList[i.toNat]? = ((act s j).data.toList.take j.toNat)[i.toNat]? := by rw [List.getElem?_take_of_lt (by omega)]
  have e2 : s.data.toList[i.toNat]? = (s.data.toList.take j.toNat)[i.toNat]? := by rw [List.getElem?_take_of_lt (by omega)]
  rw [bt_list, bt_list, e1, e2, h]
theorem act_red (s : ByteArray) (j : Int) (h0 : 0 ≤ j) (h1 : j + 1 < (s.size : Int)) (i : Int) (hi0 : 0 ≤ i) (hi : i + 1 < j) : red (act s j) i = red s i := by
  unfold red
  rw [act_bt s j h0 h1 i hi0 (by omega), act_bt s j h0 h1 (i + 1) (by omega) hi]
theorem mk_space : mk 32 = false := by decide
theorem once_step (s : ByteArray) (hs : s.size ≤ 1048576) (i : Int) (h0 : 0 ≤ i) (h1 : i + 1 < (s.size : Int)) (k : Nat) (hk : 8 ≤ k) :
    spec_l11Once.l0 (k + 3) s i = if red s i = true then some (act s i, true) else spec_l11Once.l0 k s (i + 1) := by
  have hw : wrap64 (i + 1) = i + 1 := wrap_small (by omega) (by omega)
  have hw2 : wrap64 (i + 2) = i + 2 := wrap_small (by omega) (by omega)
  have z1 : (s.extract 0 i.toNat).size = i.toNat := by rw [ByteArray.size_extract]; omega
  have z2 : (s.extract (i + 1).toNat s.size).size = s.size - (i + 1).toNat := by rw [ByteArray.size_extract]; omega
  have z3 : (s.extract (i + 2).toNat s.size).size = s.size - (i + 2).toNat := by rw [ByteArray.size_extract]; omega
  have j2 : ∀ b : Bool, bt s i ≠ 32 ∨ ¬ (bt s (i + 1) = 32 ∨ mk (bt s (i + 1)) = true) → b = (mk (bt s i) && mk (bt s (i + 1))) → spec_l11Once.j2 (k + 1) s i (bt s i) (bt s (i + 1)) b = if red s i = true then some (act s i, true) else spec_l11Once.l0 k s (i + 1) := by
    intro b hb he
    have hr : red s i = (b && decide (((mrg (bt s i) (bt s (i + 1))).size : Int) = 1)) := by
      rw [he]
      unfold red
      rcases hb with hb | hb
      · rw [beq_eq_false_iff_ne.2 hb]; simp
      · have : (bt s (i + 1) == 32 || mk (bt s (i + 1))) = false := by
          rw [Bool.eq_false_iff]
          intro h
          simp at h
          exact hb h
        rw [this]; simp
    simp only [spec_l11Once.j2, hw, hw2]
    cases b with
    | false => rw [if_neg (by decide), hr]; simp
    | true =>
      have hm : mk (bt s i) = true ∧ mk (bt s (i + 1)) = true := by simpa using he.symm
      rw [if_pos rfl, l11Merge_k _ _ hm.1 hm.2 k hk, Option.bind_some]
      by_cases c : ((mrg (bt s i) (bt s (i + 1))).size : Int) = 1
      · have n32 : ¬ bt s i = 32 := fun e => by rw [e, mk_space] at hm; cases hm.1
        rw [if_pos c, if_pos h0, if_pos (show i ≤ (s.size : Int) from by omega), if_pos (by omega), if_pos (show 0 ≤ i + 2 from by omega), if_pos (show i + 2 ≤ (s.size : Int) from by omega), if_pos (by rw [ByteArray.size_append]; omega), hr, decide_eq_true c]
        simp only [Bool.and_self, if_true]
        unfold act
        rw [if_neg n32]
      · rw [if_neg c, hr, decide_eq_false c]; simp
  have j1f : bt s i ≠ 32 ∨ ¬ (bt s (i + 1) = 32 ∨ mk (bt s (i + 1)) = true) → spec_l11Once.j1 (k + 2) s i (bt s i) (bt s (i + 1)) false = if red s i = true then some (act s i, true) else spec_l11Once.l0 k s (i + 1) := by
    intro hb
    simp only [spec_l11Once.j1, l11Mark_k _ (k + 1) (by omega), Option.bind_some]
    rw [if_neg (by decide)]
    cases m1 : mk (bt s i) with
    | false =>
      rw [midx_neg _ m1, if_neg (by omega)]
      exact j2 false hb (by rw [m1]; rfl)
    | true =>
      have := midx_lt _ m1
      rw [if_pos (by omega), midx_mark]
      exact j2 _ hb (by rw [m1]; rfl)
  have j1t : bt s i = 32 → (bt s (i + 1) = 32 ∨ mk (bt s (i + 1)) = true) → spec_l11Once.j1 (k + 2) s i (bt s i) (bt s (i + 1)) true = if red s i = true then some (act s i, true) else spec_l11Once.l0 k s (i + 1) := by
    intro e hb
    have hr : red s i = true := by
      unfold red
      rw [e]
      rcases hb with hb | hb
      · rw [hb]; rfl
      · rw [hb]; simp
    simp only [spec_l11Once.j1, hw]
    rw [if_pos trivial, if_pos h0, if_pos (show i ≤ (s.size : Int) from by omega), if_pos (show 0 ≤ i + 1 from by omega), if_pos (show i + 1 ≤ (s.size : Int) from by omega), if_pos (by omega), if_pos hr]
    unfold act
    rw [if_pos e]
  rw [spec_l11Once.l0]
  simp only [hw]
  rw [if_pos h1, if_pos h0, if_pos (show i < (s.size : Int) from by omega), if_pos (show 0 ≤ i + 1 from by omega)]
  by_cases c : bt s i = 32
  · rw [if_pos c]
    by_cases d : bt s (i + 1) = 32
    · rw [if_pos d]
      exact j1t c (.inl d)
    · rw [if_neg d, l11Mark_k _ (k + 2) (by omega), Option.bind_some, midx_mark]
      cases m : mk (bt s (i + 1)) with
      | false => exact j1f (.inr (fun h => h.elim d (fun h => by rw [m] at h; cases h)))
      | true => exact j1t c (.inr m)
  · rw [if_neg c]
    exact j1f (.inl c)
theorem once_end (s : ByteArray) (hs : s.size ≤ 1048576) (i : Int) (h0 : 0 ≤ i) (hi : i ≤ (s.size : Int)) (h1 : ¬ i + 1 < (s.size : Int)) (k : Nat) : spec_l11Once.l0 (k + 1) s i = some (s, false) := by
  have hw : wrap64 (i + 1) = i + 1 := wrap_small (by omega) (by omega)
  simp only [spec_l11Once.l0, hw]
  rw [if_neg h1]
theorem clean_step (s : ByteArray) (hs : s.size ≤ 1048576) (i : Int) (h0 : 0 ≤ i) (h1 : i + 1 < (s.size : Int)) (k : Nat) :
    impl_cleanText.l0 (k + 2) s i = if red s i = true then impl_cleanText.l0 k (act s i) (mx (i - 1) 0) else impl_cleanText.l0 k s (i + 1) := by
  have hw : wrap64 (i + 1) = i + 1 := wrap_small (by omega) (by omega)
  have hw2 : wrap64 (i + 2) = i + 2 := wrap_small (by omega) (by omega)
  have hw3 : wrap64 (i - 1) = i - 1 := wrap_small (by omega) (by omega)
  have z1 : (s.extract 0 i.toNat).size = i.toNat := by rw [ByteArray.size_extract]; omega
  have z2 : (s.extract (i + 1).toNat s.size).size = s.size - (i + 1).toNat := by rw [ByteArray.size_extract]; omega
  have z3 : (s.extract (i + 2).toNat s.size).size = s.size - (i + 2).toNat := by rw [ByteArray.size_extract]; omega
  have j1f : bt s i ≠ 32 ∨ ¬ (bt s (i + 1) = 32 ∨ mk (bt s (i + 1)) = true) → impl_cleanText.j1 (k + 1) s i (bt s i) (bt s (i + 1)) false = if red s i = true then impl_cleanText.l0 k (act s i) (mx (i - 1) 0) else impl_cleanText.l0 k s (i + 1) := by
    intro hb
    have hr : red s i = ((mk (bt s i) && mk (bt s (i + 1))) && decide (((mrg (bt s i) (bt s (i + 1))).size : Int) = 1)) := by
      unfold red
      rcases hb with hb | hb
      · rw [beq_eq_false_iff_ne.2 hb]; simp
      · have : (bt s (i + 1) == 32 || mk (bt s (i + 1))) = false := by
          rw [Bool.eq_false_iff]
          intro h
          simp at h
          exact hb h
        rw [this]; simp
    simp only [impl_cleanText.j1, isMark_bt, Option.bind_some, hw, hw2, hw3]
    rw [if_neg (by decide)]
    cases m1 : mk (bt s i) with
    | false => rw [m1] at hr; rw [if_neg (by decide), hr]; simp
    | true =>
      rw [if_pos rfl]
      cases m2 : mk (bt s (i + 1)) with
      | false => rw [m1, m2] at hr; rw [if_neg (by decide), hr]; simp
      | true =>
        rw [m1, m2] at hr
        rw [if_pos rfl, mergeMarks_eq _ _ m1 m2, Option.bind_some, Option.bind_some]
        by_cases c : ((mrg (bt s i) (bt s (i + 1))).size : Int) = 1
        · have n32 : ¬ bt s i = 32 := fun e => by rw [e, mk_space] at m1; cases m1
          rw [if_pos c, if_pos h0, if_pos (show i ≤ (s.size : Int) from by omega), if_pos (by omega), if_pos (show 0 ≤ i + 2 from by omega), if_pos (show i + 2 ≤ (s.size : Int) from by omega), if_pos (by rw [ByteArray.size_append]; omega), hr, decide_eq_true c]
          simp only [Bool.and_self, if_true]
          unfold act
          rw [if_neg n32]
        · rw [if_neg c, hr, decide_eq_false c]; simp
  have j1t : bt s i = 32 → (bt s (i + 1) = 32 ∨ mk (bt s (i + 1)) = true) → impl_cleanText.j1 (k + 1) s i (bt s i) (bt s (i + 1)) true = if red s i = true then impl_cleanText.l0 k (act s i) (mx (i - 1) 0) else impl_cleanText.l0 k s (i + 1) := by
    intro e hb
    have hr : red s i = true := by
      unfold red
      rw [e]
      rcases hb with hb | hb
      · rw [hb]; rfl
      · rw [hb]; simp
    simp only [impl_cleanText.j1, hw, hw3]
    rw [if_pos trivial, if_pos h0, if_pos (show i ≤ (s.size : Int) from by omega), if_pos (show 0 ≤ i + 1 from by omega), if_pos (show i + 1 ≤ (s.size : Int) from by omega), if_pos (by omega), if_pos hr]
    unfold act
    rw [if_pos e]
  rw [impl_cleanText.l0]
  simp only [hw, isMark_bt, Option.bind_some]
  rw [if_pos h1, if_pos h0, if_pos (show i < (s.size : Int) from by omega), if_pos (show 0 ≤ i + 1 from by omega)]
  by_cases c : bt s i = 32
  · rw [if_pos c]
    by_cases d : bt s (i + 1) = 32
    · rw [if_pos d]
      exact j1t c (.inl d)
    · rw [if_neg d]
      cases m : mk (bt s (i + 1)) with
      | false => exact j1f (.inr (fun h => h.elim d (fun h => by rw [m] at h; cases h)))
      | true => exact j1t c (.inr m)
  · rw [if_neg c]
    exact j1f (.inl c)
theorem once_first (s : ByteArray) (hs : s.size ≤ 1048576) (j : Int) (h1 : j + 1 < (s.size : Int)) (hj : red s j = true) : ∀ (d : Nat) (i : Int) (k : Nat), 0 ≤ i → i + d = j → (∀ x, 0 ≤ x → x < j → red s x = false) → 3 * d + 11 ≤ k → spec_l11Once.l0 k s i = some (act s j, true)
  | 0, i, k, h0, hi, hn, hk => by
    obtain ⟨k, rfl⟩ : ∃ m, k = m + 3 := ⟨k - 3, by omega⟩
    obtain rfl : i = j := by omega
    rw [once_step s hs i h0 h1 k (by omega), if_pos hj]
  | d + 1, i, k, h0, hi, hn, hk => by
    obtain ⟨k, rfl⟩ : ∃ m, k = m + 3 := ⟨k - 3, by omega⟩
    rw [once_step s hs i h0 (by omega) k (by omega), hn i h0 (by omega), if_neg (by decide)]
    exact once_first s hs j h1 hj d (i + 1) k (by omega) (by omega) hn (by omega)
theorem once_none (s : ByteArray) (hs : s.size ≤ 1048576) : ∀ (d : Nat) (i : Int) (k : Nat), 0 ≤ i → i + d = s.size → (∀ x, 0 ≤ x → x + 1 < (s.size : Int) → red s x = false) → 3 * d + 11 ≤ k → spec_l11Once.l0 k s i = some (s, false)
  | 0, i, k, h0, hi, hn, hk => by
    obtain ⟨k, rfl⟩ : ∃ m, k = m + 1 := ⟨k - 1, by omega⟩
    exact once_end s hs i h0 (by omega) (by omega) k
  | d + 1, i, k, h0, hi, hn, hk => by
    by_cases c : i + 1 < (s.size : Int)
    · obtain ⟨k, rfl⟩ : ∃ m, k = m + 3 := ⟨k - 3, by omega⟩
      rw [once_step s hs i h0 c k (by omega), hn i h0 c, if_neg (by decide)]
      exact once_none s hs d (i + 1) k (by omega) (by omega) hn (by omega)
    · obtain ⟨k, rfl⟩ : ∃ m, k = m + 1 := ⟨k - 1, by omega⟩
      exact once_end s hs i h0 (by omega) c k
theorem both : ∀ (N : Nat) (s : ByteArray) (i : Int), 2 * (s.size : Int) - i ≤ N → s.size ≤ 1048576 → 0 ≤ i → i ≤ (s.size : Int) → (∀ x, 0 ≤ x → x < i → x + 1 < (s.size : Int) → red s x = false) → ∃ v, Ev (fun k => impl_cleanText.l0 k s i) v ∧ Ev (fun k => spec_l11Clean.l0 k s true) v := by
  intro N
  induction N with
  | zero =>
    intro s i hN hs h0 hi hn
    have hz : s.size = 0 := by omega
    refine ⟨tidy s, ⟨s.size + 2, fun k hk => ?_⟩, ⟨3 * s.size + 30, fun k hk => ?_⟩⟩
    · obtain ⟨k, rfl⟩ : ∃ m, k = m + 1 := ⟨k - 1, by omega⟩
      have hw : wrap64 (i + 1) = i + 1 := wrap_small (by omega) (by omega)
      simp only [impl_cleanText.l0, hw]
      rw [if_neg (by omega), Trim_k s (by omega) k (by omega), Option.bind_some]
    · obtain ⟨k, rfl⟩ : ∃ m, k = m + 2 := ⟨k - 2, by omega⟩
      have h := once_none s hs s.size 0 (k + 1) (by omega) (by omega) (fun x hx0 hx1 => by omega) (by omega)
      show spec_l11Clean.l0 (k + 1 + 1) s true = _
      rw [spec_l11Clean.l0, if_pos rfl, spec_l11Once.f, h, Option.bind_some, spec_l11Clean.l0, if_neg (by simp), l11Trim_k s (by omega) k (by omega), Option.bind_some]
  | succ N ih =>
    intro s i hN hs h0 hi hn
    by_cases c : i + 1 < (s.size : Int)
    · cases hr : red s i with
      | true =>
        have hz := act_size s i h0 c hr
        have hm : mx (i - 1) 0 = (if i - 1 < 0 then 0 else i - 1) := rfl
        have hm0 : 0 ≤ mx (i - 1) 0 := by rw [hm]; split <;> omega
        have hm1 : mx (i - 1) 0 ≤ i := by rw [hm]; split <;> omega
        have hm2 : i - 1 ≤ mx (i - 1) 0 := by rw [hm]; split <;> omega
        have hm3 : mx (i - 1) 0 = 0 ∨ mx (i - 1) 0 = i - 1 := by rw [hm]; split <;> omega
        obtain ⟨v, ⟨K1, e1⟩, ⟨K2, e2⟩⟩ := ih (act s i) (mx (i - 1) 0) (by omega) (by omega) hm0 (by omega) (fun x hx0 hx1 hx2 => by
          rw [act_red s i h0 c x hx0 (by omega)]
          exact hn x hx0 (by omega) (by omega))
        refine ⟨v, ⟨K1 + 2, fun k hk => ?_⟩, ⟨K2 + 3 * s.size + 30, fun k hk => ?_⟩⟩
        · obtain ⟨k, rfl⟩ : ∃ m, k = m + 2 := ⟨k - 2, by omega⟩
          show impl_cleanText.l0 (k + 2) s i = some v
          rw [clean_step s hs i h0 c k, if_pos hr]
          exact e1 k (by omega)
        · obtain ⟨k, rfl⟩ : ∃ m, k = m + 1 := ⟨k - 1, by omega⟩
          have h := once_first s hs i c hr i.toNat 0 k (by omega) (by omega) (fun x hx0 hx1 => hn x hx0 hx1 (by omega)) (by omega)
          show spec_l11Clean.l0 (k + 1) s true = some v
          rw [spec_l11Clean.l0, if_pos rfl, spec_l11Once.f, h, Option.bind_some]
          exact e2 k (by omega)
      | false =>
        obtain ⟨v, ⟨K1, e1⟩, e2⟩ := ih s (i + 1) (by omega) hs (by omega) (by omega) (fun x hx0 hx1 hx2 => by
          by_cases hxi : x = i
          · rw [hxi]; exact hr
          · exact hn x hx0 (by omega) hx2)
        refine ⟨v, ⟨K1 + 2, fun k hk => ?_⟩, e2⟩
        obtain ⟨k, rfl⟩ : ∃ m, k = m + 2 := ⟨k - 2, by omega⟩
        show impl_cleanText.l0 (k + 2) s i = some v
        rw [clean_step s hs i h0 c k, hr, if_neg (by decide)]
        exact e1 k (by omega)
    · refine ⟨tidy s, ⟨s.size + 2, fun k hk => ?_⟩, ⟨3 * s.size + 30, fun k hk => ?_⟩⟩
      · obtain ⟨k, rfl⟩ : ∃ m, k = m + 1 := ⟨k - 1, by omega⟩
        have hw : wrap64 (i + 1) = i + 1 := wrap_small (by omega) (by omega)
        show impl_cleanText.l0 (k + 1) s i = _
        simp only [impl_cleanText.l0, hw]
        rw [if_neg c, Trim_k s (by omega) k (by omega), Option.bind_some]
      · obtain ⟨k, rfl⟩ : ∃ m, k = m + 2 := ⟨k - 2, by omega⟩
        have h := once_none s hs s.size 0 (k + 1) (by omega) (by omega) (fun x hx0 hx1 => hn x hx0 (by omega) hx1) (by omega)
        show spec_l11Clean.l0 (k + 1 + 1) s true = _
        rw [spec_l11Clean.l0, if_pos rfl, spec_l11Once.f, h, Option.bind_some, spec_l11Clean.l0, if_neg (by simp), l11Trim_k s (by omega) k (by omega), Option.bind_some]
theorem FnExactCleanText : laws_FnExactCleanText.Pure := by
  intro s hs
  unfold laws_FnExactCleanText.f
  by_cases ca : (s.size : Int) > 1048576
  · exact ⟨0, by rw [if_pos ca]⟩
  obtain ⟨v, ⟨K1, e1⟩, ⟨K2, e2⟩⟩ := both (2 * s.size) s 0 (by omega) (by omega) (by omega) (by omega) (fun x h0 h1 => by omega)
  refine ⟨K1 + K2 + s.size + 20, ?_⟩
  rw [if_neg ca]
  unfold spec_CleanText.f impl_CleanText.f
  have f1 : impl_cleanText.f (K1 + K2 + s.size + 20) s = some v := e1 _ (by omega)
  have f2 : spec_l11Clean.f (K1 + K2 + s.size + 20) s = some v := e2 _ (by omega)
  simp only [l11Text_k s hs _ (show s.size < K1 + K2 + s.size + 20 from by omega), isPart_k s hs _ (show s.size < K1 + K2 + s.size + 20 from by omega), f1, f2, Option.bind_some]
  cases isP s <;> simp

end Go.Proofs.YtciminppeclofaaDoor.Pure
