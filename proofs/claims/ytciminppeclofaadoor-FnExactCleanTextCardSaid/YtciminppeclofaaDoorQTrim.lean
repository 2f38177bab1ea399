/- Lemmas on the printed functions, without Go and memory. -/
import Derived.Test.YtciminppeclofaaDoorPx13
import Derived.Test.YtciminppeclofaaDoorPx16
import Derived.Test.YtciminppeclofaaDoorPx6
import Derived.Test.YtciminppeclofaaDoorQMarks
namespace Go.Proofs.YtciminppeclofaaDoor.Pure
open Go.RowKit Go.Proofs.YtciminppeclofaaDoor.Px Go.Proofs.YtciminppeclofaaDoorW.PrintWords Go.Proofs.YtciminppeclofaaDoorW.PrintLast
set_option linter.unusedVariables false
set_option linter.unusedSimpArgs false

/-- A text of bytes. -/
def ofL (l : List UInt8) : ByteArray := ⟨l.toArray⟩
theorem ofL_data (s : ByteArray) : ofL s.data.toList = s := by unfold ofL; rw [Array.toArray_toList]
def sp (b : UInt8) : Bool := b == 32
/-- Without the spaces at its end; at its beginning. -/
def lR (l : List UInt8) : List UInt8 := (l.reverse.dropWhile sp).reverse
def lL (l : List UInt8) : List UInt8 := l.dropWhile sp
theorem lR_snoc (l : List UInt8) (b : UInt8) : lR (l ++ [b]) = if sp b = true then lR l else l ++ [b] := by
  unfold lR
  rw [List.reverse_append, List.reverse_singleton, List.singleton_append, List.dropWhile_cons]
  split
  · rfl
  · rw [List.reverse_cons, List.reverse_reverse]
theorem lL_cons (l : List UInt8) (b : UInt8) : lL (b :: l) = if sp b = true then lL l else b :: l := by
  unfold lL
  rw [List.dropWhile_cons]
theorem lR_cons (l : List UInt8) (b : UInt8) : lR (b :: l) = if lR l = [] then (if sp b = true then [] else [b]) else b :: lR l := by
  unfold lR
  rw [List.reverse_cons, List.dropWhile_append]
  by_cases h : List.dropWhile sp l.reverse = []
  · rw [if_pos (by rw [h]; rfl), if_pos (by rw [h]; rfl), List.dropWhile_cons]
    split
    · rfl
    · rfl
  · rw [if_neg (by simpa using h), if_neg (by simpa using h), List.reverse_append, List.reverse_singleton, List.singleton_append]
theorem lLR (l : List UInt8) : lL (lR l) = lR (lL l) := by
  induction l with
  | nil => rfl
  | cons a t ih =>
    rw [lL_cons, lR_cons]
    by_cases ha : sp a = true
    · rw [if_pos ha, if_pos ha]
      by_cases h : lR t = []
      · rw [if_pos h, ← ih, h]
      · rw [if_neg h, lL_cons, if_pos ha, ih]
    · rw [if_neg ha, if_neg ha, lR_cons]
      by_cases h : lR t = []
      · rw [if_pos h, lL_cons, if_neg ha, if_pos h, if_neg ha]
      · rw [if_neg h, lL_cons, if_neg ha, if_neg h]
theorem last_at (s : ByteArray) (h : 0 < s.size) : ∃ (l : List UInt8) (b : UInt8), s.data.toList = l ++ [b] ∧ bt s ((s.size : Int) - 1) = (b.toNat : Int) ∧ (s.extract 0 ((s.size : Int) - 1).toNat).data.toList = l := by
  obtain ⟨b, hb, hv⟩ := drop_at s ((s.size : Int) - 1) (by omega) (by omega)
  have hl := data_length s
  refine ⟨s.data.toList.take ((s.size : Int) - 1).toNat, b, ?_, hv, ?_⟩
  · have e := (List.take_append_drop ((s.size : Int) - 1).toNat s.data.toList).symm
    rw [hb, drop_end s _ (show (s.size : Int) - 1 + 1 = (s.size : Int) from by omega)] at e
    exact e
  · simp
    rw [List.dropLast_eq_take, hl]
theorem first_at (s : ByteArray) (h : 0 < s.size) : ∃ (l : List UInt8) (b : UInt8), s.data.toList = b :: l ∧ bt s 0 = (b.toNat : Int) ∧ (s.extract 1 s.size).data.toList = l := by
  obtain ⟨b, hb, hv⟩ := drop_at s 0 (by omega) (by omega)
  have hl := data_length s
  refine ⟨s.data.toList.drop 1, b, ?_, hv, ?_⟩
  · simpa using hb
  · simp only [ByteArray.data_extract, Array.toList_extract, List.extract_eq_take_drop]
    rw [List.take_of_length_le (by rw [List.length_drop, hl]; omega)]
theorem sp_bt (b : UInt8) : ((b.toNat : Int) = 32) ↔ sp b = true := by
  unfold sp
  rw [beq_iff_eq, ← UInt8.toNat_inj]
  show ((b.toNat : Int) = 32) ↔ b.toNat = 32
  omega
theorem data_nil (s : ByteArray) (h : s.size = 0) : s.data.toList = [] := List.eq_nil_of_length_eq_zero (by rw [data_length]; exact h)
theorem trimRightB : ∀ (n : Nat) (s : ByteArray) (k : Nat), s.size = n → s.size ≤ 1099511627776 → n < k → strings_trimRightByte.l0 k s 32 = some (ofL (lR s.data.toList))
  | 0, s, k, hn, hs, hk => by
    obtain ⟨k, rfl⟩ : ∃ m, k = m + 1 := ⟨k - 1, by omega⟩
    simp only [strings_trimRightByte.l0]
    rw [if_neg (by omega), data_nil s hn]
    exact congrArg some ((ofL_data s).symm.trans (by rw [data_nil s hn]; rfl))
  | n + 1, s, k, hn, hs, hk => by
    obtain ⟨k, rfl⟩ : ∃ m, k = m + 1 := ⟨k - 1, by omega⟩
    have hw : wrap64 ((s.size : Int) - 1) = (s.size : Int) - 1 := wrap_small (by omega) (by omega)
    have hz : (s.extract 0 ((s.size : Int) - 1).toNat).size = n := by rw [ByteArray.size_extract]; omega
    obtain ⟨l, b, e1, e2, e3⟩ := last_at s (by omega)
    simp only [strings_trimRightByte.l0, hw]
    rw [if_pos (by omega), if_pos (by omega), if_pos (by omega), if_pos (show (s.size : Int) - 1 ≤ (s.size : Int) from by omega), trimRightB n _ k hz (by omega) (by omega), e2, e3, e1, lR_snoc]
    by_cases c : sp b = true
    · rw [if_pos ((sp_bt b).2 c), if_pos c]
    · rw [if_neg (fun h => c ((sp_bt b).1 h)), if_neg c, ← e1, ofL_data]
theorem trimLeftB : ∀ (n : Nat) (s : ByteArray) (k : Nat), s.size = n → n < k → strings_trimLeftByte.l0 k s 32 = some (ofL (lL s.data.toList))
  | 0, s, k, hn, hk => by
    obtain ⟨k, rfl⟩ : ∃ m, k = m + 1 := ⟨k - 1, by omega⟩
    simp only [strings_trimLeftByte.l0]
    rw [if_neg (by omega), data_nil s hn]
    exact congrArg some ((ofL_data s).symm.trans (by rw [data_nil s hn]; rfl))
  | n + 1, s, k, hn, hk => by
    obtain ⟨k, rfl⟩ : ∃ m, k = m + 1 := ⟨k - 1, by omega⟩
    have hz : (s.extract 1 s.size).size = n := by rw [ByteArray.size_extract]; omega
    obtain ⟨l, b, e1, e2, e3⟩ := first_at s (by omega)
    simp only [strings_trimLeftByte.l0]
    rw [if_pos (by omega), if_pos (by omega), if_pos (show 1 ≤ (s.size : Int) from by omega), trimLeftB n _ k hz (by omega), e2, e3, e1, lL_cons]
    by_cases c : sp b = true
    · rw [if_pos ((sp_bt b).2 c), if_pos c]
    · rw [if_neg (fun h => c ((sp_bt b).1 h)), if_neg c, ← e1, ofL_data]
theorem lR_len (l : List UInt8) : (lR l).length ≤ l.length := by
  unfold lR
  rw [List.length_reverse]
  exact Nat.le_trans (List.dropWhile_suffix sp).length_le (by rw [List.length_reverse]; exact Nat.le_refl _)
theorem lL_len (l : List UInt8) : (lL l).length ≤ l.length := (List.dropWhile_suffix sp).length_le
theorem ofL_size (l : List UInt8) : (ofL l).size = l.length := by show l.toArray.size = _; simp
theorem ofL_toList (l : List UInt8) : (ofL l).data.toList = l := by simp [ofL]
/-- Without the spaces at both ends. -/
def tidy (s : ByteArray) : ByteArray := ofL (lR (lL s.data.toList))
theorem Trim_k (s : ByteArray) (hs : s.size ≤ 1099511627776) (k : Nat) (hk : s.size < k) : strings_Trim.f k s ⟨#[32]⟩ = some (tidy s) := by
  unfold strings_Trim.f tidy
  rw [if_pos (by rfl), if_pos (by decide), ← lLR]
  have h1 : strings_trimRightByte.f k s (bt (⟨#[32]⟩ : ByteArray) 0) = some (ofL (lR s.data.toList)) := trimRightB _ s k rfl hs hk
  have hl := lR_len s.data.toList
  have hd := data_length s
  have h2 : strings_trimLeftByte.f k (ofL (lR s.data.toList)) (bt (⟨#[32]⟩ : ByteArray) 0) = some (ofL (lL (lR s.data.toList))) := by
    have h := trimLeftB _ (ofL (lR s.data.toList)) k rfl (by rw [ofL_size]; omega)
    rw [ofL_toList] at h
    exact h
  rw [h1, Option.bind_some, h2]
theorem l11Trim_l1 : ∀ (n : Nat) (s : ByteArray) (k : Nat), s.size = n → s.size ≤ 1099511627776 → n < k → spec_l11Trim.l1 k s = some (ofL (lR s.data.toList))
  | 0, s, k, hn, hs, hk => by
    obtain ⟨k, rfl⟩ : ∃ m, k = m + 1 := ⟨k - 1, by omega⟩
    simp only [spec_l11Trim.l1]
    rw [if_pos ((toList_nil s).2 hn), data_nil s hn]
    exact congrArg some ((ofL_data s).symm.trans (by rw [data_nil s hn]; rfl))
  | n + 1, s, k, hn, hs, hk => by
    obtain ⟨k, rfl⟩ : ∃ m, k = m + 1 := ⟨k - 1, by omega⟩
    have hw : wrap64 ((s.size : Int) - 1) = (s.size : Int) - 1 := wrap_small (by omega) (by omega)
    have hz : (s.extract 0 ((s.size : Int) - 1).toNat).size = n := by rw [ByteArray.size_extract]; omega
    obtain ⟨l, b, e1, e2, e3⟩ := last_at s (by omega)
    simp only [spec_l11Trim.l1, hw]
    rw [if_neg (fun e => by have := (toList_nil s).1 e; omega), if_pos (by omega), if_pos (by omega), if_pos (show (s.size : Int) - 1 ≤ (s.size : Int) from by omega), l11Trim_l1 n _ k hz (by omega) (by omega), e2, e3, e1, lR_snoc]
    by_cases c : sp b = true
    · rw [if_pos ((sp_bt b).2 c), if_pos c]
    · rw [if_neg (fun h => c ((sp_bt b).1 h)), if_neg c, ← e1, ofL_data]
theorem l11Trim_l0 : ∀ (n : Nat) (s : ByteArray) (k : Nat), s.size = n → s.size ≤ 1099511627776 → 2 * n + 2 < k → spec_l11Trim.l0 k s = some (tidy s)
  | 0, s, k, hn, hs, hk => by
    obtain ⟨k, rfl⟩ : ∃ m, k = m + 2 := ⟨k - 2, by omega⟩
    simp only [spec_l11Trim.l0, spec_l11Trim.j1]
    rw [if_pos ((toList_nil s).2 hn), l11Trim_l1 0 s k hn hs (by omega)]
    unfold tidy
    rw [data_nil s hn]
    rfl
  | n + 1, s, k, hn, hs, hk => by
    obtain ⟨k, rfl⟩ : ∃ m, k = m + 2 := ⟨k - 2, by omega⟩
    have hz : (s.extract 1 s.size).size = n := by rw [ByteArray.size_extract]; omega
    obtain ⟨l, b, e1, e2, e3⟩ := first_at s (by omega)
    rw [spec_l11Trim.l0, if_neg (fun e => by have := (toList_nil s).1 e; omega), if_pos (by omega), if_pos (show 1 ≤ (s.size : Int) from by omega), l11Trim_l0 n _ (k + 1) hz (by omega) (by omega), e2]
    have hj : spec_l11Trim.j1 (k + 1) s = some (ofL (lR s.data.toList)) := by
      simp only [spec_l11Trim.j1]
      exact l11Trim_l1 (n + 1) s k hn hs (by omega)
    rw [hj]
    unfold tidy
    rw [e3, e1, lL_cons]
    by_cases c : sp b = true
    · rw [if_pos ((sp_bt b).2 c), if_pos c]
    · rw [if_neg (fun h => c ((sp_bt b).1 h)), if_neg c]
theorem l11Trim_k (s : ByteArray) (hs : s.size ≤ 1099511627776) (k : Nat) (hk : 2 * s.size + 2 < k) : spec_l11Trim.f k s = some (tidy s) := l11Trim_l0 _ s k rfl hs hk

end Go.Proofs.YtciminppeclofaaDoor.Pure
