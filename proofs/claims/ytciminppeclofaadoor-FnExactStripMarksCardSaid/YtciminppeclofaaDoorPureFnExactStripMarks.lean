/- The law FnExactStripMarks, as a statement over numbers and lists: the program's function and the reference's answer alike, for every input; no further condition. -/
import Derived.Test.YtciminppeclofaaDoorPx1
import Derived.Test.YtciminppeclofaaDoorPx11
import Derived.Test.YtciminppeclofaaDoorPx13
import Derived.Test.YtciminppeclofaaDoorPx14
import Derived.Test.YtciminppeclofaaDoorQText
namespace Go.Proofs.YtciminppeclofaaDoor.Pure
open Go.RowKit Go.Proofs.YtciminppeclofaaDoor.Px Go.Proofs.YtciminppeclofaaDoorW.PrintWords Go.Proofs.YtciminppeclofaaDoorW.PrintLast
set_option linter.unusedVariables false
set_option linter.unusedSimpArgs false

/-- A text of bytes. -/
def ofL (l : List UInt8) : ByteArray := ⟨l.toArray⟩
theorem ofL_data (s : ByteArray) : ofL s.data.toList = s := by unfold ofL; rw [Array.toArray_toList]
def sp (b : UInt8) : Bool := impl_StripMarks.inS (b.toNat : Int)
/-- Without the spaces at its end; at its beginning. -/
def lR (l : List UInt8) : List UInt8 := (l.reverse.dropWhile sp).reverse
def lL (l : List UInt8) : List UInt8 := l.dropWhile sp
theorem lR_snoc (l : List UInt8) (b : UInt8) : lR (l ++ [b]) = if sp b = true then lR l else l ++ [b] := by
  unfold lR
  rw [List.reverse_append, List.reverse_singleton, List.singleton_append, List.dropWhile_cons]
  split
  · rfl
  · rw [List.reverse_cons, List.reverse_reverse]
theorem lL_cons (l : List UInt8) (b : UInt8) : lL (b :: l) = if sp b = true then lL l else b :: l := by
  unfold lL
  rw [List.dropWhile_cons]
theorem lR_cons (l : List UInt8) (b : UInt8) : lR (b :: l) = if lR l = [] then (if sp b = true then [] else [b]) else b :: lR l := by
  unfold lR
  rw [List.reverse_cons, List.dropWhile_append]
  by_cases h : List.dropWhile sp l.reverse = []
  · rw [if_pos (by rw [h]; rfl), if_pos (by rw [h]; rfl), List.dropWhile_cons]
    split
    · rfl
    · rfl
  · rw [if_neg (by simpa using h), if_neg (by simpa using h), List.reverse_append, List.reverse_singleton, List.singleton_append]
theorem lLR (l : List UInt8) : lL (lR l) = lR (lL l) := by
  induction l with
  | nil => rfl
  | cons a t ih =>
    rw [lL_cons, lR_cons]
    by_cases ha : sp a = true
    · rw [if_pos ha, if_pos ha]
      by_cases h : lR t = []
      · rw [if_pos h, ← ih, h]
      · rw [if_neg h, lL_cons, if_pos ha, ih]
    · rw [if_neg ha, if_neg ha, lR_cons]
      by_cases h : lR t = []
      · rw [if_pos h, lL_cons, if_neg ha, if_pos h, if_neg ha]
      · rw [if_neg h, lL_cons, if_neg ha, if_neg h]
theorem last_at (s : ByteArray) (h : 0 < s.size) : ∃ (l : List UInt8) (b : UInt8), s.data.toList = l ++ [b] ∧ bt s ((s.size : Int) - 1) = (b.toNat : Int) ∧ (s.extract 0 ((s.size : Int) - 1).toNat).data.toList = l := by
  obtain ⟨b, hb, hv⟩ := drop_at s ((s.size : Int) - 1) (by omega) (by omega)
  have hl := data_length s
  refine ⟨s.data.toList.take ((s.size : Int) - 1).toNat, b, ?_, hv, ?_⟩
  · have e := (List.take_append_drop ((s.size : Int) - 1).toNat s.data.toList).symm
    rw [hb, drop_end s _ (show (s.size : Int) - 1 + 1 = (s.size : Int) from by omega)] at e
    exact e
  · simp
    rw [List.dropLast_eq_take, hl]
theorem first_at (s : ByteArray) (h : 0 < s.size) : ∃ (l : List UInt8) (b : UInt8), s.data.toList = b :: l ∧ bt s 0 = (b.toNat : Int) ∧ (s.extract 1 s.size).data.toList = l := by
  obtain ⟨b, hb, hv⟩ := drop_at s 0 (by omega) (by omega)
  have hl := data_length s
  refine ⟨s.data.toList.drop 1, b, ?_, hv, ?_⟩
  · simpa using hb
  · simp only [ByteArray.data_extract, Array.toList_extract, List.extract_eq_take_drop]
    rw [List.take_of_length_le (by rw [List.length_drop, hl]; omega)]
theorem data_nil (s : ByteArray) (h : s.size = 0) : s.data.toList = [] := List.eq_nil_of_length_eq_zero (by rw [data_length]; exact h)
set_option maxRecDepth 20000 in
theorem inS_all : ∀ n : Fin 256, impl_StripMarks.inS ((n.val : Nat) : Int) = (decide (((n.val : Nat) : Int) = 32) || mk ((n.val : Nat) : Int)) := by decide
theorem inS_bt (s : ByteArray) (i : Int) : impl_StripMarks.inS (bt s i) = (decide (bt s i = 32) || mk (bt s i)) := by
  have hr := bt_range s i
  have h := inS_all ⟨(bt s i).toNat, by omega⟩
  simp only [Int.toNat_of_nonneg hr.1] at h
  exact h
theorem trB : ∀ (n : Nat) (s : ByteArray) (k : Nat), s.size = n → s.size ≤ 1099511627776 → n < k → impl_StripMarks.tr k s = some (ofL (lR s.data.toList))
  | 0, s, k, hn, hs, hk => by
    obtain ⟨k, rfl⟩ : ∃ m, k = m + 1 := ⟨k - 1, by omega⟩
    simp only [impl_StripMarks.tr]
    rw [if_neg (by omega), data_nil s hn]
    exact congrArg some ((ofL_data s).symm.trans (by rw [data_nil s hn]; rfl))
  | n + 1, s, k, hn, hs, hk => by
    obtain ⟨k, rfl⟩ : ∃ m, k = m + 1 := ⟨k - 1, by omega⟩
    have hw : wrap64 ((s.size : Int) - 1) = (s.size : Int) - 1 := wrap_small (by omega) (by omega)
    have hz : (s.extract 0 ((s.size : Int) - 1).toNat).size = n := by rw [ByteArray.size_extract]; omega
    obtain ⟨l, b, e1, e2, e3⟩ := last_at s (by omega)
    simp only [impl_StripMarks.tr, hw]
    rw [if_pos (by omega), trB n _ k hz (by omega) (by omega), e2, e3, e1, lR_snoc]
    show (if sp b = true then _ else _) = _
    by_cases c : sp b = true
    · rw [if_pos c, if_pos c]
    · rw [if_neg c, if_neg c, ← e1, ofL_data]
theorem tlB : ∀ (n : Nat) (s : ByteArray) (k : Nat), s.size = n → n < k → impl_StripMarks.tl k s = some (ofL (lL s.data.toList))
  | 0, s, k, hn, hk => by
    obtain ⟨k, rfl⟩ : ∃ m, k = m + 1 := ⟨k - 1, by omega⟩
    simp only [impl_StripMarks.tl]
    rw [if_neg (by omega), data_nil s hn]
    exact congrArg some ((ofL_data s).symm.trans (by rw [data_nil s hn]; rfl))
  | n + 1, s, k, hn, hk => by
    obtain ⟨k, rfl⟩ : ∃ m, k = m + 1 := ⟨k - 1, by omega⟩
    have hz : (s.extract 1 s.size).size = n := by rw [ByteArray.size_extract]; omega
    obtain ⟨l, b, e1, e2, e3⟩ := first_at s (by omega)
    simp only [impl_StripMarks.tl]
    rw [if_pos (by omega), tlB n _ k hz (by omega), e2, e3, e1, lL_cons]
    show (if sp b = true then _ else _) = _
    by_cases c : sp b = true
    · rw [if_pos c, if_pos c]
    · rw [if_neg c, if_neg c, ← e1, ofL_data]
theorem lR_len (l : List UInt8) : (lR l).length ≤ l.length := by
  unfold lR
  rw [List.length_reverse]
  exact Nat.le_trans (List.dropWhile_suffix sp).length_le (by rw [List.length_reverse]; exact Nat.le_refl _)
theorem ofL_size (l : List UInt8) : (ofL l).size = l.length := by show l.toArray.size = _; simp
theorem ofL_toList (l : List UInt8) : (ofL l).data.toList = l := by simp [ofL]
/-- Without the marks and spaces at both ends. -/
def tidy (s : ByteArray) : ByteArray := ofL (lR (lL s.data.toList))
/-- How the reference tests a byte. -/
theorem test_eq {β : Type} (s : ByteArray) (i : Int) (k : Nat) (hk : 8 ≤ k) (A B : Option β) : (if bt s i = 32 then A else ((spec_l11Mark.f k (bt s i)).bind fun t => if t ≥ 0 then A else B)) = if impl_StripMarks.inS (bt s i) = true then A else B := by
  rw [inS_bt, l11Mark_k _ k hk, Option.bind_some]
  by_cases c : bt s i = 32
  · rw [if_pos c, decide_eq_true c]; simp
  · rw [if_neg c, decide_eq_false c, ← midx_mark]
    by_cases d : midx (bt s i) ≥ 0
    · rw [if_pos d, decide_eq_true d]; simp
    · rw [if_neg d, decide_eq_false d]; simp
theorem spec_l1 : ∀ (n : Nat) (s : ByteArray) (k : Nat), s.size = n → s.size ≤ 1099511627776 → n + 9 < k → spec_StripMarks.l1 k s = some (ofL (lR s.data.toList), true)
  | 0, s, k, hn, hs, hk => by
    obtain ⟨k, rfl⟩ : ∃ m, k = m + 1 := ⟨k - 1, by omega⟩
    simp only [spec_StripMarks.l1]
    rw [if_pos ((toList_nil s).2 hn)]
    exact congrArg (fun x => some (x, true)) ((ofL_data s).symm.trans (by rw [data_nil s hn]; rfl))
  | n + 1, s, k, hn, hs, hk => by
    obtain ⟨k, rfl⟩ : ∃ m, k = m + 1 := ⟨k - 1, by omega⟩
    have hw : wrap64 ((s.size : Int) - 1) = (s.size : Int) - 1 := wrap_small (by omega) (by omega)
    have hz : (s.extract 0 ((s.size : Int) - 1).toNat).size = n := by rw [ByteArray.size_extract]; omega
    obtain ⟨l, b, e1, e2, e3⟩ := last_at s (by omega)
    have hle : ((s.size : Int) - 1 ≤ (s.size : Int)) = True := eq_true (by omega)
    simp only [spec_StripMarks.l1, hw, hle, if_true]
    rw [if_neg (fun e => by have := (toList_nil s).1 e; omega), if_pos (by omega), if_pos (by omega), test_eq s _ k (by omega), spec_l1 n _ k hz (by omega) (by omega), e2, e3, e1, lR_snoc]
    show (if sp b = true then _ else _) = _
    by_cases c : sp b = true
    · rw [if_pos c, if_pos c]
    · rw [if_neg c, if_neg c, ← e1, ofL_data]
theorem spec_l0 : ∀ (n : Nat) (s : ByteArray) (k : Nat), s.size = n → s.size ≤ 1099511627776 → 2 * n + 12 < k → spec_StripMarks.l0 k s = some (tidy s, true)
  | 0, s, k, hn, hs, hk => by
    obtain ⟨k, rfl⟩ : ∃ m, k = m + 2 := ⟨k - 2, by omega⟩
    simp only [spec_StripMarks.l0, spec_StripMarks.j1]
    rw [if_pos ((toList_nil s).2 hn), spec_l1 0 s k hn hs (by omega)]
    unfold tidy
    rw [data_nil s hn]
    rfl
  | n + 1, s, k, hn, hs, hk => by
    obtain ⟨k, rfl⟩ : ∃ m, k = m + 2 := ⟨k - 2, by omega⟩
    have hz : (s.extract 1 s.size).size = n := by rw [ByteArray.size_extract]; omega
    obtain ⟨l, b, e1, e2, e3⟩ := first_at s (by omega)
    have hle : (1 ≤ (s.size : Int)) = True := eq_true (by omega)
    have hj : spec_StripMarks.j1 (k + 1) s = some (ofL (lR s.data.toList), true) := by
      simp only [spec_StripMarks.j1]
      exact spec_l1 (n + 1) s k hn hs (by omega)
    rw [spec_StripMarks.l0, if_neg (fun e => by have := (toList_nil s).1 e; omega), if_pos (by omega)]
    simp only [hle, if_true]
    rw [test_eq s 0 (k + 1) (by omega), spec_l0 n _ (k + 1) hz (by omega) (by omega), e2, hj]
    unfold tidy
    rw [e3, e1, lL_cons]
    show (if sp b = true then _ else _) = _
    by_cases c : sp b = true
    · rw [if_pos c, if_pos c]
    · rw [if_neg c, if_neg c]
theorem FnExactStripMarks : laws_FnExactStripMarks.Pure := by
  intro s hs
  unfold laws_FnExactStripMarks.f
  by_cases ca : (s.size : Int) > 1048576
  · exact ⟨0, by rw [if_pos ca]⟩
  refine ⟨2 * s.size + 20, ?_⟩
  rw [if_neg ca]
  unfold spec_StripMarks.f impl_StripMarks.f
  have hl := lR_len s.data.toList
  have hd := data_length s
  have f1 := trB _ s (2 * s.size + 20) rfl (by omega) (by omega)
  have f2 : impl_StripMarks.tl (2 * s.size + 20) (ofL (lR s.data.toList)) = some (tidy s) := by
    have h := tlB _ (ofL (lR s.data.toList)) (2 * s.size + 20) rfl (by rw [ofL_size]; omega)
    rw [ofL_toList, lLR] at h
    exact h
  have f3 := spec_l0 _ s (2 * s.size + 20) rfl (by omega) (by omega)
  have hc : (s.size ≤ 140737488351232) = True := eq_true hs
  simp only [l11Text_k s hs _ (show s.size < 2 * s.size + 20 from by omega), isPart_k s hs _ (show s.size < 2 * s.size + 20 from by omega), f1, f2, f3, hc, if_true, Option.bind_some]
  cases isP s <;> simp

end Go.Proofs.YtciminppeclofaaDoor.Pure
