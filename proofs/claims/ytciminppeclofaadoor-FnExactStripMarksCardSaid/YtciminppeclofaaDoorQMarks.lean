/- Lemmas on the printed functions, without Go and memory. -/
import Derived.Test.YtciminppeclofaaDoorPx1
import Derived.Test.YtciminppeclofaaDoorPx2
import Derived.Test.YtciminppeclofaaDoorPx5
import Derived.Test.YtciminppeclofaaDoorPx7
namespace Go.Proofs.YtciminppeclofaaDoor.Pure
open Go.RowKit Go.Proofs.YtciminppeclofaaDoor.Px Go.Proofs.YtciminppeclofaaDoorW.PrintWords Go.Proofs.YtciminppeclofaaDoorW.PrintLast
set_option linter.unusedVariables false
set_option linter.unusedSimpArgs false

theorem wrap_small {x : Int} (h0 : -4611686018427387904 ≤ x) (h1 : x ≤ 4611686018427387904) : wrap64 x = x := by unfold wrap64; omega
theorem drop_at (s : ByteArray) (i : Int) (h0 : 0 ≤ i) (h1 : i < (s.size : Int)) : ∃ b : UInt8, s.data.toList.drop i.toNat = b :: s.data.toList.drop (i + 1).toNat ∧ bt s i = (b.toNat : Int) := by
  have hl : i.toNat < s.data.toList.length := by rw [data_length]; omega
  refine ⟨s.data.toList[i.toNat], ?_, ?_⟩
  · rw [List.drop_eq_getElem_cons hl]
    congr 2
    omega
  · unfold bt
    rw [dif_pos (by omega)]
    rfl
theorem drop_end (s : ByteArray) (i : Int) (h1 : i = (s.size : Int)) : s.data.toList.drop i.toNat = [] := by
  apply List.drop_of_length_le
  rw [data_length]
  omega
theorem toList_nil (s : ByteArray) : s.toList = ([] : List UInt8) ↔ s.size = 0 := by
  rw [Lib.toList_data, ← data_length, List.length_eq_zero_iff]
theorem toList_nil_b (s : ByteArray) : (s.toList == ([] : List UInt8)) = decide (s.size = 0) := by
  by_cases h : s.size = 0
  · rw [(toList_nil s).2 h]; simp [h]
  · have : s.toList ≠ [] := fun e => h ((toList_nil s).1 e)
    simp [h, this]

/-- The place of a mark among the marks, or -1. -/
def midx (b : Int) : Int := if b = 46 then 0 else if b = 44 then 1 else if b = 59 then 2 else if b = 58 then 3 else if b = 33 then 4 else if b = 63 then 5 else -1
abbrev mk (b : Int) : Bool := impl_mergeMarks.mark b
theorem midx_mark (b : Int) : decide (midx b ≥ 0) = mk b := by
  unfold midx mk impl_mergeMarks.mark
  repeat' split
  all_goals simp_all
theorem midx_lt (b : Int) (h : mk b = true) : 0 ≤ midx b ∧ midx b < 6 := by
  rcases impl_mergeMarks.mark_cases h with rfl | rfl | rfl | rfl | rfl | rfl <;> decide
theorem midx_neg (b : Int) (h : mk b = false) : midx b = -1 := by
  have h1 := midx_mark b
  rw [h] at h1
  have h2 : ¬ (midx b ≥ 0) := by simpa using h1
  unfold midx at h2 ⊢
  repeat' split
  all_goals simp_all
theorem l11Mark_k (b : Int) (k : Nat) (hk : 8 ≤ k) : spec_l11Mark.f k b = some (midx b) := by
  obtain ⟨m, rfl⟩ : ∃ m, k = m + 8 := ⟨k - 8, by omega⟩
  have e0 : bt (⟨#[46, 44, 59, 58, 33, 63]⟩ : ByteArray) 0 = 46 := by decide
  have e1 : bt (⟨#[46, 44, 59, 58, 33, 63]⟩ : ByteArray) 1 = 44 := by decide
  have e2 : bt (⟨#[46, 44, 59, 58, 33, 63]⟩ : ByteArray) 2 = 59 := by decide
  have e3 : bt (⟨#[46, 44, 59, 58, 33, 63]⟩ : ByteArray) 3 = 58 := by decide
  have e4 : bt (⟨#[46, 44, 59, 58, 33, 63]⟩ : ByteArray) 4 = 33 := by decide
  have e5 : bt (⟨#[46, 44, 59, 58, 33, 63]⟩ : ByteArray) 5 = 63 := by decide
  have s : ((⟨#[46, 44, 59, 58, 33, 63]⟩ : ByteArray).size : Int) = 6 := by decide
  have w1 : wrap64 (0 + 1) = 1 := by unfold wrap64; omega
  have w2 : wrap64 (1 + 1) = 2 := by unfold wrap64; omega
  have w3 : wrap64 (2 + 1) = 3 := by unfold wrap64; omega
  have w4 : wrap64 (3 + 1) = 4 := by unfold wrap64; omega
  have w5 : wrap64 (4 + 1) = 5 := by unfold wrap64; omega
  have w6 : wrap64 (5 + 1) = 6 := by unfold wrap64; omega
  show spec_l11Mark.l0 (m + 8) b _ 0 = _
  unfold midx
  simp only [spec_l11Mark.l0, s, e0, e1, e2, e3, e4, e5, w1, w2, w3, w4, w5, w6]
  simp only [eq_comm (b := b)]
  simp only [show ((0 : Int) < 6) = True from by simp, show ((1 : Int) < 6) = True from by simp, show ((2 : Int) < 6) = True from by simp, show ((3 : Int) < 6) = True from by simp, show ((4 : Int) < 6) = True from by simp, show ((5 : Int) < 6) = True from by simp, show ((6 : Int) < 6) = False from by simp, show (0 ≤ (0 : Int)) = True from by simp, show (0 ≤ (1 : Int)) = True from by simp, show (0 ≤ (2 : Int)) = True from by simp, show (0 ≤ (3 : Int)) = True from by simp, show (0 ≤ (4 : Int)) = True from by simp, show (0 ≤ (5 : Int)) = True from by simp, if_true, if_false]
  repeat' split
  all_goals rfl
theorem l11Mark_ev (b : Int) : Ev (fun k => spec_l11Mark.f k b) (midx b) := ⟨8, fun k hk => l11Mark_k b k hk⟩
set_option maxRecDepth 20000 in
theorem isMark_all : ∀ n : Fin 256, decide (Lib.indexByte [46, 44, 59, 58, 33, 63] n.val.toUInt8 ≥ 0) = mk n.val := by decide
theorem isMark_eq (b : Int) (h0 : 0 ≤ b) (h1 : b ≤ 255) : impl_isMark.f b = some (mk b) := by
  have h := isMark_all ⟨b.toNat, by omega⟩
  simp only [Int.toNat_of_nonneg h0] at h
  unfold impl_isMark.f strings_IndexByte.f stringslite_IndexByte.f
  simp only [Option.bind_some]
  exact congrArg some h
theorem isMark_bt (s : ByteArray) (i : Int) : impl_isMark.f (bt s i) = some (mk (bt s i)) := isMark_eq _ (bt_range s i).1 (bt_range s i).2
theorem u8_range {a : Int} (h : (Lit.int .u8 a).wf = true) : 0 ≤ a ∧ a ≤ 255 := by
  simp only [Lit.wf, Bool.and_eq_true, decide_eq_true_eq] at h
  exact ⟨h.1, h.2⟩
/-- What replaces two marks. -/
def mrg (a b : Int) : ByteArray := if (impl_mergeMarks.row a).extract (impl_mergeMarks.col b) (impl_mergeMarks.col b + 1) = ⟨#[43]⟩ then strOfNums [a, b] else (impl_mergeMarks.row a).extract (impl_mergeMarks.col b) (impl_mergeMarks.col b + 1)
theorem mergeMarks_eq (a b : Int) (ha : mk a = true) (hb : mk b = true) : impl_mergeMarks.f a b = some (mrg a b) := by
  have ha' : impl_mergeMarks.mark a = true := ha
  have hb' : impl_mergeMarks.mark b = true := hb
  unfold impl_mergeMarks.f mrg
  rw [if_pos (by rw [ha', hb']; rfl)]
  split <;> rfl
theorem l11Merge_k (a b : Int) (ha : mk a = true) (hb : mk b = true) (k : Nat) (hk : 8 ≤ k) : spec_l11Merge.f k a b = some (mrg a b) := by
  have g1 := l11Mark_k a k hk
  have g2 := l11Mark_k b k hk
  unfold spec_l11Merge.f
  simp only [Option.bind_some, g1, g2]
  clear g1 g2 hk
  rcases impl_mergeMarks.mark_cases ha with rfl | rfl | rfl | rfl | rfl | rfl <;> rcases impl_mergeMarks.mark_cases hb with rfl | rfl | rfl | rfl | rfl | rfl <;> decide
theorem l11Merge_ev (a b : Int) (ha : mk a = true) (hb : mk b = true) : Ev (fun k => spec_l11Merge.f k a b) (mrg a b) := ⟨8, fun k hk => l11Merge_k a b ha hb k hk⟩

end Go.Proofs.YtciminppeclofaaDoor.Pure
