/- Lemmas on the printed functions, without Go and memory. -/
import Derived.Test.YtblcelelmjngfaaDoorPx12
import Derived.Test.YtblcelelmjngfaaDoorPx13
namespace Go.Proofs.YtblcelelmjngfaaDoor.Pure
open Go.RowKit Go.Proofs.YtblcelelmjngfaaDoor.Px Go.Proofs.YtblcelelmjngfaaDoorW.PrintWords Go.Proofs.YtblcelelmjngfaaDoorW.PrintLast
set_option linter.unusedVariables false
set_option linter.unusedSimpArgs false

theorem wrap_small {x : Int} (h0 : -4611686018427387904 ≤ x) (h1 : x ≤ 4611686018427387904) : wrap64 x = x := by unfold wrap64; omega
theorem drop_at (s : ByteArray) (i : Int) (h0 : 0 ≤ i) (h1 : i < (s.size : Int)) : ∃ b : UInt8, s.data.toList.drop i.toNat = b :: s.data.toList.drop (i + 1).toNat ∧ bt s i = (b.toNat : Int) := by
  have hl : i.toNat < s.data.toList.length := by rw [data_length]; omega
  refine ⟨s.data.toList[i.toNat], ?_, ?_⟩
  · rw [List.drop_eq_getElem_cons hl]
    congr 2
    omega
  · unfold bt
    rw [dif_pos (by omega)]
    rfl
theorem drop_end (s : ByteArray) (i : Int) (h1 : i = (s.size : Int)) : s.data.toList.drop i.toNat = [] := by
  apply List.drop_of_length_le
  rw [data_length]
  omega
theorem toList_nil (s : ByteArray) : s.toList = ([] : List UInt8) ↔ s.size = 0 := by
  rw [Lib.toList_data, ← data_length, List.length_eq_zero_iff]
theorem toList_nil_b (s : ByteArray) : (s.toList == ([] : List UInt8)) = decide (s.size = 0) := by
  by_cases h : s.size = 0
  · rw [(toList_nil s).2 h]; simp [h]
  · have : s.toList ≠ [] := fun e => h ((toList_nil s).1 e)
    simp [h, this]

theorem take_set_succ {β : Type} (r : List β) (i : Nat) (h : i < r.length) (v : β) : (r.set i v).take (i + 1) = r.take i ++ [v] := by
  rw [List.take_succ_eq_append_getElem (by rw [List.length_set]; exact h), List.take_set_of_le (Nat.le_refl _), List.getElem_set_self]
theorem take_map_succ {α β : Type} (f : α → β) (l : List α) (i : Nat) (h : i < l.length) : (l.map f).take (i + 1) = (l.map f).take i ++ [f l[i]] := by
  rw [List.take_succ_eq_append_getElem (by rw [List.length_map]; exact h), List.getElem_map]
theorem getD_at {α : Type} (z : α) (l : List α) (i : Int) (h1 : i.toNat < l.length) : l.getD i.toNat z = l[i.toNat] := by
  rw [List.getD_eq_getElem?_getD, List.getElem?_eq_getElem h1]
  rfl
theorem getD_mem {α : Type} (z : α) (l : List α) (i : Int) (h0 : 0 ≤ i) (h1 : i < (l.length : Int)) : l.getD i.toNat z ∈ l := by
  rw [getD_at z l i (by omega)]
  exact List.getElem_mem _
theorem drop_cons {α : Type} (z : α) (l : List α) (i : Int) (h0 : 0 ≤ i) (h1 : i < (l.length : Int)) : l.drop i.toNat = l.getD i.toNat z :: l.drop (i + 1).toNat := by
  have h : i.toNat < l.length := by omega
  rw [List.drop_eq_getElem_cons h, getD_at z l i h, show (i + 1).toNat = i.toNat + 1 from by omega]
theorem drop_none {α : Type} (l : List α) (i : Int) (h1 : (l.length : Int) ≤ i) : l.drop i.toNat = [] := List.drop_of_length_le (by omega)
theorem strOfNums_append (a b : List Int) : strOfNums (a ++ b) = strOfNums a ++ strOfNums b := by
  apply ByteArray.ext
  apply Array.toList_inj.1
  simp [strOfNums]

theorem ext_list (s : ByteArray) (a b : Nat) : (s.extract a b).data.toList = (s.data.toList.drop a).take (b - a) := by
  rw [ByteArray.data_extract, Array.toList_extract]
def lowU (u : UInt8) : UInt8 := UInt8.ofNat (impl_lower.low (u.toNat : Int)).toNat
theorem low_eq : spec_l2Low.low = impl_lower.low := rfl
theorem low_list (s : ByteArray) : (strOfNums ((bytesOf s).map impl_lower.low)).data.toList = s.data.toList.map lowU := by
  simp [strOfNums, bytesOf, lowU]
theorem lower_k (s : ByteArray) (hs : s.size ≤ 140737488351232) : ∃ t, impl_lower.f s = some t ∧ spec_l2Low.f s = some t ∧ t.data.toList = s.data.toList.map lowU := by
  refine ⟨strOfNums ((bytesOf s).map impl_lower.low), ?_, ?_, low_list s⟩
  · unfold impl_lower.f; rw [if_pos hs]
  · unfold spec_l2Low.f; rw [if_pos hs, low_eq]

end Go.Proofs.YtblcelelmjngfaaDoor.Pure
