/- Lemmas on the printed functions, without Go and memory. -/
import Derived.Test.YtciminppeclofaaPx17
import Derived.Test.YtciminppeclofaaPx19
import Derived.Test.YtciminppeclofaaPx21
import Derived.Test.YtciminppeclofaaQMarks
namespace Go.Proofs.Ytciminppeclofaa.Pure
open Go.RowKit Go.Proofs.Ytciminppeclofaa.Px Go.Proofs.YtciminppeclofaaW.PrintWords Go.Proofs.YtciminppeclofaaW.PrintLast
set_option linter.unusedVariables false
set_option linter.unusedSimpArgs false

theorem rdOf_mem {α : Type} (z : α) (l : List α) (i : Int) (h0 : 0 ≤ i) (h1 : i < (l.length : Int)) : rdOf z l i ∈ l := by
  unfold rdOf
  rw [List.getD_eq_getElem?_getD, List.getElem?_eq_getElem (by omega : i.toNat < l.length)]
  exact List.getElem_mem _
theorem set_take {α : Type} (z : α) (l : List α) (i : Int) (h0 : 0 ≤ i) (h1 : i < (l.length : Int)) (r : List α) (hr : r.length = l.length) (ht : r.take i.toNat = l.take i.toNat) :
    (r.set i.toNat (rdOf z l i)).take (i + 1).toNat = l.take (i + 1).toNat := by
  have e : (i + 1).toNat = i.toNat + 1 := by omega
  have hl : i.toNat < l.length := by omega
  rw [e, List.take_succ_eq_append_getElem (by rw [List.length_set]; omega), List.take_succ_eq_append_getElem hl, List.take_set_of_le (Nat.le_refl _), ht, List.getElem_set_self]
  unfold rdOf
  rw [List.getD_eq_getElem?_getD, List.getElem?_eq_getElem hl]
  rfl
theorem toStringS_l0 (l : List ByteArray) (hl : l.length ≤ 1048576) (d : Nat) : ∀ (k : Nat) (i : Int) (r : List ByteArray), 0 ≤ i → i + d = l.length → d < k → r.length = l.length → r.take i.toNat = l.take i.toNat → laws_toStringS.l0 k l r i = some l := by
  induction d with
  | zero =>
    intro k i r h0 h1 hk hr ht
    obtain ⟨k, rfl⟩ : ∃ m, k = m + 1 := ⟨k - 1, by omega⟩
    simp only [laws_toStringS.l0]
    rw [if_neg (by omega)]
    rw [List.take_of_length_le (by omega), List.take_of_length_le (by omega)] at ht
    rw [ht]
  | succ d ih =>
    intro k i r h0 h1 hk hr ht
    obtain ⟨k, rfl⟩ : ∃ m, k = m + 1 := ⟨k - 1, by omega⟩
    simp only [laws_toStringS.l0]
    rw [if_pos (by omega), if_pos h0, if_pos (by omega), wrap_small (by omega) (by omega)]
    exact ih k (i + 1) _ (by omega) (by omega) (by omega) (by rw [List.length_set]; exact hr) (set_take _ l i h0 (by omega) r hr ht)
theorem toStringS_k (l : List ByteArray) (hl : l.length ≤ 1048576) (k : Nat) (hk : l.length < k) : laws_toStringS.f k l = some l := by
  unfold laws_toStringS.f
  rw [if_pos (by omega), if_pos (by omega)]
  exact toStringS_l0 l hl l.length k 0 _ (by omega) (by omega) hk (by simp) (by simp)
theorem eqStringS_l0 (l : List ByteArray) (hl : l.length ≤ 1048576) (d : Nat) : ∀ (k : Nat) (i : Int), 0 ≤ i → i + d = l.length → d < k → laws_eqStringS.l0 k l l i = some true := by
  induction d with
  | zero =>
    intro k i h0 h1 hk
    obtain ⟨k, rfl⟩ : ∃ m, k = m + 1 := ⟨k - 1, by omega⟩
    simp only [laws_eqStringS.l0]
    rw [if_neg (by omega)]
  | succ d ih =>
    intro k i h0 h1 hk
    obtain ⟨k, rfl⟩ : ∃ m, k = m + 1 := ⟨k - 1, by omega⟩
    simp only [laws_eqStringS.l0]
    rw [if_pos (by omega), if_pos h0, if_pos (by omega), if_pos (by trivial), wrap_small (by omega) (by omega)]
    exact ih k (i + 1) (by omega) (by omega) (by omega)
theorem eqStringS_k (l : List ByteArray) (hl : l.length ≤ 1048576) (k : Nat) (hk : l.length < k) : laws_eqStringS.f k l l = some true := by
  unfold laws_eqStringS.f
  rw [if_pos rfl]
  exact eqStringS_l0 l hl l.length k 0 (by omega) (by omega) hk
theorem szStringS_l0 (l : List ByteArray) (hl : l.length ≤ 1048576) (hs : ∀ x ∈ l, x.size ≤ 9223372036854775807) (d : Nat) : ∀ (k : Nat) (i x : Int), 0 ≤ i → i + d = l.length → d < k → 0 ≤ x → x ≤ 1048576 →
    ∃ t, laws_szStringS.l0 k l x i = some t ∧ (0 ≤ t → ∀ y ∈ l.drop i.toNat, y.size ≤ 1048576) := by
  induction d with
  | zero =>
    intro k i x h0 h1 hk hx0 hx1
    obtain ⟨k, rfl⟩ : ∃ m, k = m + 1 := ⟨k - 1, by omega⟩
    simp only [laws_szStringS.l0]
    rw [if_neg (by omega), List.drop_of_length_le (by omega)]
    exact ⟨x, rfl, fun _ y hy => by cases hy⟩
  | succ d ih =>
    intro k i x h0 h1 hk hx0 hx1
    obtain ⟨k, rfl⟩ : ∃ m, k = m + 1 := ⟨k - 1, by omega⟩
    simp only [laws_szStringS.l0]
    have hm := hs _ (rdOf_mem ByteArray.empty l i h0 (by omega))
    have hw : wrap64 (x - ((rdOf ByteArray.empty l i).size : Int)) = x - ((rdOf ByteArray.empty l i).size : Int) := by unfold wrap64; omega
    rw [if_pos (by omega), if_pos h0, hw]
    by_cases c : x - ((rdOf ByteArray.empty l i).size : Int) < 0
    · rw [if_pos c]
      exact ⟨-1, rfl, fun h => by omega⟩
    · rw [if_neg c, wrap_small (by omega) (by omega)]
      obtain ⟨t, ht, hy⟩ := ih k (i + 1) _ (by omega) (by omega) (by omega) (by omega) (by omega : x - ((rdOf ByteArray.empty l i).size : Int) ≤ 1048576)
      refine ⟨t, ht, fun h y hm => ?_⟩
      have hl2 : i.toNat < l.length := by omega
      rw [List.drop_eq_getElem_cons hl2] at hm
      rcases List.mem_cons.1 hm with rfl | hm
      · have e : rdOf ByteArray.empty l i = l[i.toNat] := by
          unfold rdOf
          rw [List.getD_eq_getElem?_getD, List.getElem?_eq_getElem hl2]
          rfl
        rw [← e]
        omega
      · exact hy h y (by rw [show (i + 1).toNat = i.toNat + 1 from by omega]; exact hm)
theorem szStringS_k (l : List ByteArray) (hl : l.length ≤ 9223372036854775807) (hs : ∀ x ∈ l, x.size ≤ 9223372036854775807) (k : Nat) (hk : 1048577 < k) :
    ∃ t, laws_szStringS.f k l 1048576 = some t ∧ (¬ t < 0 → l.length ≤ 1048576 ∧ ∀ y ∈ l, y.size ≤ 1048576) := by
  unfold laws_szStringS.f
  have hw : wrap64 (1048576 - (l.length : Int)) = 1048576 - (l.length : Int) := by unfold wrap64; omega
  rw [hw]
  by_cases c : 1048576 - (l.length : Int) < 0
  · rw [if_pos c]
    exact ⟨-1, rfl, fun h => by omega⟩
  · rw [if_neg c]
    obtain ⟨t, ht, hy⟩ := szStringS_l0 l (by omega) hs l.length k 0 _ (by omega) (by omega) (by omega) (by omega : 0 ≤ 1048576 - (l.length : Int)) (by omega)
    exact ⟨t, ht, fun h => ⟨by omega, fun y hm => hy (by omega) y (by simpa using hm)⟩⟩

end Go.Proofs.Ytciminppeclofaa.Pure
