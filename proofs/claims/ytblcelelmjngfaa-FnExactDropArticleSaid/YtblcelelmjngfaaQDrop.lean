/- Lemmas on the printed functions, without Go and memory. -/
import Derived.Test.YtblcelelmjngfaaPx3
import Derived.Test.YtblcelelmjngfaaPx5
import Derived.Test.YtblcelelmjngfaaPx6
import Derived.Test.YtblcelelmjngfaaPx9
import Derived.Test.YtblcelelmjngfaaQLow
namespace Go.Proofs.Ytblcelelmjngfaa.Pure
open Go.RowKit Go.Proofs.Ytblcelelmjngfaa.Px Go.Proofs.YtblcelelmjngfaaW.PrintWords Go.Proofs.YtblcelelmjngfaaW.PrintLast
set_option linter.unusedVariables false
set_option linter.unusedSimpArgs false

theorem drop_l0 (s : ByteArray) (hs : s.size ≤ 1048576) (ws : List ByteArray) (hw : ∀ w ∈ ws, w.size ≤ 4) (hl : ws.length ≤ 1000) (d : Nat) : ∀ (k : Nat) (i : Int), 0 ≤ i → i + d = ws.length → d < k →
    ∃ r, spec_l8Drop.l0 k s ws i = some r ∧ impl_dropArticle.l0 k s ws (ws.length : Int) i = some r := by
  induction d with
  | zero =>
    intro k i h0 h1 hk
    obtain ⟨k, rfl⟩ : ∃ m, k = m + 1 := ⟨k - 1, by omega⟩
    refine ⟨s, ?_, ?_⟩
    · simp only [spec_l8Drop.l0]; rw [if_neg (by omega)]
    · simp only [impl_dropArticle.l0]; rw [if_neg (by omega)]
  | succ d ih =>
    intro k i h0 h1 hk
    obtain ⟨k, rfl⟩ : ∃ m, k = m + 1 := ⟨k - 1, by omega⟩
    have hsz := hw _ (getD_mem ByteArray.empty ws i h0 (by omega))
    have e : rdOf ByteArray.empty ws i = ws.getD i.toNat ByteArray.empty := rfl
    have hwr : wrap64 (i + 1) = i + 1 := wrap_small (by omega) (by omega)
    have IH := ih k (i + 1) (by omega) (by omega) (by omega)
    simp only [spec_l8Drop.l0, impl_dropArticle.l0, e, hwr]
    generalize ws.getD i.toNat ByteArray.empty = w at *
    have hmn : mn (s.size : Int) 4 = if (s.size : Int) < 4 then (s.size : Int) else 4 := by unfold mn; split <;> omega
    rw [if_pos (show i < (ws.length : Int) from by omega), if_pos h0, if_pos (show i < (ws.length : Int) from by omega), if_pos h0, if_pos (show i < (ws.length : Int) from by omega)]
    have hm0 : 0 ≤ mn (s.size : Int) 4 := by rw [hmn]; split <;> omega
    have hm1 : mn (s.size : Int) 4 ≤ (s.size : Int) := by rw [hmn]; split <;> omega
    have hm4 : mn (s.size : Int) 4 ≤ 4 := by rw [hmn]; split <;> omega
    have hmw : (w.size : Int) ≤ (s.size : Int) → (w.size : Int) ≤ mn (s.size : Int) 4 := by intro h; rw [hmn]; split <;> omega
    rw [if_pos hm0, if_pos hm1]
    obtain ⟨t4, i4, s4, l4⟩ := lower_k (s.extract 0 (mn (s.size : Int) 4).toNat) (by rw [ByteArray.size_extract]; omega)
    rw [ext_list, List.drop_zero, Nat.sub_zero] at l4
    have z4 : t4.size = (mn (s.size : Int) 4).toNat := by
      rw [← data_length, l4, List.length_map, List.length_take, data_length]
      omega
    rw [i4, Option.bind_some]
    unfold strings_HasPrefix.f stringslite_HasPrefix.f
    by_cases c : (s.size : Int) ≥ (w.size : Int)
    · have c4 := hmw c
      rw [if_pos c, if_pos (show 0 ≤ (w.size : Int) from by omega), if_pos (show (w.size : Int) ≤ (s.size : Int) from c), if_pos (show (t4.size : Int) ≥ (w.size : Int) from by omega), if_pos (show (w.size : Int) ≤ (t4.size : Int) from by omega)]
      obtain ⟨tn, _, sn, ln⟩ := lower_k (s.extract 0 ((w.size : Int) : Int).toNat) (by rw [ByteArray.size_extract]; omega)
      rw [ext_list, List.drop_zero, Nat.sub_zero] at ln
      rw [sn, Option.bind_some, if_pos (show 0 ≤ (w.size : Int) from by omega), Option.bind_some, Option.bind_some]
      have key : (t4.extract 0 ((w.size : Int) : Int).toNat).toList = tn.toList := by
        rw [Lib.toList_data, Lib.toList_data, ext_list, List.drop_zero, Nat.sub_zero, l4, ln, ← List.map_take, List.take_take, Nat.min_eq_left (by omega)]
      rw [key]
      by_cases hq : tn.toList = w.toList
      · rw [if_pos hq, beq_iff_eq.mpr hq, if_pos rfl, if_pos (show 0 ≤ (w.size : Int) from by omega), if_pos (show (w.size : Int) ≤ (s.size : Int) from c)]
        exact ⟨_, rfl, rfl⟩
      · rw [if_neg hq, beq_eq_false_iff_ne.mpr hq, if_neg (show ¬ (false = true) from by decide)]
        exact IH
    · rw [if_neg c, if_neg (show ¬ (t4.size : Int) ≥ (w.size : Int) from by omega), Option.bind_some, Option.bind_some, if_neg (show ¬ (false = true) from by decide)]
      exact IH
def words3 : List ByteArray := [(⟨#[97, 32]⟩ : ByteArray), (⟨#[97, 110, 32]⟩ : ByteArray), (⟨#[116, 104, 101, 32]⟩ : ByteArray)]
theorem drop_k (s : ByteArray) (hs : s.size ≤ 1048576) (k : Nat) (hk : 5 ≤ k) : ∃ r, spec_l8Drop.f k s = some r ∧ impl_dropArticle.f k s = some r := by
  have := drop_l0 s hs words3 (by decide) (by decide) 3 k 0 (by omega) (by decide) (by omega)
  unfold spec_l8Drop.f impl_dropArticle.f
  rw [Option.bind_some]
  exact this

end Go.Proofs.Ytblcelelmjngfaa.Pure
