/- Lemmas on the printed functions, without Go and memory. -/
import Derived.Test.YtciminppeclofaaPx6
import Derived.Test.YtciminppeclofaaPx8
import Derived.Test.YtciminppeclofaaPx9
import Derived.Test.YtciminppeclofaaQMarks
namespace Go.Proofs.Ytciminppeclofaa.Pure
open Go.RowKit Go.Proofs.Ytciminppeclofaa.Px Go.Proofs.YtciminppeclofaaW.PrintWords Go.Proofs.YtciminppeclofaaW.PrintLast
set_option linter.unusedVariables false
set_option linter.unusedSimpArgs false

/-- A text's bytes are printable. -/
def okb (b : UInt8) : Bool := !(decide ((b.toNat : Int) < 32)) && !(decide ((b.toNat : Int) > 126))
def allp (s : ByteArray) : Bool := s.data.toList.all okb
def isP (s : ByteArray) : Bool := allp s && decide ((s.size : Int) ≤ 60)
theorem l11Text_l0 (s : ByteArray) (hs : s.size ≤ 140737488351232) (d : Nat) : ∀ (k : Nat) (i : Int), 0 ≤ i → i + d = s.size → d < k → spec_l11Text.l0 k s i = some ((s.data.toList.drop i.toNat).all okb && decide ((s.size : Int) ≤ 60)) := by
  induction d with
  | zero =>
    intro k i h0 h1 hk
    obtain ⟨k, rfl⟩ : ∃ m, k = m + 1 := ⟨k - 1, by omega⟩
    rw [drop_end s i (by omega)]
    simp only [spec_l11Text.l0]
    rw [if_neg (by omega)]
    simp
  | succ d ih =>
    intro k i h0 h1 hk
    obtain ⟨k, rfl⟩ : ∃ m, k = m + 1 := ⟨k - 1, by omega⟩
    obtain ⟨b, hb, hv⟩ := drop_at s i h0 (by omega)
    simp only [spec_l11Text.l0]
    rw [if_pos (by omega), if_pos h0, hv, hb, List.all_cons, wrap_small (by omega) (by omega), ih k (i + 1) (by omega) (by omega) (by omega)]
    unfold okb
    by_cases c1 : (b.toNat : Int) < 32
    · rw [if_pos c1, decide_eq_true c1]; simp
    · rw [if_neg c1, decide_eq_false c1]
      by_cases c2 : (b.toNat : Int) > 126
      · rw [if_pos c2, decide_eq_true c2]; simp
      · rw [if_neg c2, decide_eq_false c2]; simp
theorem arePr_l0 (s : ByteArray) (hs : s.size ≤ 140737488351232) (d : Nat) : ∀ (k : Nat) (i : Int), 0 ≤ i → i + d = s.size → d < k → impl_arePrintable.l0 k s i = some ((s.data.toList.drop i.toNat).all okb) := by
  induction d with
  | zero =>
    intro k i h0 h1 hk
    obtain ⟨k, rfl⟩ : ∃ m, k = m + 1 := ⟨k - 1, by omega⟩
    rw [drop_end s i (by omega)]
    simp only [impl_arePrintable.l0]
    rw [if_neg (by omega)]
    simp
  | succ d ih =>
    intro k i h0 h1 hk
    obtain ⟨k, rfl⟩ : ∃ m, k = m + 1 := ⟨k - 1, by omega⟩
    obtain ⟨b, hb, hv⟩ := drop_at s i h0 (by omega)
    simp only [impl_arePrintable.l0]
    rw [if_pos (by omega), if_pos h0, hv, hb, List.all_cons, wrap_small (by omega) (by omega), ih k (i + 1) (by omega) (by omega) (by omega)]
    unfold okb
    by_cases c1 : (b.toNat : Int) < 32
    · rw [if_pos c1, decide_eq_true c1]; simp
    · rw [if_neg c1, decide_eq_false c1]
      by_cases c2 : (b.toNat : Int) > 126
      · rw [if_pos c2, decide_eq_true c2]; simp
      · rw [if_neg c2, decide_eq_false c2]; simp
theorem l11Text_k (s : ByteArray) (hs : s.size ≤ 140737488351232) (k : Nat) (hk : s.size < k) : spec_l11Text.f k s = some (isP s) :=
  l11Text_l0 s hs s.size k 0 (by omega) (by omega) hk
theorem isPart_k (s : ByteArray) (hs : s.size ≤ 140737488351232) (k : Nat) (hk : s.size < k) : impl_isPart.f k s = some (isP s) := by
  have h : impl_arePrintable.f k s = some (allp s) := arePr_l0 s hs s.size k 0 (by omega) (by omega) hk
  unfold impl_isPart.f isP
  rw [h]
  by_cases c : (s.size : Int) ≤ 60
  · rw [if_pos c, decide_eq_true c]; simp
  · rw [if_neg c, decide_eq_false c]; simp

end Go.Proofs.Ytciminppeclofaa.Pure
