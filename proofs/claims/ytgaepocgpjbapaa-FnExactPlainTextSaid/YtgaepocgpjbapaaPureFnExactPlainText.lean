/- The law FnExactPlainText, as a statement over numbers and lists: the program's function and the reference's answer alike, for every input; no further condition. -/
import Derived.Test.YtgaepocgpjbapaaPx3
import Derived.Test.YtgaepocgpjbapaaPx6
import Derived.Test.YtgaepocgpjbapaaPx8
import Derived.Test.YtgaepocgpjbapaaQSpan
namespace Go.Proofs.Ytgaepocgpjbapaa.Pure
open Go.RowKit Go.Proofs.Ytgaepocgpjbapaa.Px Go.Proofs.YtgaepocgpjbapaaW.PrintWords Go.Proofs.YtgaepocgpjbapaaW.PrintLast
set_option linter.unusedVariables false
set_option linter.unusedSimpArgs false

def cat (o : ByteArray) : List Sp → ByteArray
  | [] => o
  | x :: l => cat (o ++ x.f0) l
theorem plain_l0 (l : List Sp) (hl : l.length ≤ 1048576) (d : Nat) : ∀ (k : Nat) (i : Int) (o : ByteArray), 0 ≤ i → i + d = l.length → d < k → o.size + tot (l.drop i.toNat) ≤ 4194304 →
    spec_l10Plain.l0 k l o i = some (cat o (l.drop i.toNat)) ∧ impl_plainText.l0 k o l (l.length : Int) i = some (cat o (l.drop i.toNat)) := by
  induction d with
  | zero =>
    intro k i o h0 h1 hk hs
    obtain ⟨k, rfl⟩ : ∃ m, k = m + 1 := ⟨k - 1, by omega⟩
    rw [drop_none l i (by omega)]
    constructor
    · simp only [spec_l10Plain.l0]; rw [if_neg (by omega)]; rfl
    · simp only [impl_plainText.l0]; rw [if_neg (by omega)]; rfl
  | succ d ih =>
    intro k i o h0 h1 hk hs
    obtain ⟨k, rfl⟩ : ∃ m, k = m + 1 := ⟨k - 1, by omega⟩
    rw [drop_cons z44 l i h0 (by omega), tot_cons] at hs
    rw [drop_cons z44 l i h0 (by omega)]
    have e : rd_T44 l i = l.getD i.toNat z44 := rfl
    obtain ⟨g1, g2⟩ := ih k (i + 1) (o ++ (l.getD i.toNat z44).f0) (by omega) (by omega) (by omega) (by rw [ByteArray.size_append]; omega)
    constructor
    · simp only [spec_l10Plain.l0, e]
      rw [if_pos (by omega), if_pos h0, if_pos (by omega), wrap_small (by omega) (by omega), g1]
      rfl
    · simp only [impl_plainText.l0, e]
      rw [if_pos (by omega), if_pos h0, if_pos (by omega), if_pos (by omega), wrap_small (by omega) (by omega), g2]
      rfl

theorem FnExactPlainText : laws_FnExactPlainText.Pure := by
  intro l hl hs
  unfold laws_FnExactPlainText.f
  obtain ⟨t, ht, hb⟩ := szSpanS_k l hl hs 8000000 (by omega)
  refine ⟨8000000, ?_⟩
  rw [ht, Option.bind_some]
  by_cases c2 : t < 0
  · rw [if_pos c2]
  · obtain ⟨h1, h2⟩ := hb c2
    have hm : (l.map conv).length ≤ 1048576 := by rw [List.length_map]; exact h1
    have e1 := toSpanS_k l h1 8000000 (by omega)
    have e1' := toSpanS_k l h1 7999999 (by omega)
    have e2 := eqSpanS_k (l.map conv) hm 7999999 (by omega)
    have g := l10Good_k (l.map conv) hm h2 8000000 (by omega)
    have g' := areSpans_k (l.map conv) hm h2 8000000 (by omega)
    obtain ⟨p1, p2⟩ := plain_l0 (l.map conv) hm (l.map conv).length 8000000 0 (⟨#[]⟩ : ByteArray) (by omega) (by omega) (by omega) (by simp only [Int.toNat_zero, List.drop_zero]; have : (⟨#[]⟩ : ByteArray).size = 0 := rfl; omega)
    rw [if_neg c2]
    simp only [e1, Option.bind_some, spec_PlainText.f, impl_PlainText.f, g, g', spec_l10Plain.f, impl_plainText.f]
    cases goodS (l.map conv)
    · simp [laws_FnExactPlainText.j0, e1', e2]
    · simp only [if_true, p1, p2, Option.bind_some]
      simp [laws_FnExactPlainText.j0, e1', e2]

end Go.Proofs.Ytgaepocgpjbapaa.Pure
