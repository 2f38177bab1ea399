/- The law FnExactHasPage, as a statement over numbers and lists: the program's function and the reference's answer alike, for every input; no further condition. -/
import Derived.Test.YtjckholdcgjdnaaPx10
import Derived.Test.YtjckholdcgjdnaaPx2
import Derived.Test.YtjckholdcgjdnaaPx3
import Derived.Test.YtjckholdcgjdnaaPx8
import Derived.Test.YtjckholdcgjdnaaPx9
import Derived.Test.YtjckholdcgjdnaaQPage
namespace Go.Proofs.Ytjckholdcgjdnaa.Pure
open Go.RowKit Go.Proofs.Ytjckholdcgjdnaa.Px Go.Proofs.YtjckholdcgjdnaaW.PrintWords Go.Proofs.YtjckholdcgjdnaaW.PrintLast
set_option linter.unusedVariables false
set_option linter.unusedSimpArgs false

theorem letterBool (v t u q : Bool) (A : Bool × Bool) (h : A = if (v && (t && u)) = true then (q, true) else (false, false)) : (if (v && (t && u)) = true then some (q, true) else some (false, false)) = some A := by
  rw [h]
  split <;> rfl
theorem hasPage_l0 (l : List Sp) (hl : l.length ≤ 1048576) (a1 : ByteArray) (a2 : Int) (d : Nat) : ∀ (k : Nat) (i : Int), 0 ≤ i → i + d = l.length → d < k → spec_HasPage.l0 k l a1 a2 i = some ((l.drop i.toNat).any (impl_HasPage.hit a1 a2), true) := by
  induction d with
  | zero =>
    intro k i h0 h1 hk
    obtain ⟨k, rfl⟩ : ∃ m, k = m + 1 := ⟨k - 1, by omega⟩
    simp only [spec_HasPage.l0]
    rw [if_neg (by omega), drop_none l i (by omega)]
    rfl
  | succ d ih =>
    intro k i h0 h1 hk
    obtain ⟨k, rfl⟩ : ∃ m, k = m + 1 := ⟨k - 1, by omega⟩
    simp only [spec_HasPage.l0]
    have e : rd_T40 l i = l.getD i.toNat z40 := rfl
    have hin : ∀ a b c : Int, spec_l1In.f a b c = some (decide (a ≥ b) && decide (a ≤ c)) := impl_HasPage.inside_eq
    rw [if_pos (by omega), if_pos h0, hin, Option.bind_some, drop_cons z40 l i h0 (by omega), List.any_cons, e, wrap_small (by omega) (by omega), ih k (i + 1) (by omega) (by omega) (by omega)]
    generalize l.getD i.toNat z40 = x
    unfold impl_HasPage.hit
    by_cases c : x.f0.toList = a1.toList
    · rw [if_pos c, beq_iff_eq.2 c, Bool.true_and]
      cases (decide (a2 ≥ x.f1) && decide (a2 ≤ x.f2))
      · rw [if_neg (by decide), Bool.false_or]
      · rw [if_pos rfl, Bool.true_or]
    · rw [if_neg c, beq_eq_false_iff_ne.2 c, Bool.false_and, Bool.false_or]
theorem FnExactHasPage : laws_FnExactHasPage.Pure := by
  intro l a1 a2 hl hs h1 h2
  unfold laws_FnExactHasPage.f
  by_cases ca : (a1.size : Int) > 1048576
  · exact ⟨0, by rw [if_pos ca]⟩
  obtain ⟨t, ht, hb⟩ := szPageRangeS_k l hl hs 8000000 (by omega)
  refine ⟨8000000, ?_⟩
  rw [if_neg ca, ht, Option.bind_some]
  by_cases c2 : t < 0
  · rw [if_pos c2]
  · obtain ⟨h1, h2⟩ := hb c2
    have hm : (l.map conv).length ≤ 1048576 := by rw [List.length_map]; exact h1
    have e1 := toPageRangeS_k l h1 8000000 (by omega)
    have e1' := toPageRangeS_k l h1 7999999 (by omega)
    have e2 := eqPageRangeS_k (l.map conv) hm 7999999 (by omega)
    have g : spec_l7Good.f 8000000 (l.map conv) = some (okl (l.map conv)) := by
      have := specValid_k (l.map conv) hm 8000000 (by omega)
      unfold spec_IsValidPages.f at this
      obtain ⟨b, hb, hb2⟩ := Option.bind_eq_some_iff.1 this
      rw [hb, hb2]
    have p := hasPage_l0 (l.map conv) hm a1 a2 (l.map conv).length 7999999 0 (by omega) (by omega) (by omega)
    simp only [Int.toNat_zero, List.drop_zero] at p
    have hin : ∀ a b c : Int, spec_l1In.f a b c = some (decide (a ≥ b) && decide (a ≤ c)) := impl_HasPage.inside_eq
    have hin2 := impl_HasPage.inside_eq
    rw [if_neg c2]
    simp only [e1, Option.bind_some, spec_HasPage.f, impl_HasPage.f, g, implValid_eq, l7Letter_eq, isPartLetter_eq, hin, hin2]
    generalize (decide (a2 ≥ 1) && decide (a2 ≤ 99999)) = u
    generalize (l.map conv).any (impl_HasPage.hit a1 a2) = q at p
    cases okl (l.map conv) <;> cases letter a1 <;> cases u <;> simp [spec_HasPage.j0, laws_FnExactHasPage.j0, e1', e2, p]

end Go.Proofs.Ytjckholdcgjdnaa.Pure
