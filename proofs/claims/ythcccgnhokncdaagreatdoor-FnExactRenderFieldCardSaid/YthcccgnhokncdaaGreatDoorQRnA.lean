/- Lemmas on the printed functions, without Go and memory. -/
import Derived.Test.YthcccgnhokncdaaGreatDoorPx3
import Derived.Test.YthcccgnhokncdaaGreatDoorPx9
import Derived.Test.YthcccgnhokncdaaGreatDoorQEntD
namespace Go.Proofs.YthcccgnhokncdaaGreatDoor.Pure
open Go.RowKit Go.Proofs.YthcccgnhokncdaaGreatDoor.Px Go.Proofs.YthcccgnhokncdaaGreatDoorW.PrintWords Go.Proofs.YthcccgnhokncdaaGreatDoorW.PrintLast
set_option linter.unusedVariables false
set_option linter.unusedSimpArgs false

def hasB (l : List ByteArray) (s : ByteArray) : Bool := l.any (fun x => x.toList == s.toList)
theorem has_ls (l : List ByteArray) (hl : l.length ≤ 1048576) (s : ByteArray) : ∀ (d i : Nat), i + d = l.length → Ev (fun k => spec_l9In.l0 k l s (i : Int)) (hasB (l.drop i) s)
  | 0, i, hi => by
    rw [List.drop_of_length_le (by omega)]
    refine Ev.step (f := fun _ => some false) (fun k => ?_) (Ev.now _)
    simp only [spec_l9In.l0]
    rw [if_neg (by omega)]
  | d + 1, i, hi => by
    have hlt : i < l.length := by omega
    have ih := has_ls l hl s d (i + 1) (by omega)
    rw [List.drop_eq_getElem_cons hlt]
    by_cases c : l[i].toList = s.toList
    · rw [show hasB (l[i] :: l.drop (i + 1)) s = true from by unfold hasB; rw [List.any_cons, beq_iff_eq.2 c, Bool.true_or]]
      refine Ev.step (f := fun _ => some true) (fun k => ?_) (Ev.now _)
      simp only [spec_l9In.l0, word_in l i hlt]
      rw [if_pos (by omega), if_pos (by omega), if_pos c]
    · rw [show hasB (l[i] :: l.drop (i + 1)) s = hasB (l.drop (i + 1)) s from by unfold hasB; rw [List.any_cons, beq_eq_false_iff_ne.2 c, Bool.false_or]]
      refine Ev.step (fun k => ?_) ih
      simp only [spec_l9In.l0, word_in l i hlt]
      rw [if_pos (by omega), if_pos (by omega), if_neg c, next_i i l.length hlt hl]
theorem has_li (l : List ByteArray) (hl : l.length ≤ 1048576) (s : ByteArray) : ∀ (d i : Nat), i + d = l.length → ∃ r : Int, Ev (fun k => slices_Index_string_string.l0 k l s (l.length : Int) (i : Int)) r ∧ decide (r ≥ 0) = hasB (l.drop i) s
  | 0, i, hi => by
    rw [List.drop_of_length_le (by omega)]
    refine ⟨-1, Ev.step (f := fun _ => some (-1)) (fun k => ?_) (Ev.now _), rfl⟩
    simp only [slices_Index_string_string.l0]
    rw [if_neg (by omega)]
  | d + 1, i, hi => by
    have hlt : i < l.length := by omega
    obtain ⟨r, e, hr⟩ := has_li l hl s d (i + 1) (by omega)
    rw [List.drop_eq_getElem_cons hlt]
    by_cases c : s.toList = l[i].toList
    · rw [show hasB (l[i] :: l.drop (i + 1)) s = true from by unfold hasB; rw [List.any_cons, beq_iff_eq.2 c.symm, Bool.true_or]]
      refine ⟨(i : Int), Ev.step (f := fun _ => some (i : Int)) (fun k => ?_) (Ev.now _), decide_eq_true (by omega)⟩
      simp only [slices_Index_string_string.l0, word_in l i hlt]
      rw [if_pos (by omega), if_pos (by omega), if_pos (by omega), if_pos c]
    · rw [show hasB (l[i] :: l.drop (i + 1)) s = hasB (l.drop (i + 1)) s from by unfold hasB; rw [List.any_cons, beq_eq_false_iff_ne.2 (fun e => c e.symm), Bool.false_or]]
      refine ⟨r, Ev.step (fun k => ?_) e, hr⟩
      simp only [slices_Index_string_string.l0, word_in l i hlt]
      rw [if_pos (by omega), if_pos (by omega), if_pos (by omega), if_neg c, next_i i l.length hlt hl]
def fws : List ByteArray := [⟨#[97, 117, 116, 104, 111, 114, 115]⟩, ⟨#[101, 100, 105, 116, 111, 114, 115]⟩, ⟨#[116, 105, 116, 108, 101]⟩, ⟨#[99, 111, 110, 116, 97, 105, 110, 101, 114]⟩, ⟨#[112, 117, 98, 108, 105, 115, 104, 101, 114]⟩, ⟨#[100, 97, 116, 101]⟩, ⟨#[118, 111, 108, 117, 109, 101]⟩, ⟨#[112, 97, 103, 101, 115]⟩]
def styB (s : ByteArray) : Bool := (s.toList == [121, 101, 97, 114]) || ((s.toList == [107, 101, 121]) || hasB fws s)
theorem sty_s (s : ByteArray) : Ev (fun k => spec_l9Field.f k s) (styB s) := by
  have h := has_ls fws (by decide) s 8 0 rfl
  rw [List.drop_zero] at h
  unfold spec_l9Field.f styB
  by_cases c1 : s.toList = [121, 101, 97, 114]
  · rw [beq_iff_eq.2 c1]
    exact Ev.congr (fun _ => if_pos c1) (Ev.now _)
  · by_cases c2 : s.toList = [107, 101, 121]
    · rw [beq_iff_eq.2 c2, Bool.true_or, Bool.or_true]
      exact Ev.congr (fun _ => (if_neg c1).trans (if_pos c2)) (Ev.now _)
    · rw [beq_eq_false_iff_ne.2 c1, beq_eq_false_iff_ne.2 c2, Bool.false_or, Bool.false_or]
      refine Ev.congr (fun _ => (if_neg c1).trans (if_neg c2)) ?_
      show Ev (fun k => (spec_l9In.l0 k fws s ((0 : Nat) : Int)).bind fun t => some t) _
      exact Ev.bind h (Ev.now _)
theorem sty_i (s : ByteArray) : Ev (fun k => impl_isStyleField.f k s) (styB s) := by
  obtain ⟨r, h, hr⟩ := has_li fws (by decide) s 8 0 rfl
  rw [List.drop_zero] at hr
  have hf : Ev (fun k => impl_isField.f k s) (hasB fws s) := by
    rw [← hr]
    show Ev (fun k => (slices_Index_string_string.l0 k fws s (fws.length : Int) ((0 : Nat) : Int)).bind fun t => some (decide (t ≥ 0))) _
    exact Ev.bind h (Ev.now _)
  unfold impl_isStyleField.f
  refine Ev.bind hf ?_
  unfold styB
  cases hasB fws s with
  | true => rw [Bool.or_true, Bool.or_true]; exact Ev.congr (fun _ => if_pos rfl) (Ev.now _)
  | false =>
    refine Ev.congr (fun _ => if_neg (by decide)) ?_
    by_cases c1 : s.toList = [121, 101, 97, 114]
    · rw [beq_iff_eq.2 c1]
      exact Ev.congr (fun _ => if_pos c1) (Ev.now _)
    · rw [beq_eq_false_iff_ne.2 c1, Bool.false_or, Bool.or_false]
      exact Ev.congr (fun _ => if_neg c1) (Ev.now _)

end Go.Proofs.YthcccgnhokncdaaGreatDoor.Pure
