/- The law FnExactFormatPages, as a statement over numbers and lists: the program's function and the reference's answer alike, for every input; no further condition. -/
import Derived.Test.YtjckholdcgjdnaaDoorPx12
import Derived.Test.YtjckholdcgjdnaaDoorPx14
import Derived.Test.YtjckholdcgjdnaaDoorPx15
import Derived.Test.YtjckholdcgjdnaaDoorPx17
import Derived.Test.YtjckholdcgjdnaaDoorPx19
import Derived.Test.YtjckholdcgjdnaaDoorQList
namespace Go.Proofs.YtjckholdcgjdnaaDoor.Pure
open Go.RowKit Go.Proofs.YtjckholdcgjdnaaDoor.Px Go.Proofs.YtjckholdcgjdnaaDoorW.PrintWords Go.Proofs.YtjckholdcgjdnaaDoorW.PrintLast
set_option linter.unusedVariables false
set_option linter.unusedSimpArgs false

theorem Format_both (L : List Sp) (hl : L.length ≤ 1048576) : ∃ R : ByteArray × Bool, Ev (fun k => spec_FormatPages.f k L) R ∧ Ev (fun k => impl_FormatPages.f k L) R := by
  unfold spec_FormatPages.f impl_FormatPages.f
  simp only [implValid_eq, Option.bind_some]
  cases h : okl L with
  | false =>
    have g := good_ev L hl
    rw [h] at g
    exact ⟨(⟨#[]⟩, false), Ev.bind g (Ev.congr (fun _ => if_neg (by decide)) (Ev.now _)), Ev.congr (fun _ => if_neg (by decide)) (Ev.now _)⟩
  | true =>
    have g := good_ev L hl
    rw [h] at g
    obtain ⟨_, e1, e2⟩ := list_both L h
    exact ⟨(LT L, true), Ev.bind g (Ev.congr (fun _ => if_pos rfl) (Ev.bind e1 (Ev.now _))), Ev.congr (fun _ => if_pos rfl) (Ev.bind e2 (Ev.now _))⟩
theorem FnExactFormatPages : laws_FnExactFormatPages.Pure := by
  intro l hl hs
  obtain ⟨t, ht, hb⟩ := szPageRangeS_k l hl hs 8000000 (by omega)
  refine Ev.rounds (g := fun k => laws_FnExactFormatPages.f k l) ?_
  unfold laws_FnExactFormatPages.f
  refine Ev.bind (Ev.of (fun k => laws_szPageRangeS.mono l 1048576 k) ht) ?_
  by_cases c2 : t < 0
  · exact Ev.congr (fun k => if_pos c2) (Ev.now true)
  refine Ev.congr (fun k => if_neg c2) ?_
  obtain ⟨h1, h2⟩ := hb c2
  have e1 : Ev (fun k => laws_toPageRangeS.f k l) (l.map conv) := ⟨l.length + 1, fun k hk => toPageRangeS_k l h1 k (by omega)⟩
  have hm : (l.map conv).length ≤ 1048576 := by rw [List.length_map]; exact h1
  generalize l.map conv = L at *
  obtain ⟨R, g1, g2⟩ := Format_both L hm
  refine Ev.bind e1 (Ev.bind g1 (Ev.bind e1 (Ev.bind g2 (Ev.congr (fun k => if_pos rfl) ?_))))
  refine Ev.step (fun k => rfl) ?_
  simp only [laws_FnExactFormatPages.j0, bne_self_eq_false, Bool.false_eq_true, if_false]
  refine Ev.bind e1 (Ev.bind (a := true) ⟨L.length + 1, fun k hk => eqPageRangeS_k L hm k (by omega)⟩ (Ev.congr (fun k => if_pos rfl) (Ev.now true)))

end Go.Proofs.YtjckholdcgjdnaaDoor.Pure
