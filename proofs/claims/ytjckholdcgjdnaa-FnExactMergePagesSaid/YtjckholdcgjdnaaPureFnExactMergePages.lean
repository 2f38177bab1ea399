/- The law FnExactMergePages, as a statement over numbers and lists: the program's function and the reference's answer alike, for every input; no further condition. -/
import Derived.Test.YtjckholdcgjdnaaPx1
import Derived.Test.YtjckholdcgjdnaaPx23
import Derived.Test.YtjckholdcgjdnaaPx24
import Derived.Test.YtjckholdcgjdnaaPx25
import Derived.Test.YtjckholdcgjdnaaPx26
import Derived.Test.YtjckholdcgjdnaaPx3
import Derived.Test.YtjckholdcgjdnaaPx4
import Derived.Test.YtjckholdcgjdnaaPx7
import Derived.Test.YtjckholdcgjdnaaQSort
import Derived.Test.YtjckholdcgjdnaaQMark
namespace Go.Proofs.Ytjckholdcgjdnaa.Pure
open Go.RowKit Go.Proofs.Ytjckholdcgjdnaa.Px Go.Proofs.YtjckholdcgjdnaaW.PrintWords Go.Proofs.YtjckholdcgjdnaaW.PrintLast
set_option linter.unusedVariables false
set_option linter.unusedSimpArgs false

theorem good_ev (L : List Sp) (hl : L.length ≤ 1048576) : Ev (fun k => spec_l7Good.f k L) (okl L) := ⟨L.length + 1, fun k hk => by
  have := specValid_k L hl k (by omega)
  unfold spec_IsValidPages.f at this
  obtain ⟨b, hb, hb2⟩ := Option.bind_eq_some_iff.1 this
  exact hb.trans hb2⟩
theorem Merge_both (L : List Sp) (hl : L.length ≤ 1048576) : ∃ R : List Sp × Bool, R.1.length ≤ 100 ∧ Ev (fun k => spec_MergePages.f k L) R ∧ Ev (fun k => impl_MergePages.f k L) R := by
  unfold spec_MergePages.f impl_MergePages.f
  simp only [implValid_eq]
  cases h : okl L with
  | false =>
    refine ⟨([], false), by simp, Ev.bind (good_ev L hl) ?_, ⟨0, fun k _ => rfl⟩⟩
    rw [h]
    exact ⟨0, fun k _ => rfl⟩
  | true =>
    obtain ⟨r, hr, e1, e2⟩ := merge_both L h
    refine ⟨(r, true), hr, Ev.bind (good_ev L hl) ?_, Ev.bind (Ev.now true) (Ev.bind e2 (Ev.now _))⟩
    rw [h]
    exact Ev.bind e1 (Ev.now _)
theorem FnExactMergePages : laws_FnExactMergePages.Pure := by
  intro l hl hs
  obtain ⟨t, ht, hb⟩ := szPageRangeS_k l hl hs 8000000 (by omega)
  refine Ev.rounds (g := fun k => laws_FnExactMergePages.f k l) ?_
  unfold laws_FnExactMergePages.f
  refine Ev.bind (Ev.of (fun k => laws_szPageRangeS.mono l 1048576 k) ht) ?_
  by_cases c2 : t < 0
  · exact Ev.congr (fun k => if_pos c2) (Ev.now true)
  refine Ev.congr (fun k => if_neg c2) ?_
  obtain ⟨h1, h2⟩ := hb c2
  have e1 : Ev (fun k => laws_toPageRangeS.f k l) (l.map conv) := ⟨l.length + 1, fun k hk => toPageRangeS_k l h1 k (by omega)⟩
  have hm : (l.map conv).length ≤ 1048576 := by rw [List.length_map]; exact h1
  generalize l.map conv = L at *
  obtain ⟨R, hR, g1, g2⟩ := Merge_both L hm
  have eqv : ∀ M : List Sp, M.length ≤ 1048576 → Ev (fun k => laws_eqPageRangeS.f k M M) true := fun M hM => ⟨M.length + 1, fun k hk => eqPageRangeS_k M hM k (by omega)⟩
  have mk : ∀ M : List Sp, M.length ≤ 1048576 → Ev (fun k => laws_markPageRangeS.f k M 1) (1 + 3 * (M.length : Int), marked 1 M) := fun M hM => ⟨M.length + 21, fun k hk => markPageRangeS_k M hM k (by omega)⟩
  have hd : ∀ M : List Sp, M.length ≤ 1048576 → Ev (fun k => laws_heldPageRangeS.f k (marked 1 M) 1) (1 + 3 * (M.length : Int)) := fun M hM => ⟨M.length + 21, fun k hk => heldPageRangeS_k M hM k (by omega)⟩
  refine Ev.bind e1 (Ev.bind g1 (Ev.bind e1 (Ev.bind g2 (Ev.bind (eqv R.1 (by omega)) (Ev.congr (fun k => if_pos rfl) ?_)))))
  refine Ev.step (fun k => rfl) ?_
  simp only [laws_FnExactMergePages.j0, bne_self_eq_false, Bool.false_eq_true, if_false]
  refine Ev.bind e1 (Ev.bind (eqv L hm) (Ev.congr (fun k => if_pos rfl) (Ev.bind (mk L hm) (Ev.congr (fun k => if_neg (by show ¬ (1 + 3 * (L.length : Int) < 0); omega)) (Ev.bind (eqv R.1 (by omega)) (Ev.congr (fun k => if_pos rfl) ?_))))))
  refine Ev.step (fun k => rfl) ?_
  simp only [laws_FnExactMergePages.j1, bne_self_eq_false, Bool.false_eq_true, if_false]
  refine Ev.bind (mk R.1 (by omega)) (Ev.bind (hd R.1 (by omega)) (Ev.congr (fun k => if_neg (by omega)) (Ev.congr (fun k => if_pos rfl) (Ev.bind e1 (Ev.bind g2 (Ev.bind (eqv R.1 (by omega)) (Ev.congr (fun k => if_pos rfl) ?_)))))))
  refine Ev.step (fun k => rfl) ?_
  simp only [laws_FnExactMergePages.j2, bne_self_eq_false, Bool.false_eq_true, if_false]
  exact Ev.bind (hd R.1 (by omega)) (Ev.congr (fun k => if_neg (by omega)) (Ev.congr (fun k => if_pos rfl) (Ev.now true)))

end Go.Proofs.Ytjckholdcgjdnaa.Pure
