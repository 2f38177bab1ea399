/- The law FnExactCountPages, as a statement over numbers and lists: the program's function and the reference's answer alike, for every input; no further condition. -/
import Derived.Test.YtjckholdcgjdnaaPx1
import Derived.Test.YtjckholdcgjdnaaPx14
import Derived.Test.YtjckholdcgjdnaaPx21
import Derived.Test.YtjckholdcgjdnaaPx22
import Derived.Test.YtjckholdcgjdnaaPx3
import Derived.Test.YtjckholdcgjdnaaPx4
import Derived.Test.YtjckholdcgjdnaaQSort
namespace Go.Proofs.Ytjckholdcgjdnaa.Pure
open Go.RowKit Go.Proofs.Ytjckholdcgjdnaa.Px Go.Proofs.YtjckholdcgjdnaaW.PrintWords Go.Proofs.YtjckholdcgjdnaaW.PrintLast
set_option linter.unusedVariables false
set_option linter.unusedSimpArgs false

theorem wrap_in (a b : Int) : wrap64 (a + wrap64 b) = wrap64 (a + b) := by unfold wrap64; omega
theorem count_same (M : List Sp) (hl : M.length ≤ 100) : ∀ (d i : Nat) (n : Int), i + d = M.length → ∃ r, Ev (fun k => spec_l7Count.l0 k n M (i : Int)) r ∧ Ev (fun k => impl_countPages.l0 k n M (M.length : Int) (i : Int)) r
  | 0, i, n, hi => ⟨n, Ev.step (f := fun _ => some n) (fun k => by simp only [spec_l7Count.l0]; rw [if_neg (by omega)]) (Ev.now n), Ev.step (f := fun _ => some n) (fun k => by simp only [impl_countPages.l0]; rw [if_neg (by omega)]) (Ev.now n)⟩
  | d + 1, i, n, hi => by
    have hw : wrap64 ((i : Int) + 1) = ((i + 1 : Nat) : Int) := by rw [wrap_small (by omega) (by omega)]; omega
    obtain ⟨r, e1, e2⟩ := count_same M hl d (i + 1) (wrap64 (wrap64 (wrap64 (n + (rd_T40 M i).f2) - (rd_T40 M i).f1) + 1)) (by omega)
    have ew : wrap64 (n + wrap64 (wrap64 ((rd_T40 M i).f2 - (rd_T40 M i).f1) + 1)) = wrap64 (wrap64 (wrap64 (n + (rd_T40 M i).f2) - (rd_T40 M i).f1) + 1) := by unfold wrap64; omega
    refine ⟨r, Ev.step (fun k => ?_) e1, Ev.step (fun k => ?_) e2⟩
    · simp only [spec_l7Count.l0]
      rw [if_pos (by omega), if_pos (by omega), hw]
    · simp only [impl_countPages.l0]
      rw [if_pos (by omega), if_pos (by omega), if_pos (by omega), hw, ew]
theorem count_both (L : List Sp) (h : okl L = true) : ∃ r, Ev (fun k => spec_l7Count.f k L) r ∧ Ev (fun k => impl_countPages.f k L) r := by
  obtain ⟨R, hR, e1, e2⟩ := merge_both L h
  obtain ⟨r, f1, f2⟩ := count_same R hR R.length 0 0 (by omega)
  exact ⟨r, Ev.bind e1 f1, Ev.bind e2 f2⟩
theorem good_ev (L : List Sp) (hl : L.length ≤ 1048576) : Ev (fun k => spec_l7Good.f k L) (okl L) := ⟨L.length + 1, fun k hk => by
  have := specValid_k L hl k (by omega)
  unfold spec_IsValidPages.f at this
  obtain ⟨b, hb, hb2⟩ := Option.bind_eq_some_iff.1 this
  exact hb.trans hb2⟩
theorem Count_both (L : List Sp) (hl : L.length ≤ 1048576) : ∃ R : Int × Bool, Ev (fun k => spec_CountPages.f k L) R ∧ Ev (fun k => impl_CountPages.f k L) R := by
  unfold spec_CountPages.f impl_CountPages.f
  simp only [implValid_eq]
  cases h : okl L with
  | false =>
    refine ⟨(0, false), Ev.bind (good_ev L hl) ?_, ⟨0, fun k _ => rfl⟩⟩
    rw [h]
    exact ⟨0, fun k _ => rfl⟩
  | true =>
    obtain ⟨r, e1, e2⟩ := count_both L h
    refine ⟨(r, true), Ev.bind (good_ev L hl) ?_, Ev.bind (Ev.now true) (Ev.bind e2 (Ev.now _))⟩
    rw [h]
    exact Ev.bind e1 (Ev.now _)
theorem FnExactCountPages : laws_FnExactCountPages.Pure := by
  intro l hl hs
  obtain ⟨t, ht, hb⟩ := szPageRangeS_k l hl hs 8000000 (by omega)
  refine Ev.rounds (g := fun k => laws_FnExactCountPages.f k l) ?_
  unfold laws_FnExactCountPages.f
  refine Ev.bind (Ev.of (fun k => laws_szPageRangeS.mono l 1048576 k) ht) ?_
  by_cases c2 : t < 0
  · exact Ev.congr (fun k => if_pos c2) (Ev.now true)
  refine Ev.congr (fun k => if_neg c2) ?_
  obtain ⟨h1, h2⟩ := hb c2
  have e1 : Ev (fun k => laws_toPageRangeS.f k l) (l.map conv) := ⟨l.length + 1, fun k hk => toPageRangeS_k l h1 k (by omega)⟩
  have hm : (l.map conv).length ≤ 1048576 := by rw [List.length_map]; exact h1
  generalize l.map conv = L at *
  obtain ⟨R, g1, g2⟩ := Count_both L hm
  refine Ev.bind e1 (Ev.bind g1 (Ev.bind e1 (Ev.bind g2 (Ev.congr (fun k => if_pos rfl) ?_))))
  refine Ev.step (fun k => rfl) ?_
  simp only [laws_FnExactCountPages.j0, bne_self_eq_false, Bool.false_eq_true, if_false]
  refine Ev.bind e1 (Ev.bind (a := true) ⟨L.length + 1, fun k hk => eqPageRangeS_k L hm k (by omega)⟩ (Ev.congr (fun k => if_pos rfl) (Ev.now true)))

end Go.Proofs.Ytjckholdcgjdnaa.Pure
