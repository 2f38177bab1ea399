/- Lemmas on the printed functions, without Go and memory. -/
import Derived.Test.YtjckholdcgjdnaaDoorPx5
import Derived.Test.YtjckholdcgjdnaaDoorPx8
import Derived.Test.YtjckholdcgjdnaaDoorQSort
namespace Go.Proofs.YtjckholdcgjdnaaDoor.Pure
open Go.RowKit Go.Proofs.YtjckholdcgjdnaaDoor.Px Go.Proofs.YtjckholdcgjdnaaDoorW.PrintWords Go.Proofs.YtjckholdcgjdnaaDoorW.PrintLast
set_option linter.unusedVariables false
set_option linter.unusedSimpArgs false

theorem wrap_in (a b : Int) : wrap64 (a + wrap64 b) = wrap64 (a + b) := by unfold wrap64; omega
theorem count_same (M : List Sp) (hl : M.length ≤ 100) : ∀ (d i : Nat) (n : Int), i + d = M.length → ∃ r, Ev (fun k => spec_l7Count.l0 k n M (i : Int)) r ∧ Ev (fun k => impl_countPages.l0 k n M (M.length : Int) (i : Int)) r
  | 0, i, n, hi => ⟨n, Ev.step (f := fun _ => some n) (fun k => by simp only [spec_l7Count.l0]; rw [if_neg (by omega)]) (Ev.now n), Ev.step (f := fun _ => some n) (fun k => by simp only [impl_countPages.l0]; rw [if_neg (by omega)]) (Ev.now n)⟩
  | d + 1, i, n, hi => by
    have hw : wrap64 ((i : Int) + 1) = ((i + 1 : Nat) : Int) := by rw [wrap_small (by omega) (by omega)]; omega
    obtain ⟨r, e1, e2⟩ := count_same M hl d (i + 1) (wrap64 (wrap64 (wrap64 (n + (rd_T27 M i).f2) - (rd_T27 M i).f1) + 1)) (by omega)
    have ew : wrap64 (n + wrap64 (wrap64 ((rd_T27 M i).f2 - (rd_T27 M i).f1) + 1)) = wrap64 (wrap64 (wrap64 (n + (rd_T27 M i).f2) - (rd_T27 M i).f1) + 1) := by unfold wrap64; omega
    refine ⟨r, Ev.step (fun k => ?_) e1, Ev.step (fun k => ?_) e2⟩
    · simp only [spec_l7Count.l0]
      rw [if_pos (by omega), if_pos (by omega), hw]
    · simp only [impl_countPages.l0]
      rw [if_pos (by omega), if_pos (by omega), if_pos (by omega), hw, ew]
theorem count_both (L : List Sp) (h : okl L = true) : ∃ r, Ev (fun k => spec_l7Count.f k L) r ∧ Ev (fun k => impl_countPages.f k L) r := by
  obtain ⟨R, hR, e1, e2⟩ := merge_both L h
  obtain ⟨r, f1, f2⟩ := count_same R hR R.length 0 0 (by omega)
  exact ⟨r, Ev.bind e1 f1, Ev.bind e2 f2⟩

end Go.Proofs.YtjckholdcgjdnaaDoor.Pure
