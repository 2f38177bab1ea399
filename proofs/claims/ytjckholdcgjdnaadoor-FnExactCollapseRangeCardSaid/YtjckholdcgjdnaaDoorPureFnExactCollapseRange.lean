/- The law FnExactCollapseRange, as a statement over numbers and lists: the program's function and the reference's answer alike, for every input; no further condition. -/
import Derived.Test.YtjckholdcgjdnaaDoorPx11
import Derived.Test.YtjckholdcgjdnaaDoorPx2
import Derived.Test.YtjckholdcgjdnaaDoorPx7
import Derived.Test.YtjckholdcgjdnaaDoorPx8
import Derived.Test.YtjckholdcgjdnaaDoorQColl
namespace Go.Proofs.YtjckholdcgjdnaaDoor.Pure
open Go.RowKit Go.Proofs.YtjckholdcgjdnaaDoor.Px Go.Proofs.YtjckholdcgjdnaaDoorW.PrintWords Go.Proofs.YtjckholdcgjdnaaDoorW.PrintLast
set_option linter.unusedVariables false
set_option linter.unusedSimpArgs false

def inS (st : Int) : Bool := decide (1 ≤ st) && decide (st ≤ 3)
theorem l1In_style (st : Int) : spec_l1In.f st 1 3 = some (inS st) := by
  unfold spec_l1In.f inS
  by_cases c : 1 ≤ st
  · rw [if_pos (by omega), decide_eq_true c]
    rfl
  · rw [if_neg (by omega), decide_eq_false c]
    rfl
theorem isStyle (st : Int) : impl_isRangeStyle.f st = some (inS st) := by
  unfold impl_isRangeStyle.f impl_inside.f inS
  by_cases c : 1 ≤ st
  · rw [if_pos (by omega), decide_eq_true c]
    rfl
  · rw [if_neg (by omega), decide_eq_false c]
    rfl
theorem Collapse_both (x : Sp) (st : Int) : ∃ R : ByteArray × Bool, Ev (fun k => spec_CollapseRange.f k x.f0 x.f1 x.f2 st) R ∧ Ev (fun k => impl_CollapseRange.f k x.f0 x.f1 x.f2 st) R := by
  unfold spec_CollapseRange.f impl_CollapseRange.f
  rw [l7Range_eq, isRange_eq]
  simp only [Option.bind_some, l1In_style, isStyle]
  cases h : okr x with
  | false => exact ⟨_, Ev.congr (fun _ => if_neg (by decide)) (Ev.now _), Ev.congr (fun _ => if_neg (by decide)) (Ev.now _)⟩
  | true =>
    cases inS st with
    | false => exact ⟨_, Ev.congr (fun _ => if_pos rfl) (Ev.congr (fun _ => if_neg (by decide)) (Ev.now _)), Ev.congr (fun _ => if_pos rfl) (Ev.congr (fun _ => if_neg (by decide)) (Ev.now _))⟩
    | true =>
      obtain ⟨r, _, e1, e2⟩ := collapse_both x.f0 x.f1 x.f2 st (fit_of x h)
      exact ⟨(r, true), Ev.congr (fun _ => if_pos rfl) (Ev.congr (fun _ => if_pos rfl) (Ev.bind e1 (Ev.now _))), Ev.congr (fun _ => if_pos rfl) (Ev.congr (fun _ => if_pos rfl) (Ev.bind e2 (Ev.now _)))⟩
theorem FnExactCollapseRange : laws_FnExactCollapseRange.Pure := by
  intro a x y st hw hst
  refine Ev.rounds (g := fun k => laws_FnExactCollapseRange.f k a x y st) ?_
  unfold laws_FnExactCollapseRange.f
  have hz : ∃ t, laws_szPageRange.f a x y 1048576 = some t := by
    unfold laws_szPageRange.f
    split <;> exact ⟨_, rfl⟩
  obtain ⟨t, ht⟩ := hz
  rw [ht]
  simp only [Option.bind_some, laws_toPageRange.f]
  by_cases c : t < 0
  · exact Ev.congr (fun _ => if_pos c) (Ev.now true)
  obtain ⟨R, e1, e2⟩ := Collapse_both ⟨a, x, y⟩ st
  refine Ev.congr (fun _ => if_neg c) (Ev.bind e1 (Ev.bind e2 (Ev.congr (fun _ => if_pos rfl) (Ev.congr (fun _ => if_neg ?_) (Ev.now true)))))
  simp

end Go.Proofs.YtjckholdcgjdnaaDoor.Pure
