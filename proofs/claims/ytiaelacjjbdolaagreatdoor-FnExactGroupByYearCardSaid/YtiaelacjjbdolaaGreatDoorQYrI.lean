/- Lemmas on the printed functions, without Go and memory. -/
import Derived.Test.YtiaelacjjbdolaaGreatDoorPx2
import Derived.Test.YtiaelacjjbdolaaGreatDoorQYrB
namespace Go.Proofs.YtiaelacjjbdolaaGreatDoor.Pure
open Go.RowKit Go.Proofs.YtiaelacjjbdolaaGreatDoor.Px Go.Proofs.YtiaelacjjbdolaaGreatDoorW.PrintWords Go.Proofs.YtiaelacjjbdolaaGreatDoorW.PrintLast
set_option linter.unusedVariables false
set_option linter.unusedSimpArgs false

theorem iy (xs : List Int) (i : Nat) (h : i < xs.length) : rd xs (i : Int) = xs[i] := by
  unfold rd;rw [Int.toNat_natCast, List.getD_eq_getElem?_getD, List.getElem?_eq_getElem h];rfl
theorem ja : ∀ (a b : List Int) (y : Int), (∀ x ∈ a, x < y) -> eS (a ++ b) y = a ++ eS b y
  | [], b, y, _ => rfl
  | x :: a, b, y, h => by
    rw [List.cons_append, eS, if_pos (h x List.mem_cons_self), ja a b y (fun z hz => h z (List.mem_cons_of_mem _ hz)), List.cons_append]
theorem put_j (l : List Int) (hl : l.length <= 1048576) (y : Int) (i : Nat) (hi : i <= l.length) : Ev (fun k => aI.j2 k l y (i : Int) false) (l.take i ++ (y :: l.drop i)) := by
  refine Ev.step (f := fun _ => some (l.take i ++ (y :: l.drop i))) (fun k => ?_) (Ev.now _);(have e1 : (([] ++ l.take (i : Int).toNat ++ [y]) ++ l.drop (i : Int).toNat) = l.take i ++ (y :: l.drop i) := by rw [Int.toNat_natCast, List.nil_append, List.append_assoc]; rfl);simp only [aI.j2, Option.bind_some];rw [if_neg (by decide), if_pos (by omega), if_pos (by omega), if_pos (by rw [List.length_nil, List.length_take]; omega), if_pos (by rw [List.nil_append, List.length_take, List.length_cons, List.length_nil]; omega), if_pos (by rw [List.length_append, List.nil_append, List.length_take, List.length_drop, List.length_cons, List.length_nil]; omega), e1]
theorem put_l (l : List Int) (hl : l.length <= 1048576) (y : Int) : ∀ (d i : Nat), i + d = l.length -> (∀ x ∈ l.take i, x < y) -> Ev (fun k => aI.l0 k l y (i : Int)) (eS l y)
  | 0, i, hi, h => by
    have hj := put_j l hl y i (by omega)
    have e : eS l y = l.take i ++ (y :: l.drop i) := by
      rw [List.take_of_length_le (by omega)] at h ⊢;rw [List.drop_of_length_le (by omega)];have := ja l [] y h;(rwa [List.append_nil] at this)
    rw [e];refine Ev.step (f := fun k => aI.j1 k l y (i : Int)) (fun k => ?_) (Ev.step (fun k => ?_) hj);(·simp only [aI.l0];rw [if_neg (by omega)]);(·simp only [aI.j1];rw [if_neg (by omega)])
  | d + 1, i, hi, h => by
    (have hlt : i < l.length := by omega);by_cases c : l[i] < y;(·refine Ev.step (fun k => ?_) (put_l l hl y d (i + 1) (by omega) (fun x hx => ?_));(·simp only [aI.l0, iy l i hlt];rw [if_pos (by omega), if_pos (by omega), if_pos c, dh i l.length hlt hl]);(·rw [List.take_succ_eq_append_getElem hlt, List.mem_append, List.mem_singleton] at hx;exact hx.elim (h x) (fun e => e ▸ c)))
    · have e : eS l y = l.take i ++ eS (l[i] :: l.drop (i + 1)) y := by
        have := ja (l.take i) (l.drop i) y h;rw [List.take_append_drop] at this;rw [this, List.drop_eq_getElem_cons hlt]
      refine Ev.step (f := fun k => aI.j1 k l y (i : Int)) (fun k => ?_) ?_;(·simp only [aI.l0, iy l i hlt];rw [if_pos (by omega), if_pos (by omega), if_neg c]);(·by_cases q : l[i] = y;(·refine Ev.step (f := fun k => aI.j2 k l y (i : Int) true) (fun k => ?_) (Ev.step (f := fun _ => some (eS l y)) (fun k => ?_) (Ev.now _));(·simp only [aI.j1, iy l i hlt];rw [if_pos (by omega), if_pos (by omega), beq_iff_eq.2 q]);(·simp only [aI.j2];rw [if_pos trivial, e, eS, if_neg c, if_pos q, <- List.drop_eq_getElem_cons hlt, List.take_append_drop]));(·rw [e, eS, if_neg c, if_neg q, <- List.drop_eq_getElem_cons hlt];refine Ev.step (fun k => ?_) (put_j l hl y i (by omega));simp only [aI.j1, iy l i hlt];rw [if_pos (by omega), if_pos (by omega), beq_eq_false_iff_ne.2 q]))
theorem put_ev (l : List Int) (hl : l.length <= 1048576) (y : Int) : Ev (fun k => aI.f k l y) (eS l y) := put_l l hl y l.length 0 (by omega) (fun x hx => by cases hx)
theorem sort_p (xs : List Int) : (xs.mergeSort fun x y => decide (x <= y)).Pairwise (fun a b => a <= b) := by
  have h := List.pairwise_mergeSort (le := fun x y : Int => decide (x <= y)) (fun a b c h1 h2 => decide_eq_true (Int.le_trans (of_decide_eq_true h1) (of_decide_eq_true h2))) (fun a b => by rw [Bool.or_eq_true, decide_eq_true_iff, decide_eq_true_iff]; exact Int.le_total a b) xs;(exact h.imp fun h => of_decide_eq_true h)

end Go.Proofs.YtiaelacjjbdolaaGreatDoor.Pure
