/- Lemmas on the printed functions, without Go and memory. -/
import Derived.Test.YtiaelacjjbdolaaGreatDoorPx2
import Derived.Test.YtiaelacjjbdolaaGreatDoorPx4
import Derived.Test.YtiaelacjjbdolaaGreatDoorQEntD
namespace Go.Proofs.YtiaelacjjbdolaaGreatDoor.Pure
open Go.RowKit Go.Proofs.YtiaelacjjbdolaaGreatDoor.Px Go.Proofs.YtiaelacjjbdolaaGreatDoorW.PrintWords Go.Proofs.YtiaelacjjbdolaaGreatDoorW.PrintLast
set_option linter.unusedVariables false
set_option linter.unusedSimpArgs false

def orI (x y : Int) : Int := if x = 0 then y else x
theorem gI {x y : Int} {F : Nat -> Option Int} (h : Ev F y) : Ev (fun k => if x = 0 then F k else some x) (orI x y) := by
  unfold orI;by_cases c : x = 0;(·(rw [if_pos c]; exact Ev.congr (fun _ => if_pos c) h));(·(rw [if_neg c]; exact Ev.congr (fun _ => if_neg c) (Ev.now _)))
def orL : List Int -> Int
  | [] => 0
  | x :: l => orI x (orL l)
theorem orL_l (l : List Int) (hl : l.length <= 1000) : ∀ (d i : Nat), i + d = l.length -> Ev (fun k => cM.l0 k 0 l (l.length : Int) (i : Int)) (orL (l.drop i))
  | 0, i, hi => by
    rw [List.drop_of_length_le (by omega)];refine Ev.step (f := fun _ => some 0) (fun k => ?_) (Ev.now _);simp only [cM.l0];rw [if_neg (by omega)]
  | d + 1, i, hi => by
    have hlt : i < l.length := by omega
    have hr : rd l (i : Int) = l[i] := by
      unfold rd;rw [Int.toNat_natCast, List.getD_eq_getElem?_getD, List.getElem?_eq_getElem hlt];rfl
    rw [List.drop_eq_getElem_cons hlt];refine Ev.step (f := fun k => if l[i] = 0 then cM.l0 k 0 l (l.length : Int) ((i + 1 : Nat) : Int) else some l[i]) (fun k => ?_) (gI (orL_l l hl d (i + 1) (by omega)));simp only [cM.l0, hr];rw [if_pos (by omega), if_pos (by omega), if_pos (by omega), dh i l.length hlt (by omega)]
theorem lh (l : List Int) (hl : l.length <= 1000) : Ev (fun k => cM.f k l) (orL l) := by
  have := orL_l l hl l.length 0 (by omega);rw [List.drop_zero] at this;unfold cM.f;exact this
theorem ij (x : Int) : orI x 0 = x := by
  unfold orI;by_cases c : x = 0;(·rw [if_pos c, c]);(·rw [if_neg c])
theorem ng (c : Int) (h : fY c = true) : ag.low c = c := by
  unfold fY at h;simp only [Bool.and_eq_true, decide_eq_true_eq] at h;unfold ag.low;rw [if_neg];unfold ag.isU;simp only [Bool.and_eq_true, decide_eq_true_eq];omega
def nmC (a b : Nm) : Int := orI (cb (gn a.f2) (gn b.f2)) (orI (cb a.f1 b.f1) (orI (cb (gn (gh a)) (gn (gh b))) (cb (jx a) (jx b))))
theorem nm_s (a b : Nm) (va : NmV a) (vb : NmV b) : Ev (fun k => aV.f k a.f0 a.f1 a.f2 a.f3 b.f0 b.f1 b.f2 b.f3) (nmC a b) := by
  have h1 := va.f;have h2 := vb.f;have h3 := iI a va;have h4 := iI b vb;unfold aV.f nmC;rw [k7 a.f2 (by omega), k7 b.f2 (by omega)];simp only [Option.bind_some, cmp_s];refine gI (gI (Ev.bind (mA a va) ?_));simp only [k7 (gh a) (by omega), Option.bind_some];refine Ev.bind (mA b vb) ?_;simp only [k7 (gh b) (by omega), Option.bind_some];exact gI (Ev.bind (inv_s a va) (Ev.bind (inv_s b vb) (Ev.now _)))
theorem nm_i (a b : Nm) (va : NmV a) (vb : NmV b) (la : gn a.f1 = a.f1) (lb : gn b.f1 = b.f1) : Ev (fun k => br.f k a.f0 a.f1 a.f2 a.f3 b.f0 b.f1 b.f2 b.f3) (nmC a b) := by
  have h1 := va.f;have h2 := vb.f;have h3 := iI a va;have h4 := iI b vb;have h5 := va.p1;have h6 := vb.p1;unfold br.f nmC;rw [jr a.f2 (by omega), jr b.f2 (by omega), jr a.f1 (by omega), jr b.f1 (by omega), ni a va, ni b vb];simp only [Option.bind_some, mD, jr (gh a) (by omega), jr (gh b) (by omega), la, lb];refine Ev.bind (inv_i a va) (Ev.bind (inv_i b vb) ?_);have := lh [cb (gn a.f2) (gn b.f2), cb a.f1 b.f1, cb (gn (gh a)) (gn (gh b)), cb (jx a) (jx b)] (by simp);simp only [orL, ij] at this;exact Ev.bind this (Ev.now _)
def eI : List Nm -> List Nm -> Int
  | [], [] => 0
  | [], _ :: _ => -1
  | _ :: _, [] => 1
  | a :: l, b :: m => orI (nmC a b) (eI l m)
structure NmL (n : Nm) : Prop where
  v : NmV n
  lw : gn n.f1 = n.f1
theorem nms_s (x y : List Nm) (hx : ∀ n ∈ x, NmL n) (hy : ∀ n ∈ y, NmL n) (lx : x.length <= 1048576) (ly : y.length <= 1048576) : ∀ (d i : Nat), i + d = x.length -> i <= y.length -> Ev (fun k => aG.l0 k x y (i : Int)) (eI (x.drop i) (y.drop i))
  | 0, i, hi, hj => by
    rw [List.drop_of_length_le (by omega : x.length <= i)];refine Ev.step (f := fun k => aG.j1 k x y (i : Int) false) (fun k => ?_) (Ev.step (f := fun _ => some (eI [] (y.drop i))) (fun k => ?_) (Ev.now _));(·simp only [aG.l0];rw [if_neg (by omega)]);(·simp only [aG.j1];rw [if_neg (by decide)];by_cases c : i = y.length;(·rw [List.drop_of_length_le (by omega : y.length <= i), if_neg (by omega), if_neg (by omega)];rfl);(·rw [List.drop_eq_getElem_cons (by omega : i < y.length), if_pos (by omega)];rfl))
  | d + 1, i, hi, hj => by
    (have hlt : i < x.length := by omega);rw [List.drop_eq_getElem_cons hlt];by_cases c : i = y.length;(·rw [List.drop_of_length_le (by omega : y.length <= i)];refine Ev.step (f := fun k => aG.j1 k x y (i : Int) false) (fun k => ?_) (Ev.step (f := fun _ => some 1) (fun k => ?_) (Ev.now _));(·simp only [aG.l0];rw [if_pos (by omega), decide_eq_false (by omega)]);(·simp only [aG.j1];rw [if_neg (by decide), if_neg (by omega), if_pos (by omega)]));(·(have hlt2 : i < y.length := by omega);rw [List.drop_eq_getElem_cons hlt2];have hN := nm_s x[i] y[i] (hx _ (List.getElem_mem hlt)).v (hy _ (List.getElem_mem hlt2)).v;refine Ev.step (f := fun k => aG.j1 k x y (i : Int) true) (fun k => ?_) (Ev.step (f := fun k => (aV.f k x[i].f0 x[i].f1 x[i].f2 x[i].f3 y[i].f0 y[i].f1 y[i].f2 y[i].f3).bind fun t => if t = 0 then aG.l0 k x y ((i + 1 : Nat) : Int) else some t) (fun k => ?_) (Ev.bind hN (gI (nms_s x y hx hy lx ly d (i + 1) (by omega) (by omega)))));(·simp only [aG.l0];rw [if_pos (by omega), decide_eq_true (by omega)]);(·simp only [aG.j1, rdN x i hlt, rdN y i hlt2];rw [if_pos trivial, if_pos (by omega), if_pos (by omega), if_pos (by omega), dh i x.length hlt lx]))
theorem nms_i (x y : List Nm) (hx : ∀ n ∈ x, NmL n) (hy : ∀ n ∈ y, NmL n) (lx : x.length <= 1048576) (ly : y.length <= 1048576) : ∀ (d i : Nat), i + d = x.length -> i <= y.length -> Ev (fun k => db.l0 k x y x (x.length : Int) (i : Int)) (eI (x.drop i) (y.drop i))
  | 0, i, hi, hj => by
    rw [List.drop_of_length_le (by omega : x.length <= i)];refine Ev.step (f := fun _ => some (eI [] (y.drop i))) (fun k => ?_) (Ev.now _);simp only [db.l0];rw [if_neg (by omega)];by_cases c : i = y.length;(·rw [List.drop_of_length_le (by omega : y.length <= i), if_neg (by omega)];rfl);(·rw [List.drop_eq_getElem_cons (by omega : i < y.length), if_pos (by omega)];rfl)
  | d + 1, i, hi, hj => by
    (have hlt : i < x.length := by omega);rw [List.drop_eq_getElem_cons hlt];by_cases c : i = y.length;(·rw [List.drop_of_length_le (by omega : y.length <= i)];refine Ev.step (f := fun _ => some 1) (fun k => ?_) (Ev.now _);simp only [db.l0];rw [if_pos (by omega), if_pos (by omega), if_pos (by omega), if_pos (by omega)]);(·(have hlt2 : i < y.length := by omega);rw [List.drop_eq_getElem_cons hlt2];have na := hx _ (List.getElem_mem hlt);have nb := hy _ (List.getElem_mem hlt2);have hN := nm_i x[i] y[i] na.v nb.v na.lw nb.lw;refine Ev.step (f := fun k => (br.f k x[i].f0 x[i].f1 x[i].f2 x[i].f3 y[i].f0 y[i].f1 y[i].f2 y[i].f3).bind fun t => if t = 0 then db.l0 k x y x (x.length : Int) ((i + 1 : Nat) : Int) else some t) (fun k => ?_) (Ev.bind hN (gI (nms_i x y hx hy lx ly d (i + 1) (by omega) (by omega))));simp only [db.l0, rdN x i hlt, rdN y i hlt2];rw [if_pos (by omega), if_pos (by omega), if_pos (by omega), if_neg (by omega), if_pos (by omega), dh i x.length hlt lx])

end Go.Proofs.YtiaelacjjbdolaaGreatDoor.Pure
