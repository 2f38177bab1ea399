/- Lemmas on the printed functions, without Go and memory. -/
import Derived.Test.YtiaelacjjbdolaaGreatDoorPx1
import Derived.Test.YtiaelacjjbdolaaGreatDoorPx4
import Derived.Test.YtiaelacjjbdolaaGreatDoorPx5
import Derived.Test.YtiaelacjjbdolaaGreatDoorQEntG
namespace Go.Proofs.YtiaelacjjbdolaaGreatDoor.Pure
open Go.RowKit Go.Proofs.YtiaelacjjbdolaaGreatDoor.Px Go.Proofs.YtiaelacjjbdolaaGreatDoorW.PrintWords Go.Proofs.YtiaelacjjbdolaaGreatDoorW.PrintLast
set_option linter.unusedVariables false
set_option linter.unusedSimpArgs false

abbrev E2 := S51
def en (x : E2) : En := ⟨x.f0, x.f1, x.f2, x.f3, x.f4, x.f5, x.f6, x.f7.f0, x.f7.f1, x.f7.f2, x.f7.f3, x.f8, x.f9, x.f10⟩
theorem fq (l : List E2) (i : Nat) (h : i < l.length) : aa l (i : Int) = l[i] := by
  unfold aa;rw [Int.toNat_natCast, List.getD_eq_getElem?_getD, List.getElem?_eq_getElem h];rfl
structure LOk (L : List E2) : Prop where
  l : L.length <= 1048576
  e : ∀ x ∈ L, gG (en x)
def lr (L : List E2) (i : Nat) : Bool := decide (i = 0) || Op.bytesLess (aa L ((i : Int) - 1)).f0.toList (aa L (i : Int)).f0.toList
def kg (L : List E2) (i : Nat) : Bool := jZ (en (aa L (i : Int))) && lr L i
def gH (L : List E2) : Bool := decide (L.length <= 8) && fB (kg L) 0 L.length
theorem lG (L : List E2) (i : Nat) {T : Nat -> Option Bool} {b : Bool} (hT : Ev T b) : Ev (fun k => if (i : Int) > 0 then (if Op.bytesLess (aa L ((i : Int) - 1)).f0.toList (aa L (i : Int)).f0.toList = true then T k else some false) else T k) (lr L i && b) := by
  unfold lr;by_cases h : i = 0;(·rw [decide_eq_true h];exact Ev.congr (fun _ => if_neg (by omega)) hT)
  · rw [decide_eq_false h, Bool.false_or]
    refine Ev.congr (fun _ => if_pos (by omega)) ?_
    cases Op.bytesLess (aa L ((i : Int) - 1)).f0.toList (aa L (i : Int)).f0.toList with
    | false => exact Ev.congr (fun _ => if_neg (by decide)) (Ev.now _)
    | true => exact Ev.congr (fun _ => if_pos rfl) hT
theorem np (L : List E2) (o : LOk L) : ∀ (d i : Nat), i + d = L.length -> Ev (fun k => bh.l0 k (i : Int) L) (fB (kg L) i d)
  | 0, i, hi => by
    refine Ev.step (f := fun _ => some true) (fun k => ?_) (Ev.now _);simp only [bh.l0];rw [if_neg (by omega)]
  | d + 1, i, hi => by
    (have hlt : i < L.length := by omega);have hl := o.l;have hv := val_s (en (aa L (i : Int))) (by rw [fq L i hlt]; exact o.e _ (List.getElem_mem hlt));rw [fB, kg, Bool.and_assoc];refine Ev.step (fun k => ?_) (eQ hv (lG L i (np L o d (i + 1) (by omega))) (Ev.now _));simp only [bh.l0, dh i L.length hlt o.l];rw [if_pos (by omega), if_pos (by omega)]
    show Option.bind _ _ = Option.bind _ _
    (congr 1);(funext t)
    cases t with
    | false => rfl
    | true =>
      rw [if_pos rfl, if_pos rfl];by_cases h : (i : Int) > 0;(·rw [if_pos h, if_pos h, aU (by omega) (by omega), if_pos (by omega), if_pos (by omega)]);(·rw [if_neg h, if_neg h])
theorem lib_s (L : List E2) (o : LOk L) : Ev (fun k => bh.f k L) (gH L) := by
  unfold bh.f gH;by_cases h : L.length <= 8;(·rw [decide_eq_true h, Bool.true_and];exact Ev.congr (fun _ => if_neg (by omega)) (np L o L.length 0 (by omega)));(·rw [decide_eq_false h, Bool.false_and];exact Ev.congr (fun _ => if_pos (by omega)) (Ev.now _))
theorem nK (L : List E2) (o : LOk L) : ∀ (d i : Nat), i + d = L.length -> Ev (fun k => an.l0 k L (L.length : Int) (i : Int) L) (fB (kg L) i d && decide (L.length <= 8))
  | 0, i, hi => by
    refine Ev.step (f := fun _ => some (decide (L.length <= 8))) (fun k => ?_) (Ev.now _);simp only [an.l0];rw [if_neg (by omega)];(congr 1);by_cases c : L.length <= 8;(·rw [decide_eq_true c, decide_eq_true (by omega)]);(·rw [decide_eq_false c, decide_eq_false (by omega)])
  | d + 1, i, hi => by
    (have hlt : i < L.length := by omega);have hl := o.l;have hv := val_i (en (aa L (i : Int))) (by rw [fq L i hlt]; exact o.e _ (List.getElem_mem hlt));rw [fB, kg, Bool.and_assoc, Bool.and_assoc];refine Ev.step (fun k => ?_) (eQ hv (lG L i (nK L o d (i + 1) (by omega))) (Ev.now _));simp only [an.l0, dh i L.length hlt o.l];rw [if_pos (by omega), if_pos (by omega), if_pos (by omega)]
    show Option.bind _ _ = Option.bind _ _
    (congr 1);(funext t)
    cases t with
    | false => rfl
    | true =>
      rw [if_pos rfl, if_pos rfl];by_cases h : (i : Int) > 0;(·rw [if_pos h, if_pos h, aU (by omega) (by omega), if_pos (by omega), if_pos (by omega)]);(·rw [if_neg h, if_neg h])
theorem lib_i (L : List E2) (o : LOk L) : Ev (fun k => an.f k L) (gH L) := by
  have := nK L o L.length 0 (by omega);rw [Bool.and_comm] at this;exact this
structure LV (L : List E2) : Prop where
  l : L.length <= 8
  v : ∀ (i : Int), 0 <= i -> i < (L.length : Int) -> EnV (en (aa L i))
theorem lib_v (L : List E2) (o : LOk L) (h : gH L = true) : LV L := by
  unfold gH at h;rw [Bool.and_eq_true, decide_eq_true_iff] at h;refine ⟨h.1, fun i h0 h1 => ?_⟩;have := fS _ _ _ h.2 i.toNat (by omega) (by omega);unfold kg at this;rw [Bool.and_eq_true, show ((i.toNat : Nat) : Int) = i from by omega] at this
  have hm := o.e (aa L i) (by
    have e := fq L i.toNat (by omega);rw [show ((i.toNat : Nat) : Int) = i from by omega] at e;rw [e]
    exact List.getElem_mem _)
  exact en_v _ hm this.1
abbrev atK (L : List E2) (a : ByteArray) : Int := ab.at L a
theorem my (L : List E2) (hl : L.length <= 1048576) (a : ByteArray) : ∀ (d i : Nat), i + d = L.length -> (∀ x ∈ L.take i, af.is a x = false) -> Ev (fun k => ck.l0 k a (i : Int) L) (atK L a)
  | 0, i, hi, hn => by
    rw [List.take_of_length_le (by omega)] at hn;rw [show atK L a = -1 from af.idx_no _ _ hn];refine Ev.step (f := fun _ => some (-1)) (fun k => ?_) (Ev.now _);simp only [ck.l0];rw [if_neg (by omega)]
  | d + 1, i, hi, hn => by
    (have hlt : i < L.length := by omega);have er := fq L i hlt;by_cases c : L[i].f0.toList = a.toList;(·rw [show atK L a = (i : Int) from af.idx_hit _ _ i hlt (beq_iff_eq.2 c) hn];refine Ev.step (f := fun _ => some (i : Int)) (fun k => ?_) (Ev.now _);simp only [ck.l0];rw [if_pos (by omega), if_pos (by omega), er, if_pos c]);(·refine Ev.step (fun k => ?_) (my L hl a d (i + 1) (by omega) (fun x hx => ?_));(·simp only [ck.l0];rw [if_pos (by omega), if_pos (by omega), er, if_neg c, dh i L.length hlt hl]);(·rw [List.take_succ_eq_append_getElem hlt, List.mem_append, List.mem_singleton] at hx;(rcases hx with hx | rfl);(·exact hn x hx);(·exact beq_eq_false_iff_ne.2 c)))
theorem kC (L : List E2) (hl : L.length <= 1048576) (a : ByteArray) : Ev (fun k => ck.f k L a) (atK L a) := my L hl a L.length 0 (by omega) (fun x hx => by cases hx)
structure KV (L : List E2) (K : List ByteArray) : Prop where
  l : K.length <= 8
  f : ∀ a ∈ K, 0 <= atK L a
theorem j5 (L : List E2) (a : ByteArray) : atK L a < (L.length : Int) := ab.idx_lt _ _
theorem mz (L : List E2) (a : ByteArray) (h : 0 <= atK L a) : (aa L (atK L a)).f0.toList = a.toList := by
  cases hf : L.findIdx? (af.is a) with
  | none =>
    have : atK L a = -1 := by
      show af.idx _ _ = -1
      unfold af.idx;rw [hf]
    omega
  | some i =>
    obtain ⟨hl, hp, _⟩ := List.findIdx?_eq_some_iff_getElem.1 hf
    have : atK L a = (i : Int) := by
      show af.idx _ _ = (i : Int)
      unfold af.idx;rw [hf]
    rw [this, fq L i hl];exact beq_iff_eq.1 hp

end Go.Proofs.YtiaelacjjbdolaaGreatDoor.Pure
