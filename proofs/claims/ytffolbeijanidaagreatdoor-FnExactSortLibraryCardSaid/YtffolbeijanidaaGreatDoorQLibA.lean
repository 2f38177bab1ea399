/- Lemmas on the printed functions, without Go and memory. -/
import Derived.Test.YtffolbeijanidaaGreatDoorPx1
import Derived.Test.YtffolbeijanidaaGreatDoorPx2
import Derived.Test.YtffolbeijanidaaGreatDoorPx4
import Derived.Test.YtffolbeijanidaaGreatDoorPx5
import Derived.Test.YtffolbeijanidaaGreatDoorQEntG
namespace Go.Proofs.YtffolbeijanidaaGreatDoor.Pure
open Go.RowKit Go.Proofs.YtffolbeijanidaaGreatDoor.Px Go.Proofs.YtffolbeijanidaaGreatDoorW.PrintWords Go.Proofs.YtffolbeijanidaaGreatDoorW.PrintLast
set_option linter.unusedVariables false
set_option linter.unusedSimpArgs false

abbrev E2 := S56
def en (x : E2) : En := ⟨x.f0, x.f1, x.f2, x.f3, x.f4, x.f5, x.f6, x.f7.f0, x.f7.f1, x.f7.f2, x.f7.f3, x.f8, x.f9, x.f10⟩
theorem rdE_at (l : List E2) (i : Nat) (h : i < l.length) : rd_T56 l (i : Int) = l[i] := by
  unfold rd_T56;rw [Int.toNat_natCast, List.getD_eq_getElem?_getD, List.getElem?_eq_getElem h];rfl
structure LOk (L : List E2) : Prop where
  l : L.length ≤ 1048576
  e : ∀ x ∈ L, EnOk (en x)
def lessP (L : List E2) (i : Nat) : Bool := decide (i = 0) || Op.bytesLess (rd_T56 L ((i : Int) - 1)).f0.toList (rd_T56 L (i : Int)).f0.toList
def libP (L : List E2) (i : Nat) : Bool := valB (en (rd_T56 L (i : Int))) && lessP L i
def libB (L : List E2) : Bool := decide (L.length ≤ 8) && allI (libP L) 0 L.length
theorem ev_less (L : List E2) (i : Nat) {T : Nat → Option Bool} {b : Bool} (hT : Ev T b) : Ev (fun k => if (i : Int) > 0 then (if Op.bytesLess (rd_T56 L ((i : Int) - 1)).f0.toList (rd_T56 L (i : Int)).f0.toList = true then T k else some false) else T k) (lessP L i && b) := by
  unfold lessP;by_cases h : i = 0;(·rw [decide_eq_true h];exact Ev.congr (fun _ => if_neg (by omega)) hT)
  · rw [decide_eq_false h, Bool.false_or]
    refine Ev.congr (fun _ => if_pos (by omega)) ?_
    cases Op.bytesLess (rd_T56 L ((i : Int) - 1)).f0.toList (rd_T56 L (i : Int)).f0.toList with
    | false => exact Ev.congr (fun _ => if_neg (by decide)) (Ev.now _)
    | true => exact Ev.congr (fun _ => if_pos rfl) hT
theorem lib_ls (L : List E2) (o : LOk L) : ∀ (d i : Nat), i + d = L.length → Ev (fun k => spec_l4Good.l0 k (i : Int) L) (allI (libP L) i d)
  | 0, i, hi => by
    refine Ev.step (f := fun _ => some true) (fun k => ?_) (Ev.now _);simp only [spec_l4Good.l0];rw [if_neg (by omega)]
  | d + 1, i, hi => by
    (have hlt : i < L.length := by omega);have hl := o.l;have hv := val_s (en (rd_T56 L (i : Int))) (by rw [rdE_at L i hlt]; exact o.e _ (List.getElem_mem hlt));rw [allI, libP, Bool.and_assoc];refine Ev.step (fun k => ?_) (ev_if hv (ev_less L i (lib_ls L o d (i + 1) (by omega))) (Ev.now _));simp only [spec_l4Good.l0, next_i i L.length hlt o.l];rw [if_pos (by omega), if_pos (by omega)]
    show Option.bind _ _ = Option.bind _ _
    (congr 1);(funext t)
    cases t with
    | false => rfl
    | true =>
      rw [if_pos rfl, if_pos rfl];by_cases h : (i : Int) > 0;(·rw [if_pos h, if_pos h, wrap_small (by omega) (by omega), if_pos (by omega), if_pos (by omega)]);(·rw [if_neg h, if_neg h])
theorem lib_s (L : List E2) (o : LOk L) : Ev (fun k => spec_l4Good.f k L) (libB L) := by
  unfold spec_l4Good.f libB;by_cases h : L.length ≤ 8;(·rw [decide_eq_true h, Bool.true_and];exact Ev.congr (fun _ => if_neg (by omega)) (lib_ls L o L.length 0 (by omega)));(·rw [decide_eq_false h, Bool.false_and];exact Ev.congr (fun _ => if_pos (by omega)) (Ev.now _))
theorem lib_li (L : List E2) (o : LOk L) : ∀ (d i : Nat), i + d = L.length → Ev (fun k => impl_IsValidLibrary.l0 k L (L.length : Int) (i : Int) L) (allI (libP L) i d && decide (L.length ≤ 8))
  | 0, i, hi => by
    refine Ev.step (f := fun _ => some (decide (L.length ≤ 8))) (fun k => ?_) (Ev.now _);simp only [impl_IsValidLibrary.l0];rw [if_neg (by omega)];(congr 1);by_cases c : L.length ≤ 8;(·rw [decide_eq_true c, decide_eq_true (by omega)]);(·rw [decide_eq_false c, decide_eq_false (by omega)])
  | d + 1, i, hi => by
    (have hlt : i < L.length := by omega);have hl := o.l;have hv := val_i (en (rd_T56 L (i : Int))) (by rw [rdE_at L i hlt]; exact o.e _ (List.getElem_mem hlt));rw [allI, libP, Bool.and_assoc, Bool.and_assoc];refine Ev.step (fun k => ?_) (ev_if hv (ev_less L i (lib_li L o d (i + 1) (by omega))) (Ev.now _));simp only [impl_IsValidLibrary.l0, next_i i L.length hlt o.l];rw [if_pos (by omega), if_pos (by omega), if_pos (by omega)]
    show Option.bind _ _ = Option.bind _ _
    (congr 1);(funext t)
    cases t with
    | false => rfl
    | true =>
      rw [if_pos rfl, if_pos rfl];by_cases h : (i : Int) > 0;(·rw [if_pos h, if_pos h, wrap_small (by omega) (by omega), if_pos (by omega), if_pos (by omega)]);(·rw [if_neg h, if_neg h])
theorem lib_i (L : List E2) (o : LOk L) : Ev (fun k => impl_IsValidLibrary.f k L) (libB L) := by
  have := lib_li L o L.length 0 (by omega);rw [Bool.and_comm] at this;exact this
structure LV (L : List E2) : Prop where
  l : L.length ≤ 8
  v : ∀ (i : Int), 0 ≤ i → i < (L.length : Int) → EnV (en (rd_T56 L i))
theorem lib_v (L : List E2) (o : LOk L) (h : libB L = true) : LV L := by
  unfold libB at h;rw [Bool.and_eq_true, decide_eq_true_iff] at h;refine ⟨h.1, fun i h0 h1 => ?_⟩;have := allI_true _ _ _ h.2 i.toNat (by omega) (by omega);unfold libP at this;rw [Bool.and_eq_true, show ((i.toNat : Nat) : Int) = i from by omega] at this
  have hm := o.e (rd_T56 L i) (by
    have e := rdE_at L i.toNat (by omega);rw [show ((i.toNat : Nat) : Int) = i from by omega] at e;rw [e]
    exact List.getElem_mem _)
  exact en_v _ hm this.1
abbrev atK (L : List E2) (a : ByteArray) : Int := impl_sortKeys.at L a
theorem find_l (L : List E2) (hl : L.length ≤ 1048576) (a : ByteArray) : ∀ (d i : Nat), i + d = L.length → (∀ x ∈ L.take i, impl_entryIndex.is a x = false) → Ev (fun k => spec_l4Find.l0 k a (i : Int) L) (atK L a)
  | 0, i, hi, hn => by
    rw [List.take_of_length_le (by omega)] at hn;rw [show atK L a = -1 from impl_entryIndex.idx_no _ _ hn];refine Ev.step (f := fun _ => some (-1)) (fun k => ?_) (Ev.now _);simp only [spec_l4Find.l0];rw [if_neg (by omega)]
  | d + 1, i, hi, hn => by
    (have hlt : i < L.length := by omega);have er := rdE_at L i hlt;by_cases c : L[i].f0.toList = a.toList;(·rw [show atK L a = (i : Int) from impl_entryIndex.idx_hit _ _ i hlt (beq_iff_eq.2 c) hn];refine Ev.step (f := fun _ => some (i : Int)) (fun k => ?_) (Ev.now _);simp only [spec_l4Find.l0];rw [if_pos (by omega), if_pos (by omega), er, if_pos c]);(·refine Ev.step (fun k => ?_) (find_l L hl a d (i + 1) (by omega) (fun x hx => ?_));(·simp only [spec_l4Find.l0];rw [if_pos (by omega), if_pos (by omega), er, if_neg c, next_i i L.length hlt hl]);(·rw [List.take_succ_eq_append_getElem hlt, List.mem_append, List.mem_singleton] at hx;(rcases hx with hx | rfl);(·exact hn x hx);(·exact beq_eq_false_iff_ne.2 c)))
theorem find_s (L : List E2) (hl : L.length ≤ 1048576) (a : ByteArray) : Ev (fun k => spec_l4Find.f k L a) (atK L a) := find_l L hl a L.length 0 (by omega) (fun x hx => by cases hx)
structure KV (L : List E2) (K : List ByteArray) : Prop where
  l : K.length ≤ 8
  f : ∀ a ∈ K, 0 ≤ atK L a
theorem at_lt (L : List E2) (a : ByteArray) : atK L a < (L.length : Int) := impl_sortKeys.idx_lt _ _
end Go.Proofs.YtffolbeijanidaaGreatDoor.Pure
