/- Lemmas on the printed functions, without Go and memory. -/
import Derived.Test.YtiaelacjjbdolaaGreatDoorPx1
import Derived.Test.YtiaelacjjbdolaaGreatDoorPx3
import Derived.Test.YtiaelacjjbdolaaGreatDoorPx5
import Derived.Test.YtiaelacjjbdolaaGreatDoorQEntH
namespace Go.Proofs.YtiaelacjjbdolaaGreatDoor.Pure
open Go.RowKit Go.Proofs.YtiaelacjjbdolaaGreatDoor.Px Go.Proofs.YtiaelacjjbdolaaGreatDoorW.PrintWords Go.Proofs.YtiaelacjjbdolaaGreatDoorW.PrintLast
set_option linter.unusedVariables false
set_option linter.unusedSimpArgs false

abbrev E1 := S64
def en1 (x : E1) : En1 := ⟨x.f0, x.f1, x.f2, x.f3, x.f4, x.f5, x.f6, x.f7.f0, x.f7.f1, x.f7.f2, x.f7.f3, x.f8, x.f9, x.f10⟩
def cvE (x : E1) : E2 := ⟨x.f0, x.f1, x.f2.map cv, x.f3.map cv, x.f4, x.f5, x.f6, ⟨x.f7.f0, x.f7.f1, x.f7.f2, x.f7.f3⟩, x.f8, x.f9, x.f10⟩
theorem mE (l : List E1) (i : Nat) (h : i < l.length) : al l (i : Int) = l[i] := by
  unfold al;rw [Int.toNat_natCast, List.getD_eq_getElem?_getD, List.getElem?_eq_getElem h];rfl
theorem wfE (x : E1) (h : jP x) : En1W (en1 x) := by
  obtain ⟨p0, _, p2, p3, p4, p5, p6, _, _, p9, p10⟩ := h;exact ⟨p0, ⟨p2.1, p2.2⟩, ⟨p3.1, p3.2⟩, p4, p5, p6, p9, p10⟩
theorem szL_l (l : List E1) (hl : l.length <= 1048576) (hs : ∀ x ∈ l, jP x) : ∀ (d i : Nat) (x : Int), i + d = l.length -> 0 <= x -> x <= 1048576 ->
    ∃ t, Ev (fun k => cK.l0 k l x (i : Int)) t /\ t <= x /\ (0 <= t -> ∀ y ∈ l.drop i, gG (en1 y).cv)
  | 0, i, x, hi, h0, h1 => by
    rw [List.drop_of_length_le (by omega)]
    refine ⟨x, Ev.step (f := fun _ => some x) (fun k => ?_) (Ev.now _), Int.le_refl _, fun _ y hy => by cases hy⟩
    simp only [cK.l0]
    rw [if_neg (by omega)]
  | d + 1, i, x, hi, h0, h1 => by
    have hlt : i < l.length := by omega
    have hz := sz_e (en1 l[i]) (wfE _ (hs _ (List.getElem_mem hlt))) x h0 h1
    rw [List.drop_eq_getElem_cons hlt]
    obtain ⟨t, e, ht, hy⟩ := szB (F := fun k t => cK.l0 k l t ((i + 1 : Nat) : Int)) (Q := ∀ y ∈ l[i] :: l.drop (i + 1), gG (en1 y).cv) x hz (fun t t0 t1 p => by
      obtain ⟨u, e, hu, hy⟩ := szL_l l hl hs d (i + 1) t (by omega) t0 (by omega)
      exact ⟨u, e, hu, fun h y hm => (List.mem_cons.1 hm).elim (fun e => e ▸ p) (hy h y)⟩) (by omega)
    refine ⟨t, Ev.step (fun k => ?_) e, ht, hy⟩
    simp only [cK.l0, mE l i hlt]
    rw [if_pos (by omega), if_pos (by omega), dh i l.length hlt hl]
    rfl
theorem szL (l : List E1) (w : l.length <= 9223372036854775807 /\ ∀ x ∈ l, jP x) (a : Int) (h0 : 0 <= a) (h1 : a <= 1048576) : ∃ t, Ev (fun k => et.f k l a) t /\ t <= a /\ (0 <= t -> LOk (l.map cvE)) := by
  have hs : ∃ t, Ev (fun k => cK.f k l a) t /\ t <= a /\ (0 <= t -> LOk (l.map cvE)) := by
    unfold cK.f;rw [eT a _ h0 h1 w.1];by_cases c : a - (l.length : Int) < 0;(·exact ⟨-1, Ev.congr (fun _ => if_pos c) (Ev.now _), by omega, fun h => by omega⟩);(·obtain ⟨t, e, ht, hy⟩ := szL_l l (by omega) w.2 l.length 0 (a - (l.length : Int)) (by omega) (by omega) (by omega);rw [List.drop_zero] at hy;refine ⟨t, Ev.congr (fun _ => if_neg c) e, by omega, fun h => ⟨by rw [List.length_map]; omega, fun x hx => ?_⟩⟩;obtain ⟨y, hm, rfl⟩ := List.mem_map.1 hx;exact hy h y hm)
  exact szB (F := fun _ t => some t) a hs (fun t t0 t1 p => ⟨t, Ev.now _, Int.le_refl _, fun _ => p⟩) (by omega)
theorem toL_l (l : List E1) (o : LOk (l.map cvE)) (hl : l.length <= 1048576) : ∀ (d i : Nat) (r : List E2), i + d = l.length -> r.length = l.length -> r.take i = (l.map cvE).take i -> Ev (fun k => cV.l0 k l r (i : Int)) (l.map cvE)
  | 0, i, r, hi, hr, ht => by
    rw [List.take_of_length_le (by omega), List.take_of_length_le (by rw [List.length_map]; omega)] at ht;rw [<- ht];refine Ev.step (f := fun _ => some r) (fun k => ?_) (Ev.now _);simp only [cV.l0];rw [if_neg (by omega)]
  | d + 1, i, r, hi, hr, ht => by
    have hlt : i < l.length := by omega
    have ih := toL_l l o hl d (i + 1) (r.set i (cvE l[i])) (by omega) (by rw [List.length_set]; exact hr) (by
      rw [gQ r i (by omega), gJ cvE l i hlt, ht])
    have te := to_e (en1 l[i]) (o.e _ (List.mem_map_of_mem (List.getElem_mem hlt)));refine Ev.step (fun k => ?_) (Ev.bind (f := fun k b => cV.l0 k l (r.set i (⟨b.1, b.2.1, b.2.2.1, b.2.2.2.1, b.2.2.2.2.1, b.2.2.2.2.2.1, b.2.2.2.2.2.2.1, ⟨b.2.2.2.2.2.2.2.1, b.2.2.2.2.2.2.2.2.1, b.2.2.2.2.2.2.2.2.2.1, b.2.2.2.2.2.2.2.2.2.2.1⟩, b.2.2.2.2.2.2.2.2.2.2.2.1, b.2.2.2.2.2.2.2.2.2.2.2.2.1, b.2.2.2.2.2.2.2.2.2.2.2.2.2⟩ : E2)) ((i + 1 : Nat) : Int)) te ih);simp only [cV.l0, mE l i hlt];rw [if_pos (by omega), if_pos (by omega), dh i l.length hlt hl]
    show Option.bind _ _ = Option.bind _ _
    (congr 1);(funext b);rw [if_pos (by omega), Int.toNat_natCast]
theorem toL (l : List E1) (o : LOk (l.map cvE)) : Ev (fun k => dx.f k l) (l.map cvE) := by
  (have hl : l.length <= 1048576 := by have := o.l; rw [List.length_map] at this; exact this);unfold dx.f;refine Ev.bind ?_ (Ev.now _);unfold cV.f;refine Ev.congr (fun _ => (if_pos (by omega)).trans (if_pos (by omega))) ?_;exact toL_l l o hl l.length 0 _ (by omega) (by simp) (by simp)
theorem eqL_l (l : List E2) (o : LOk l) : ∀ (d i : Nat), i + d = l.length -> Ev (fun k => bi.l0 k l l (i : Int)) true
  | 0, i, hi => by
    refine Ev.step (f := fun _ => some true) (fun k => ?_) (Ev.now _);simp only [bi.l0];rw [if_neg (by omega)]
  | d + 1, i, hi => by
    (have hlt : i < l.length := by omega);have ee := eq_e (en l[i]) (o.e _ (List.getElem_mem hlt));refine Ev.step (fun k => ?_) (Ev.bind (f := fun k t => if t = true then bi.l0 k l l ((i + 1 : Nat) : Int) else some false) ee (Ev.congr (fun _ => if_pos rfl) (eqL_l l o d (i + 1) (by omega))));simp only [bi.l0, fq l i hlt];rw [if_pos (by omega), if_pos (by omega), if_pos (by omega), dh i l.length hlt o.l];rfl
theorem eqL (l : List E2) (o : LOk l) : Ev (fun k => dM.f k l l) true := by
  unfold dM.f;refine Ev.bind ?_ (Ev.congr (fun _ => if_pos rfl) (Ev.now _));unfold bi.f;exact Ev.congr (fun _ => if_pos rfl) (eqL_l l o l.length 0 (by omega))

end Go.Proofs.YtiaelacjjbdolaaGreatDoor.Pure
