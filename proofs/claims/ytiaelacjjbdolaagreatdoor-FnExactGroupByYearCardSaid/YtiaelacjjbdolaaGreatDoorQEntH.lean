/- Lemmas on the printed functions, without Go and memory. -/
import Derived.Test.YtiaelacjjbdolaaGreatDoorPx1
import Derived.Test.YtiaelacjjbdolaaGreatDoorPx3
import Derived.Test.YtiaelacjjbdolaaGreatDoorPx5
import Derived.Test.YtiaelacjjbdolaaGreatDoorQLibB
namespace Go.Proofs.YtiaelacjjbdolaaGreatDoor.Pure
open Go.RowKit Go.Proofs.YtiaelacjjbdolaaGreatDoor.Px Go.Proofs.YtiaelacjjbdolaaGreatDoorW.PrintWords Go.Proofs.YtiaelacjjbdolaaGreatDoorW.PrintLast
set_option linter.unusedVariables false
set_option linter.unusedSimpArgs false

theorem nt {α : Type} (z : α) (l : List α) (i : Int) (h0 : 0 <= i) (h1 : i < (l.length : Int)) (r : List α) (hr : r.length = l.length) (ht : r.take i.toNat = l.take i.toNat) :
    (r.set i.toNat (aC z l i)).take (i + 1).toNat = l.take (i + 1).toNat := by
  (have e : (i + 1).toNat = i.toNat + 1 := by omega);(have hl : i.toNat < l.length := by omega);rw [e, List.take_succ_eq_append_getElem (by rw [List.length_set]; omega), List.take_succ_eq_append_getElem hl, List.take_set_of_le (Nat.le_refl _), ht, List.getElem_set_self];unfold aC;rw [List.getD_eq_getElem?_getD, List.getElem?_eq_getElem hl];rfl
theorem jB (l : List ByteArray) (hl : l.length <= 1048576) (d : Nat) : ∀ (k : Nat) (i : Int) (r : List ByteArray), 0 <= i -> i + d = l.length -> d < k -> r.length = l.length -> r.take i.toNat = l.take i.toNat -> cF.l0 k l r i = some l := by
  induction d with
  | zero =>
    intro k i r h0 h1 hk hr ht
    obtain ⟨k, rfl⟩ : ∃ m, k = m + 1 := ⟨k - 1, by omega⟩
    simp only [cF.l0];rw [if_neg (by omega)];rw [List.take_of_length_le (by omega), List.take_of_length_le (by omega)] at ht;rw [ht]
  | succ d ih =>
    intro k i r h0 h1 hk hr ht
    obtain ⟨k, rfl⟩ : ∃ m, k = m + 1 := ⟨k - 1, by omega⟩
    simp only [cF.l0];rw [if_pos (by omega), if_pos h0, if_pos (by omega), aU (by omega) (by omega)];exact ih k (i + 1) _ (by omega) (by omega) (by omega) (by rw [List.length_set]; exact hr) (nt _ l i h0 (by omega) r hr ht)
theorem j6 (l : List ByteArray) (hl : l.length <= 1048576) (k : Nat) (hk : l.length < k) : cF.f k l = some l := by
  unfold cF.f;rw [if_pos (by omega), if_pos (by omega)];exact jB l hl l.length k 0 _ (by omega) (by omega) hk (by simp) (by simp)
theorem jD (l : List ByteArray) (hl : l.length <= 1048576) (d : Nat) : ∀ (k : Nat) (i : Int), 0 <= i -> i + d = l.length -> d < k -> aY.l0 k l l i = some true := by
  induction d with
  | zero =>
    intro k i h0 h1 hk
    obtain ⟨k, rfl⟩ : ∃ m, k = m + 1 := ⟨k - 1, by omega⟩
    simp only [aY.l0];rw [if_neg (by omega)]
  | succ d ih =>
    intro k i h0 h1 hk
    obtain ⟨k, rfl⟩ : ∃ m, k = m + 1 := ⟨k - 1, by omega⟩
    simp only [aY.l0];rw [if_pos (by omega), if_pos h0, if_pos (by omega), if_pos (by trivial), aU (by omega) (by omega)];exact ih k (i + 1) (by omega) (by omega) (by omega)
theorem iz (l : List ByteArray) (hl : l.length <= 1048576) (k : Nat) (hk : l.length < k) : aY.f k l l = some true := by
  unfold aY.f;rw [if_pos rfl];exact jD l hl l.length k 0 (by omega) (by omega) hk
abbrev Nm1 := eM
def cv (n : Nm1) : Nm := ⟨n.f0, n.f1, n.f2, n.f3⟩
theorem eT (a : Int) (n : Nat) (h0 : 0 <= a) (h1 : a <= 1048576) (hn : n <= 9223372036854775807) : wrap64 (a - (n : Int)) = a - (n : Int) := by unfold wrap64; omega
theorem szS_l (l : List ByteArray) (hl : l.length <= 1048576) (hs : ∀ x ∈ l, x.size <= 9223372036854775807) : ∀ (d i : Nat) (x : Int), i + d = l.length -> 0 <= x -> x <= 1048576 ->
    ∃ t, Ev (fun k => cw.l0 k l x (i : Int)) t /\ t <= x /\ (0 <= t -> ∀ y ∈ l.drop i, y.size <= 1048576)
  | 0, i, x, hi, h0, h1 => by
    rw [List.drop_of_length_le (by omega)]
    refine ⟨x, Ev.step (f := fun _ => some x) (fun k => ?_) (Ev.now _), Int.le_refl _, fun _ y hy => by cases hy⟩
    simp only [cw.l0]
    rw [if_neg (by omega)]
  | d + 1, i, x, hi, h0, h1 => by
    have hlt : i < l.length := by omega
    have hz := hs _ (List.getElem_mem hlt)
    rw [List.drop_eq_getElem_cons hlt]
    by_cases c : x - (l[i].size : Int) < 0
    · refine ⟨-1, Ev.step (f := fun _ => some (-1)) (fun k => ?_) (Ev.now _), by omega, fun h => by omega⟩
      simp only [cw.l0, dW l i hlt, eT x _ h0 h1 hz]
      rw [if_pos (by omega), if_pos (by omega), if_pos c]
    · obtain ⟨t, e, ht, hy⟩ := szS_l l hl hs d (i + 1) (x - (l[i].size : Int)) (by omega) (by omega) (by omega)
      refine ⟨t, Ev.step (fun k => ?_) e, by omega, fun h y hm => ?_⟩
      · simp only [cw.l0, dW l i hlt, eT x _ h0 h1 hz]
        rw [if_pos (by omega), if_pos (by omega), if_neg c, dh i l.length hlt hl]
      · rcases List.mem_cons.1 hm with rfl | hm
        · omega
        · exact hy h y hm
theorem szS (l : List ByteArray) (hl : l.length <= 9223372036854775807) (hs : ∀ x ∈ l, x.size <= 9223372036854775807) (a : Int) (h0 : 0 <= a) (h1 : a <= 1048576) :
    ∃ t, Ev (fun k => cw.f k l a) t /\ t <= a /\ (0 <= t -> l.length <= 1048576 /\ ∀ y ∈ l, y.size <= 1048576) := by
  unfold cw.f;rw [eT a _ h0 h1 hl];by_cases c : a - (l.length : Int) < 0;(·exact ⟨-1, Ev.congr (fun _ => if_pos c) (Ev.now _), by omega, fun h => by omega⟩);(·obtain ⟨t, e, ht, hy⟩ := szS_l l (by omega) hs l.length 0 (a - (l.length : Int)) (by omega) (by omega) (by omega);rw [List.drop_zero] at hy;exact ⟨t, Ev.congr (fun _ => if_neg c) e, by omega, fun h => ⟨by omega, hy h⟩⟩)
theorem sz1 {P Q : Prop} {F : Nat -> Option Int} (a : Int) (n : Nat) (hn : n <= 9223372036854775807) (h0 : 0 <= a) (h1 : a <= 1048576) (h : 0 <= a - (n : Int) -> ∃ t, Ev F t /\ t <= a - (n : Int) /\ (0 <= t -> P)) (q : n <= 1048576 -> P -> Q) :
    ∃ t, Ev (fun k => if (wrap64 (a - (n : Int))) < 0 then some (-1) else F k) t /\ t <= a /\ (0 <= t -> Q) := by
  rw [eT a n h0 h1 hn];by_cases c : a - (n : Int) < 0;(·exact ⟨-1, Ev.congr (fun _ => if_pos c) (Ev.now _), by omega, fun h => by omega⟩);(·obtain ⟨t, e, ht, p⟩ := h (by omega);exact ⟨t, Ev.congr (fun _ => if_neg c) e, by omega, fun ht => q (by omega) (p ht)⟩)
theorem szB {P Q : Prop} {G : Nat -> Option Int} {F : Nat -> Int -> Option Int} (a : Int) (hG : ∃ t, Ev G t /\ t <= a /\ (0 <= t -> P)) (h : ∀ t, 0 <= t -> t <= a -> P -> ∃ u, Ev (fun k => F k t) u /\ u <= t /\ (0 <= u -> Q)) (ha : -1 <= a) :
    ∃ t, Ev (fun k => (G k).bind fun t => if t < 0 then some (-1) else F k t) t /\ t <= a /\ (0 <= t -> Q) := by
  obtain ⟨t, e, ht, p⟩ := hG;by_cases c : t < 0;(·exact ⟨-1, Ev.bind e (Ev.congr (fun _ => if_pos c) (Ev.now _)), by omega, fun h => by omega⟩);(·obtain ⟨u, e2, hu, q⟩ := h t (by omega) ht (p (by omega));exact ⟨u, Ev.bind e (Ev.congr (fun _ => if_neg c) e2), by omega, q⟩)
theorem szNm (n : Nm1) (wf : gS n) (a : Int) (h0 : 0 <= a) (h1 : a <= 1048576) : ∃ t, Ev (fun k => ev.f k n.f0 n.f1 n.f2 n.f3 a) t /\ t <= a /\ (0 <= t -> jf (cv n)) := by
  obtain ⟨⟨w0, w1⟩, w2, w3, w4⟩ := wf;unfold ev.f;refine szB (P := n.f0.length <= 1048576 /\ ∀ y ∈ n.f0, y.size <= 1048576) a (szS n.f0 w0 w1 a h0 h1) (fun t t0 t1 p => ?_) (by omega);have e1 := eT t n.f1.size t0 (by omega) w2;refine sz1 (P := jf (cv n)) t n.f1.size w2 t0 (by omega) (fun u0 => ?_) (fun _ q => q);by_cases z1 : n.f1.size <= 1048576;(·rw [e1];refine sz1 (P := jf (cv n)) (t - (n.f1.size : Int)) n.f2.size w3 u0 (by omega) (fun u1 => ?_) (fun _ q => q);have e2 := eT (t - (n.f1.size : Int)) n.f2.size u0 (by omega) w3;rw [e2];by_cases z2 : n.f2.size <= 1048576;(·refine sz1 (P := True) (t - (n.f1.size : Int) - (n.f2.size : Int)) n.f3.size w4 u1 (by omega) (fun u2 => ?_) (fun z3 _ => ⟨p.1, p.2, z1, z2, z3⟩);rw [eT _ n.f3.size u1 (by omega) w4];exact ⟨_, Ev.now _, Int.le_refl _, fun _ => trivial⟩);(·omega));(·omega)
structure NsW (L : List Nm1) : Prop where
  l : L.length <= 9223372036854775807
  n : ∀ x ∈ L, gS x
theorem rdN1 (l : List Nm1) (i : Nat) (h : i < l.length) : cx l (i : Int) = l[i] := by
  unfold cx;rw [Int.toNat_natCast, List.getD_eq_getElem?_getD, List.getElem?_eq_getElem h];rfl
theorem szN_l (l : List Nm1) (hl : l.length <= 1048576) (hs : ∀ x ∈ l, gS x) : ∀ (d i : Nat) (x : Int), i + d = l.length -> 0 <= x -> x <= 1048576 ->
    ∃ t, Ev (fun k => cy.l0 k l x (i : Int)) t /\ t <= x /\ (0 <= t -> ∀ y ∈ l.drop i, jf (cv y))
  | 0, i, x, hi, h0, h1 => by
    rw [List.drop_of_length_le (by omega)]
    refine ⟨x, Ev.step (f := fun _ => some x) (fun k => ?_) (Ev.now _), Int.le_refl _, fun _ y hy => by cases hy⟩
    simp only [cy.l0]
    rw [if_neg (by omega)]
  | d + 1, i, x, hi, h0, h1 => by
    have hlt : i < l.length := by omega
    have hz := szNm l[i] (hs _ (List.getElem_mem hlt)) x h0 h1
    rw [List.drop_eq_getElem_cons hlt]
    obtain ⟨t, e, ht, hy⟩ := szB (F := fun k t => cy.l0 k l t ((i + 1 : Nat) : Int)) (Q := ∀ y ∈ l[i] :: l.drop (i + 1), jf (cv y)) x hz (fun t t0 t1 p => by
      obtain ⟨u, e, hu, hy⟩ := szN_l l hl hs d (i + 1) t (by omega) t0 (by omega)
      exact ⟨u, e, hu, fun h y hm => (List.mem_cons.1 hm).elim (fun e => e ▸ p) (hy h y)⟩) (by omega)
    refine ⟨t, Ev.step (fun k => ?_) e, ht, hy⟩
    simp only [cy.l0, rdN1 l i hlt]
    rw [if_pos (by omega), if_pos (by omega), dh i l.length hlt hl]
theorem szN (l : List Nm1) (w : NsW l) (a : Int) (h0 : 0 <= a) (h1 : a <= 1048576) : ∃ t, Ev (fun k => cy.f k l a) t /\ t <= a /\ (0 <= t -> iB (l.map cv)) := by
  have hl := w.l;unfold cy.f;rw [eT a _ h0 h1 hl];by_cases c : a - (l.length : Int) < 0;(·exact ⟨-1, Ev.congr (fun _ => if_pos c) (Ev.now _), by omega, fun h => by omega⟩);(·obtain ⟨t, e, ht, hy⟩ := szN_l l (by omega) w.n l.length 0 (a - (l.length : Int)) (by omega) (by omega) (by omega);rw [List.drop_zero] at hy;refine ⟨t, Ev.congr (fun _ => if_neg c) e, by omega, fun h => ⟨by rw [List.length_map]; omega, fun x hx => ?_⟩⟩;obtain ⟨y, hm, rfl⟩ := List.mem_map.1 hx;exact hy h y hm)
structure En1 where
  key : ByteArray
  kind : Int
  au : List Nm1
  ed : List Nm1
  ti : ByteArray
  co : ByteArray
  pu : ByteArray
  y : Int
  m : Int
  d : Int
  c : Bool
  vol : Int
  pg : ByteArray
  cr : ByteArray
def En1.cv (e : En1) : En := ⟨e.key, e.kind, e.au.map Pure.cv, e.ed.map Pure.cv, e.ti, e.co, e.pu, e.y, e.m, e.d, e.c, e.vol, e.pg, e.cr⟩
structure En1W (e : En1) : Prop where
  key : e.key.size <= 9223372036854775807
  au : NsW e.au
  ed : NsW e.ed
  ti : e.ti.size <= 9223372036854775807
  co : e.co.size <= 9223372036854775807
  pu : e.pu.size <= 9223372036854775807
  pg : e.pg.size <= 9223372036854775807
  cr : e.cr.size <= 9223372036854775807
abbrev szE (k : Nat) (e : En1) (a : Int) := eh.f k e.key e.kind e.au e.ed e.ti e.co e.pu e.y e.m e.d e.c e.vol e.pg e.cr a
theorem sz_e (e : En1) (w : En1W e) (a : Int) (h0 : 0 <= a) (h1 : a <= 1048576) : ∃ t, Ev (fun k => szE k e a) t /\ t <= a /\ (0 <= t -> gG e.cv) := by
  unfold szE eh.f;refine sz1 (P := e.key.size <= 1048576 -> gG e.cv) a e.key.size w.key h0 h1 (fun t0 => ?_) (fun z q => q z);rw [eT a _ h0 h1 w.key];refine szB (P := iB (e.au.map Pure.cv)) _ (szN e.au w.au _ t0 (by omega)) (fun t t0 t1 pa => ?_) (by omega);refine szB (P := iB (e.ed.map Pure.cv)) _ (szN e.ed w.ed _ t0 (by omega)) (fun t t0 t1 pe => ?_) (by omega);refine sz1 (P := e.ti.size <= 1048576 -> e.key.size <= 1048576 -> gG e.cv) t e.ti.size w.ti t0 (by omega) (fun u0 => ?_) (fun z q => q z);rw [eT t _ t0 (by omega) w.ti];refine sz1 (P := e.co.size <= 1048576 -> e.ti.size <= 1048576 -> e.key.size <= 1048576 -> gG e.cv) _ e.co.size w.co u0 (by omega) (fun u1 => ?_) (fun z q => q z);rw [eT _ _ u0 (by omega) w.co];refine sz1 (P := e.pu.size <= 1048576 -> e.co.size <= 1048576 -> e.ti.size <= 1048576 -> e.key.size <= 1048576 -> gG e.cv) _ e.pu.size w.pu u1 (by omega) (fun u2 => ?_) (fun z q => q z);rw [eT _ _ u1 (by omega) w.pu];refine sz1 (P := e.pg.size <= 1048576 -> e.pu.size <= 1048576 -> e.co.size <= 1048576 -> e.ti.size <= 1048576 -> e.key.size <= 1048576 -> gG e.cv) _ e.pg.size w.pg u2 (by omega) (fun u3 => ?_) (fun z q => q z);rw [eT _ _ u2 (by omega) w.pg];refine sz1 (P := True) _ e.cr.size w.cr u3 (by omega) (fun u4 => ?_) (fun z6 _ z5 z4 z3 z2 z1 => ⟨z1, pa, pe, z2, z3, z4, z5, z6⟩);rw [eT _ _ u3 (by omega) w.cr];exact ⟨_, Ev.now _, Int.le_refl _, fun _ => trivial⟩
theorem toNm (n : Nm1) (h : n.f0.length <= 1048576) : Ev (fun k => eu.f k n.f0 n.f1 n.f2 n.f3) (n.f0, n.f1, n.f2, n.f3) := by
  unfold eu.f;exact Ev.bind ⟨n.f0.length + 1, fun k hk => j6 n.f0 h k (by omega)⟩ (Ev.now _)
theorem toN_l (l : List Nm1) (hl : l.length <= 1048576) (hs : ∀ x ∈ l, x.f0.length <= 1048576) : ∀ (d i : Nat) (r : List Nm), i + d = l.length -> r.length = l.length -> r.take i = (l.map cv).take i -> Ev (fun k => cI.l0 k l r (i : Int)) (l.map cv)
  | 0, i, r, hi, hr, ht => by
    rw [List.take_of_length_le (by omega), List.take_of_length_le (by rw [List.length_map]; omega)] at ht;rw [<- ht];refine Ev.step (f := fun _ => some r) (fun k => ?_) (Ev.now _);simp only [cI.l0];rw [if_neg (by omega)]
  | d + 1, i, r, hi, hr, ht => by
    have hlt : i < l.length := by omega
    have ih := toN_l l hl hs d (i + 1) (r.set i (cv l[i])) (by omega) (by rw [List.length_set]; exact hr) (by
      rw [gQ r i (by omega), gJ cv l i hlt, ht])
    refine Ev.step (f := fun k => (eu.f k l[i].f0 l[i].f1 l[i].f2 l[i].f3).bind fun b => cI.l0 k l (r.set i (⟨b.1, b.2.1, b.2.2.1, b.2.2.2⟩ : Nm)) ((i + 1 : Nat) : Int)) (fun k => ?_) (Ev.bind (toNm l[i] (hs _ (List.getElem_mem hlt))) ih);simp only [cI.l0, rdN1 l i hlt];rw [if_pos (by omega), if_pos (by omega), dh i l.length hlt hl];(congr 1);(funext b);rw [if_pos (by omega), Int.toNat_natCast]
theorem toN (l : List Nm1) (o : iB (l.map cv)) : Ev (fun k => cI.f k l) (l.map cv) := by
  (have hl : l.length <= 1048576 := by have := o.l; rw [List.length_map] at this; exact this);unfold cI.f;refine Ev.congr (fun _ => (if_pos (by omega)).trans (if_pos (by omega))) ?_;exact toN_l l hl (fun x hx => (o.n (cv x) (List.mem_map_of_mem hx)).l) l.length 0 _ (by omega) (by simp) (by simp)
theorem to_e (e : En1) (o : gG e.cv) : Ev (fun k => ey.f k e.key e.kind e.au e.ed e.ti e.co e.pu e.y e.m e.d e.c e.vol e.pg e.cr) (e.key, e.kind, e.au.map cv, e.ed.map cv, e.ti, e.co, e.pu, e.y, e.m, e.d, e.c, e.vol, e.pg, e.cr) := by
  unfold ey.f;exact Ev.bind (toN e.au o.au) (Ev.bind (toN e.ed o.ed) (Ev.bind (Ev.now _) (Ev.now _)))
theorem eqNm (n : Nm) (h : n.f0.length <= 1048576) : Ev (fun k => ew.f k n.f0 n.f1 n.f2 n.f3 n.f0 n.f1 n.f2 n.f3) true := by
  unfold ew.f;exact Ev.bind ⟨n.f0.length + 1, fun k hk => iz n.f0 h k (by omega)⟩ (Ev.congr (fun _ => (if_pos rfl).trans ((if_pos rfl).trans ((if_pos rfl).trans (if_pos rfl)))) (Ev.now _))
theorem eqN_l (l : List Nm) (o : iB l) : ∀ (d i : Nat), i + d = l.length -> Ev (fun k => aW.l0 k l l (i : Int)) true
  | 0, i, hi => by
    refine Ev.step (f := fun _ => some true) (fun k => ?_) (Ev.now _);simp only [aW.l0];rw [if_neg (by omega)]
  | d + 1, i, hi => by
    (have hlt : i < l.length := by omega);refine Ev.step (f := fun k => (ew.f k l[i].f0 l[i].f1 l[i].f2 l[i].f3 l[i].f0 l[i].f1 l[i].f2 l[i].f3).bind fun t => if t = true then aW.l0 k l l ((i + 1 : Nat) : Int) else some false) (fun k => ?_) (Ev.bind (eqNm l[i] (o.n _ (List.getElem_mem hlt)).l) (Ev.congr (fun _ => if_pos rfl) (eqN_l l o d (i + 1) (by omega))));simp only [aW.l0, rdN l i hlt];rw [if_pos (by omega), if_pos (by omega), if_pos (by omega), dh i l.length hlt o.l]
theorem eqN (l : List Nm) (o : iB l) : Ev (fun k => aW.f k l l) true := by
  unfold aW.f;exact Ev.congr (fun _ => if_pos rfl) (eqN_l l o l.length 0 (by omega))
theorem eq_e (e : En) (o : gG e) : Ev (fun k => eF.f k e.key e.kind e.au e.ed e.ti e.co e.pu e.y e.m e.d e.c e.vol e.pg e.cr e.key e.kind e.au e.ed e.ti e.co e.pu e.y e.m e.d e.c e.vol e.pg e.cr) true := by
  have hd : eJ.f e.y e.m e.d e.c e.y e.m e.d e.c = some true := by
    unfold eJ.f;rw [if_pos rfl, if_pos rfl, if_pos rfl, if_neg (by simp)]
  unfold eF.f;refine Ev.congr (fun _ => (if_pos rfl).trans (if_pos rfl)) (Ev.bind (eqN e.au o.au) (Ev.congr (fun _ => if_pos rfl) (Ev.bind (eqN e.ed o.ed) ?_)));simp only [hd, Option.bind_some];exact Ev.congr (fun _ => (if_pos trivial).trans ((if_pos trivial).trans ((if_pos trivial).trans ((if_pos trivial).trans ((if_pos trivial).trans ((if_pos trivial).trans ((if_pos trivial).trans (if_pos trivial)))))))) (Ev.now _)

end Go.Proofs.YtiaelacjjbdolaaGreatDoor.Pure
