/- Lemmas on the printed functions, without Go and memory. -/
import Derived.Test.YtiaelacjjbdolaaGreatDoorPx5
import Derived.Test.YtiaelacjjbdolaaGreatDoorPx6
import Derived.Test.YtiaelacjjbdolaaGreatDoorQLibC
import Derived.Test.YtiaelacjjbdolaaGreatDoorQYrI
namespace Go.Proofs.YtiaelacjjbdolaaGreatDoor.Pure
open Go.RowKit Go.Proofs.YtiaelacjjbdolaaGreatDoor.Px Go.Proofs.YtiaelacjjbdolaaGreatDoorW.PrintWords Go.Proofs.YtiaelacjjbdolaaGreatDoorW.PrintLast
set_option linter.unusedVariables false
set_option linter.unusedSimpArgs false

theorem nO (n : Int) (h : n < 4611686018427387904) : Ev (fun k => aN.f k n) (MN.mtx n) := ⟨20, fun k hk => MN.mtx_k n h k hk⟩
noncomputable def mkd (n : Int) : List ByteArray -> List ByteArray
  | [] => []
  | _ :: l => MN.mtx n :: mkd (n + 1) l
theorem lv : ∀ (l : List ByteArray) (n : Int), (mkd n l).length = l.length
  | [], _ => rfl
  | _ :: l, n => by rw [mkd, List.length_cons, lv l, List.length_cons]
theorem m5 : ∀ (r o : List ByteArray) (n : Int), 0 <= n -> n + r.length <= 4611686018427387903 -> o.length + r.length <= 1048576 -> Ev (fun k => cl.l0 k (o ++ r) n (o.length : Int)) (n + (r.length : Int), o ++ mkd n r)
  | [], o, n, h0, h1, hl => by
    refine Ev.step (f := fun _ => some (n, o)) (fun k => ?_) (by rw [mkd, List.append_nil, List.length_nil, show n + ((0 : Nat) : Int) = n from by omega]; exact Ev.now _);simp only [cl.l0, List.append_nil];rw [if_neg (by omega)]
  | x :: r, o, n, h0, h1, hl => by
    rw [List.length_cons] at h1 hl;have ih := m5 r (o ++ [MN.mtx n]) (n + 1) (by omega) (by omega) (by rw [List.length_append, List.length_singleton]; omega);rw [List.append_assoc, List.append_assoc, List.length_append, List.length_singleton, show n + 1 + (r.length : Int) = n + ((r.length + 1 : Nat) : Int) from by omega] at ih;rw [mkd, List.length_cons];refine Ev.step (f := fun k => (aN.f k n).bind fun t => cl.l0 k (o ++ ([t] ++ r)) (n + 1) ((o.length + 1 : Nat) : Int)) (fun k => ?_) (Ev.bind (nO n (by omega)) ih);(have hlt : o.length < (o ++ x :: r).length := by rw [List.length_append, List.length_cons]; omega);simp only [cl.l0, dh o.length (o ++ x :: r).length hlt (by rw [List.length_append, List.length_cons]; omega), aU (x := n + 1) (by omega) (by omega)];rw [if_pos (by omega)];(congr 1);(funext t);rw [if_pos (by omega), Int.toNat_natCast, List.set_append_right _ _ (Nat.le_refl _), Nat.sub_self];rfl
theorem m7 : ∀ (r o : List ByteArray) (n : Int), 0 <= n -> n + r.length <= 4611686018427387903 -> o.length + r.length <= 1048576 -> Ev (fun k => bM.l0 k (o ++ mkd n r) n (o.length : Int)) (n + (r.length : Int))
  | [], o, n, h0, h1, hl => by
    refine Ev.step (f := fun _ => some n) (fun k => ?_) (by rw [List.length_nil, show n + ((0 : Nat) : Int) = n from by omega]; exact Ev.now _);simp only [bM.l0, mkd, List.append_nil];rw [if_neg (by omega)]
  | x :: r, o, n, h0, h1, hl => by
    rw [List.length_cons] at h1 hl;have ih := m7 r (o ++ [MN.mtx n]) (n + 1) (by omega) (by omega) (by rw [List.length_append, List.length_singleton]; omega);rw [List.append_assoc, List.length_append, List.length_singleton, show n + 1 + (r.length : Int) = n + ((r.length + 1 : Nat) : Int) from by omega] at ih;rw [mkd, List.length_cons];(have hz : (o ++ MN.mtx n :: mkd (n + 1) r).length = o.length + (r.length + 1) := by rw [List.length_append, List.length_cons, lv]);(have hlt : o.length < (o ++ MN.mtx n :: mkd (n + 1) r).length := by omega)
    have hw : aC ByteArray.empty (o ++ MN.mtx n :: mkd (n + 1) r) (o.length : Int) = MN.mtx n := by
      rw [dW _ o.length hlt, List.getElem_append_right (Nat.le_refl _)];simp
    refine Ev.step (f := fun k => (aN.f k n).bind fun t => if (MN.mtx n).toList = t.toList then bM.l0 k (o ++ MN.mtx n :: mkd (n + 1) r) (n + 1) ((o.length + 1 : Nat) : Int) else some (-1)) (fun k => ?_) (Ev.bind (nO n (by omega)) (Ev.congr (fun _ => if_pos rfl) ih));simp only [bM.l0, dh o.length _ hlt (by omega), aU (x := n + 1) (by omega) (by omega), hw];rw [if_pos (by omega), if_pos (by omega)]
theorem cn_b : ∀ (l : List Nat), (∀ n ∈ l, n <= 1048576) -> MN.cn l <= l.length * 1048579
  | [], _ => by simp [MN.cn]
  | n :: l, h => by
    have h1 := h n List.mem_cons_self;have h2 := cn_b l (fun m hm => h m (List.mem_cons_of_mem _ hm));simp only [MN.cn, List.length_cons];omega
theorem cn_n (l : List Nm) (h : iB l) : MN.cn (l.map MN.c1) <= 1099514773504 := by
  have := cn_b (l.map MN.c1) (fun n hn => by
    obtain ⟨x, hx, rfl⟩ := List.mem_map.1 hn
    exact (h.2 x hx).l)
  have h1 := h.1;rw [List.length_map] at this;omega
theorem ce_b : ∀ (L : List E2), (∀ x ∈ L, gG (en x)) -> ME.ce (L.map ME.c2) <= L.length * 2199029547020
  | [], _ => by simp [ME.ce]
  | x :: L, h => by
    have h1 := cn_n x.f2 (h x List.mem_cons_self).au;have h3 := cn_n x.f3 (h x List.mem_cons_self).ed;have h2 := ce_b L (fun m hm => h m (List.mem_cons_of_mem _ hm));simp only [List.map_cons, ME.ce, ME.c2, List.length_cons];omega
theorem markL (L : List E2) (o : LOk L) : ∃ m : Int, 0 <= m /\ m <= 2400000000000000000 /\ Ev (fun k => dj.f k L 1) m := by
  have h1 := ce_b L o.e;have h2 := o.l;refine ⟨1 + (ME.ce (L.map ME.c2) : Nat), by omega, by omega, 20, fun k hk => ?_⟩
  show dj.f k L 1 = _
  unfold dj.f eb.f;rw [if_pos ⟨⟨by omega, by omega⟩, hk⟩];rfl

theorem eqI_l (l : List Int) (hl : l.length <= 1048576) : ∀ (d i : Nat), i + d = l.length -> Ev (fun k => da.l0 k l l (i : Int)) true
  | 0, i, hi => by
    refine Ev.step (f := fun _ => some true) (fun k => ?_) (Ev.now _);simp only [da.l0];rw [if_neg (by omega)]
  | d + 1, i, hi => by
    (have hlt : i < l.length := by omega);refine Ev.step (fun k => ?_) (eqI_l l hl d (i + 1) (by omega));simp only [da.l0, dh i l.length hlt hl];rw [if_pos (by omega), if_pos (by omega), if_pos (by omega), if_pos trivial]
theorem eqI (l : List Int) (hl : l.length <= 1048576) : Ev (fun k => da.f k l l) true := by
  unfold da.f;exact Ev.congr (fun _ => if_pos rfl) (eqI_l l hl l.length 0 (by omega))
theorem mw (l : List (List ByteArray)) (i : Nat) (h : i < l.length) : ex l (i : Int) = l[i] := by
  unfold ex;rw [Int.toNat_natCast, List.getD_eq_getElem?_getD, List.getElem?_eq_getElem h];rfl
theorem eqG_l (l : List (List ByteArray)) (hl : l.length <= 1048576) (he : ∀ x ∈ l, x.length <= 8) : ∀ (d i : Nat), i + d = l.length -> Ev (fun k => bp.l0 k l l (i : Int)) true
  | 0, i, hi => by
    refine Ev.step (f := fun _ => some true) (fun k => ?_) (Ev.now _);simp only [bp.l0];rw [if_neg (by omega)]
  | d + 1, i, hi => by
    (have hlt : i < l.length := by omega);have h8 := he _ (List.getElem_mem hlt);refine Ev.step (f := fun k => (aY.f k l[i] l[i]).bind fun t => if t = true then bp.l0 k l l ((i + 1 : Nat) : Int) else some false) (fun k => ?_) (Ev.bind (a := true) ⟨l[i].length + 1, fun k hk => iz l[i] (by omega) k (by omega)⟩ (Ev.congr (fun _ => if_pos rfl) (eqG_l l hl he d (i + 1) (by omega))));simp only [bp.l0, mw l i hlt, dh i l.length hlt hl];rw [if_pos (by omega), if_pos (by omega), if_pos (by omega)]
theorem eqG (l : List (List ByteArray)) (hl : l.length <= 1048576) (he : ∀ x ∈ l, x.length <= 8) : Ev (fun k => bp.f k l l) true := by
  unfold bp.f;exact Ev.congr (fun _ => if_pos rfl) (eqG_l l hl he l.length 0 (by omega))
def mkI (n : Int) : List Int -> List Int
  | [] => []
  | _ :: l => n :: mkI (n + 1) l
theorem kN : ∀ (l : List Int) (n : Int), (mkI n l).length = l.length
  | [], _ => rfl
  | _ :: l, n => by rw [mkI, List.length_cons, kN l, List.length_cons]
theorem lJ : ∀ (r o : List Int) (n : Int), 0 <= n -> n + r.length <= 4611686018427387903 -> o.length + r.length <= 1048576 -> Ev (fun k => de.l0 k (o ++ r) n (o.length : Int)) (n + (r.length : Int), o ++ mkI n r)
  | [], o, n, h0, h1, hl => by
    refine Ev.step (f := fun _ => some (n, o)) (fun k => ?_) (by rw [mkI, List.append_nil, List.length_nil, show n + ((0 : Nat) : Int) = n from by omega]; exact Ev.now _);simp only [de.l0, List.append_nil];rw [if_neg (by omega)]
  | x :: r, o, n, h0, h1, hl => by
    rw [List.length_cons] at h1 hl;have ih := lJ r (o ++ [n]) (n + 1) (by omega) (by omega) (by rw [List.length_append, List.length_singleton]; omega);rw [List.append_assoc, List.append_assoc, List.length_append, List.length_singleton, show n + 1 + (r.length : Int) = n + ((r.length + 1 : Nat) : Int) from by omega] at ih;rw [mkI, List.length_cons];refine Ev.step (fun k => ?_) ih;(have hlt : o.length < (o ++ x :: r).length := by rw [List.length_append, List.length_cons]; omega);simp only [de.l0, dh o.length (o ++ x :: r).length hlt (by rw [List.length_append, List.length_cons]; omega), aU (x := n + 1) (by omega) (by omega)];rw [if_pos (by omega), if_pos (by omega), Int.toNat_natCast, List.set_append_right _ _ (Nat.le_refl _), Nat.sub_self];rfl
theorem ld : ∀ (r o : List Int) (n : Int), 0 <= n -> n + r.length <= 4611686018427387903 -> o.length + r.length <= 1048576 -> Ev (fun k => cT.l0 k (o ++ mkI n r) n (o.length : Int)) (n + (r.length : Int))
  | [], o, n, h0, h1, hl => by
    refine Ev.step (f := fun _ => some n) (fun k => ?_) (by rw [List.length_nil, show n + ((0 : Nat) : Int) = n from by omega]; exact Ev.now _);simp only [cT.l0, mkI, List.append_nil];rw [if_neg (by omega)]
  | x :: r, o, n, h0, h1, hl => by
    rw [List.length_cons] at h1 hl;have ih := ld r (o ++ [n]) (n + 1) (by omega) (by omega) (by rw [List.length_append, List.length_singleton]; omega);rw [List.append_assoc, List.length_append, List.length_singleton, show n + 1 + (r.length : Int) = n + ((r.length + 1 : Nat) : Int) from by omega] at ih;rw [mkI, List.length_cons];(have hz : (o ++ n :: mkI (n + 1) r).length = o.length + (r.length + 1) := by rw [List.length_append, List.length_cons, kN]);(have hlt : o.length < (o ++ n :: mkI (n + 1) r).length := by omega)
    have hw : rd (o ++ n :: mkI (n + 1) r) (o.length : Int) = n := by
      rw [iy _ o.length hlt, List.getElem_append_right (Nat.le_refl _)];simp
    refine Ev.step (fun k => ?_) ih;simp only [cT.l0, dh o.length _ hlt (by omega), aU (x := n + 1) (by omega) (by omega), hw];rw [if_pos (by omega), if_pos (by omega), if_pos trivial];rfl
def fW : List (List ByteArray) -> Nat
  | [] => 0
  | x :: l => x.length + fW l
noncomputable def mkG (n : Int) : List (List ByteArray) -> List (List ByteArray)
  | [] => []
  | x :: l => mkd n x :: mkG (n + x.length) l
theorem kL : ∀ (l : List (List ByteArray)) (n : Int), (mkG n l).length = l.length
  | [], _ => rfl
  | x :: l, n => by rw [mkG, List.length_cons, kL l, List.length_cons]
theorem mV : ∀ (l : List (List ByteArray)), (∀ x ∈ l, x.length <= 8) -> fW l <= l.length * 8
  | [], _ => by simp [fW]
  | x :: l, h => by
    have h1 := h x List.mem_cons_self;have h2 := mV l (fun y hy => h y (List.mem_cons_of_mem _ hy));simp only [fW, List.length_cons];omega
theorem kF : ∀ (l : List (List ByteArray)) (n : Int), 0 <= n -> n + fW l <= 4611686018427387903 -> (∀ x ∈ l, x.length <= 8) -> Ev (fun k => bj.g k l n) (n + (fW l : Int), mkG n l)
  | [], n, h0, h1, he => by
    simp only [bj.g, fW, mkG];rw [show n + ((0 : Nat) : Int) = n from by omega];exact Ev.now _
  | x :: l, n, h0, h1, he => by
    simp only [fW] at h1;have h8 := he x List.mem_cons_self;have e1 := m5 x [] n h0 (by omega) (by simp; omega);have ih := kF l (n + x.length) (by omega) (by omega) (fun y hy => he y (List.mem_cons_of_mem _ hy));rw [show n + (x.length : Int) + (fW l : Int) = n + (fW (x :: l) : Int) from by simp only [fW]; omega] at ih;simp only [bj.g, mkG];exact Ev.bind e1 (Ev.bind ih (Ev.now _))
theorem markG (l : List (List ByteArray)) (n : Int) (h0 : 0 <= n) (h1 : n + fW l <= 4611686018427387903) (he : ∀ x ∈ l, x.length <= 8) (hn : (l.map (·.head?)).Nodup) (hz : none ∉ l.map (·.head?)) : Ev (fun k => bj.f k l n) (n + (fW l : Int), mkG n l) := by
  unfold bj.f;exact Ev.congr (fun _ => if_pos ⟨hn, hz⟩) (kF l n h0 h1 he)
theorem lc : ∀ (r o : List (List ByteArray)) (n : Int), 0 <= n -> n + fW r <= 4611686018427387903 -> o.length + r.length <= 1048576 -> (∀ x ∈ r, x.length <= 8) -> Ev (fun k => bu.l0 k (o ++ mkG n r) n (o.length : Int)) (n + (fW r : Int))
  | [], o, n, h0, h1, hl, he => by
    refine Ev.step (f := fun _ => some n) (fun k => ?_) (by simp only [fW]; rw [show n + ((0 : Nat) : Int) = n from by omega]; exact Ev.now _);simp only [bu.l0, mkG, List.append_nil];rw [if_neg (by omega)]
  | x :: r, o, n, h0, h1, hl, he => by
    simp only [fW] at h1;rw [List.length_cons] at hl;have h8 := he x List.mem_cons_self;have e1 := m7 x [] n h0 (by omega) (by simp; omega);have ih := lc r (o ++ [mkd n x]) (n + x.length) (by omega) (by omega) (by rw [List.length_append, List.length_singleton]; omega) (fun y hy => he y (List.mem_cons_of_mem _ hy));rw [List.append_assoc, List.length_append, List.length_singleton, show n + (x.length : Int) + (fW r : Int) = n + (fW (x :: r) : Int) from by simp only [fW]; omega] at ih;rw [mkG];(have hz : (o ++ mkd n x :: mkG (n + x.length) r).length = o.length + (r.length + 1) := by rw [List.length_append, List.length_cons, kL]);(have hlt : o.length < (o ++ mkd n x :: mkG (n + x.length) r).length := by omega)
    have hw : ex (o ++ mkd n x :: mkG (n + x.length) r) (o.length : Int) = mkd n x := by
      rw [mw _ o.length hlt, List.getElem_append_right (Nat.le_refl _)];simp
    refine Ev.step (f := fun k => (bM.f k (mkd n x) n).bind fun t => if t < 0 then some (-1) else bu.l0 k (o ++ mkd n x :: mkG (n + x.length) r) t ((o.length + 1 : Nat) : Int)) (fun k => ?_) (Ev.bind e1 (Ev.congr (fun _ => if_neg (by omega)) ih));simp only [bu.l0, dh o.length _ hlt (by omega), hw];rw [if_pos (by omega), if_pos (by omega)]

end Go.Proofs.YtiaelacjjbdolaaGreatDoor.Pure
