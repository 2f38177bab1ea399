/- Lemmas on the printed functions, without Go and memory. -/
import Derived.Test.YtiaelacjjbdolaaGreatDoorPx2
import Derived.Test.YtiaelacjjbdolaaGreatDoorPx5
import Derived.Test.YtiaelacjjbdolaaGreatDoorQSrt
namespace Go.Proofs.YtiaelacjjbdolaaGreatDoor.Pure
open Go.RowKit Go.Proofs.YtiaelacjjbdolaaGreatDoor.Px Go.Proofs.YtiaelacjjbdolaaGreatDoorW.PrintWords Go.Proofs.YtiaelacjjbdolaaGreatDoorW.PrintLast
set_option linter.unusedVariables false
set_option linter.unusedSimpArgs false

theorem all_s (L : List E2) (hl : L.length <= 1048576) : ∀ (d i : Nat), i + d = L.length -> Ev (fun k => dE.l0 k ((L.take i).map (·.f0)) (i : Int) L) (L.map (·.f0))
  | 0, i, hi => by
    refine Ev.step (f := fun _ => some (L.map (·.f0))) (fun k => ?_) (Ev.now _);simp only [dE.l0];rw [if_neg (by omega), List.take_of_length_le (by omega)]
  | d + 1, i, hi => by
    (have hlt : i < L.length := by omega);refine Ev.step (fun k => ?_) (all_s L hl d (i + 1) (by omega));simp only [dE.l0, fq L i hlt];rw [if_pos (by omega), if_pos (by omega), if_pos (by rw [List.length_map, List.length_take]; omega), dh i L.length hlt hl, List.take_succ_eq_append_getElem hlt, List.map_append];rfl
theorem lF (L : List E2) (v : LV L) : KV L (L.map (·.f0)) := by
  refine ⟨by rw [List.length_map]; exact v.l, fun a ha => ?_⟩;obtain ⟨x, hx, rfl⟩ := List.mem_map.1 ha
  show 0 <= af.idx (af.is x.f0) L
  unfold af.idx
  cases hf : L.findIdx? (af.is x.f0) with
  | none =>
    have := List.findIdx?_eq_none_iff.1 hf x hx;unfold af.is at this;exact absurd (beq_iff_eq.2 rfl) (by rw [this]; decide)
  | some i => exact Int.natCast_nonneg i

theorem kJ : ∀ (S T : List Int), S.Pairwise (fun a b => a < b) -> T.Pairwise (fun a b => a < b) -> (∀ x, x ∈ S ↔ x ∈ T) -> S = T
  | [], [], _, _, _ => rfl
  | [], y :: T, _, _, h => absurd ((h y).2 List.mem_cons_self) (by simp)
  | x :: S, [], _, _, h => absurd ((h x).1 List.mem_cons_self) (by simp)
  | x :: S, y :: T, hS, hT, h => by
    obtain ⟨s1, s2⟩ := List.pairwise_cons.1 hS;obtain ⟨t1, t2⟩ := List.pairwise_cons.1 hT
    have e : x = y := by
      (rcases List.mem_cons.1 ((h x).1 List.mem_cons_self) with e | hx);(·exact e);(·(rcases List.mem_cons.1 ((h y).2 List.mem_cons_self) with e | hy);(·exact e.symm);(·have a1 := t1 x hx;have a2 := s1 y hy;omega))
    subst e;rw [kJ S T s2 t2 fun a => ⟨fun ha => (List.mem_cons.1 ((h a).1 (List.mem_cons_of_mem _ ha))).elim (fun e => by have := s1 a ha; omega) id, fun ha => (List.mem_cons.1 ((h a).2 (List.mem_cons_of_mem _ ha))).elim (fun e => by have := t1 a ha; omega) id⟩]
theorem mU (d : Array Int) (h : d.toList.Pairwise (fun a b => a <= b)) : ∀ m, m <= d.size -> (Lib.compactUpTo d m).Pairwise (fun a b => a < b) /\ ∀ y, y ∈ Lib.compactUpTo d m ↔ y ∈ d.toList.take m
  | 0, _ => ⟨List.Pairwise.nil, fun y => by simp [Lib.compactUpTo]⟩
  | m + 1, hm => by
    obtain ⟨h1, h2⟩ := mU d h m (by omega);(have hl : m < d.toList.length := by rw [Array.length_toList]; omega);(have e0 : d[m]! = d.toList[m] := by rw [getElem!_pos d m (by omega)]; simp);rw [Lib.compactUpTo_succ, List.take_succ_eq_append_getElem hl, e0];by_cases c : Lib.keeps d m = true;(·rw [if_pos c];refine ⟨List.pairwise_append.2 ⟨h1, List.pairwise_singleton _ _, fun a ha b hb => ?_⟩, fun y => by rw [List.mem_append, List.mem_append, h2]⟩;rw [List.mem_singleton] at hb;subst hb;obtain ⟨i, hi, rfl⟩ := List.mem_iff_getElem.1 ((h2 a).1 ha);rw [List.length_take] at hi;rw [List.getElem_take];have c2 : m = 0 \/ d[m]! ≠ d[m - 1]! := of_decide_eq_true c;rw [e0, getElem!_pos d (m - 1) (by omega), <- Array.getElem_toList] at c2;have a1 := List.pairwise_iff_getElem.1 h (m - 1) m (by omega) hl (by omega);by_cases e : i = m - 1;(·subst e;omega);(·have a2 := List.pairwise_iff_getElem.1 h i (m - 1) (by omega) (by omega) (by omega);omega));(·rw [if_neg c, List.append_nil];refine ⟨h1, fun y => ?_⟩;rw [h2, List.mem_append, List.mem_singleton];refine ⟨Or.inl, fun hy => hy.elim id fun e => ?_⟩;have c2 : ¬ (m = 0 \/ d[m]! ≠ d[m - 1]!) := of_decide_eq_false (Bool.eq_false_iff.2 c);(have hm0 : m ≠ 0 := fun e => c2 (.inl e));(have c3 : d[m]! = d[m - 1]! := Classical.byContradiction fun e => c2 (.inr e));rw [e0, getElem!_pos d (m - 1) (by omega), <- Array.getElem_toList] at c3;rw [e, c3, List.mem_take_iff_getElem];exact ⟨m - 1, by omega, rfl⟩)
theorem cmp_p (l : List Int) (h : l.Pairwise (fun a b => a <= b)) : (Lib.compact l).Pairwise (fun a b => a < b) /\ ∀ y, y ∈ Lib.compact l ↔ y ∈ l := by
  have := mU l.toArray (by simpa using h) l.length (by simp);unfold Lib.compact;(simpa using this)
def eS : List Int -> Int -> List Int
  | [], y => [y]
  | x :: l, y => if x < y then x :: eS l y else if x = y then x :: l else y :: x :: l
theorem ky : ∀ (l : List Int) (y z : Int), z ∈ eS l y ↔ z = y \/ z ∈ l
  | [], y, z => by simp [eS]
  | x :: l, y, z => by
    rw [eS];(split);(·rw [List.mem_cons, ky l y z, List.mem_cons];exact or_left_comm);(·(split);(·(rename_i e);rw [e, List.mem_cons];exact ⟨Or.inr, fun h => h.elim Or.inl id⟩);(·rw [List.mem_cons]))
theorem nA : ∀ (l : List Int) (y : Int), l.Pairwise (fun a b => a < b) -> (eS l y).Pairwise (fun a b => a < b)
  | [], y, _ => List.pairwise_singleton _ _
  | x :: l, y, h => by
    obtain ⟨h1, h2⟩ := List.pairwise_cons.1 h;rw [eS];(split);(·refine List.pairwise_cons.2 ⟨fun z hz => ?_, nA l y h2⟩;(rcases (ky l y z).1 hz with rfl | hz);(·(assumption));(·exact h1 z hz));(·(split);(·exact h);(·refine List.pairwise_cons.2 ⟨fun z hz => ?_, h⟩;(rcases List.mem_cons.1 hz with rfl | hz);(·omega);(·have := h1 z hz;omega)))
theorem kx : ∀ (l : List Int) (y : Int), (eS l y).length <= l.length + 1
  | [], y => by simp [eS]
  | x :: l, y => by
    have := kx l y;rw [eS];(split);(·(simp only [List.length_cons]; omega));(·(split <;> simp only [List.length_cons] <;> omega))
theorem jw : ∀ (ys l : List Int), l.Pairwise (fun a b => a < b) -> (ys.foldl eS l).Pairwise (fun a b => a < b) /\ (∀ z, z ∈ ys.foldl eS l ↔ z ∈ l \/ z ∈ ys) /\ (ys.foldl eS l).length <= l.length + ys.length
  | [], l, h => ⟨h, fun z => by simp, by simp⟩
  | y :: ys, l, h => by
    obtain ⟨h1, h2, h3⟩ := jw ys (eS l y) (nA l y h);have := kx l y;refine ⟨h1, fun z => ?_, by simp only [List.foldl_cons, List.length_cons]; omega⟩;rw [List.foldl_cons, h2, ky, List.mem_cons, or_comm (a := z = y), or_assoc]

theorem ba_tl (a b : ByteArray) (h : a.toList = b.toList) : a = b := ba_eq a b (by rw [<- Lib.toList_data, <- Lib.toList_data]; exact h)
theorem kP (L : List E2) (h : gH L = true) (k : Nat) (hk : k + 1 < L.length) : L[k].f0.toList < L[k + 1].f0.toList := by
  unfold gH at h;rw [Bool.and_eq_true] at h;have h1 := fS _ _ _ h.2 (k + 1) (by omega) (by omega);unfold kg lr at h1;rw [Bool.and_eq_true, decide_eq_false (by omega), Bool.false_or, bytesLess_eq, show (((k + 1 : Nat) : Int) - 1) = (k : Int) from by omega, fq L k (by omega), fq L (k + 1) hk] at h1;exact of_decide_eq_true h1.2
theorem kK (L : List E2) (h : gH L = true) (i : Nat) : ∀ (d : Nat) (hj : i + d + 1 < L.length), L[i].f0.toList < L[i + d + 1].f0.toList
  | 0, hj => kP L h i hj
  | d + 1, hj => List.lt_trans (kK L h i d (by omega)) (kP L h (i + d + 1) hj)
theorem kX (L : List E2) (h : gH L = true) (i j : Nat) (hj : j < L.length) (hij : i < j) : L[i].f0 ≠ L[j].f0 := fun e => by
  have := kK L h i (j - i - 1) (by omega)
  simp only [show i + (j - i - 1) + 1 = j from by omega, e] at this
  exact List.lt_irrefl _ this
theorem keys_nd (L : List E2) (h : gH L = true) : (L.map (·.f0)).Nodup := by
  rw [List.Nodup, List.pairwise_iff_getElem];intro i j hi hj hij;rw [List.length_map] at hi hj;rw [List.getElem_map, List.getElem_map];exact kX L h i j hj hij
theorem at_own (L : List E2) (h : gH L = true) (i : Nat) (hi : i < L.length) : atK L L[i].f0 = (i : Int) := by
  (refine af.idx_hit _ _ i hi (beq_iff_eq.2 rfl) fun x hx => ?_);obtain ⟨k, hk, rfl⟩ := List.mem_take_iff_getElem.1 hx;(refine beq_eq_false_iff_ne.2 fun e => kX L h k i hi (by omega) ?_);exact ba_tl _ _ e
theorem or_z (p q : Int) (h : orI p q = 0) : q = 0 := by
  unfold orI at h;(split at h <;> first | exact h | contradiction)
theorem cmp_z (L : List E2) (a b : ByteArray) (ha : 0 <= atK L a) (hb : 0 <= atK L b) (h : eK L a b = 0) : a = b := by
  have h1 := or_z _ _ (or_z _ _ (or_z _ _ (or_z _ _ h)));have h2 : (aa L (atK L a)).f0 = (aa L (atK L b)).f0 := ba_eq _ _ (kS _ _ h1);exact ba_tl _ _ (by rw [<- mz L a ha, <- mz L b hb, h2])
theorem sg_K (L : List E2) : Sg (eK L) := sg_E.on fun a => en (aa L (atK L a))
def yrP (L : List E2) (y : Int) (a : ByteArray) : Bool := decide ((aa L (atK L a)).f7.f0 = y)
def grp (L : List E2) (y : Int) : List ByteArray := (L.filter fun x => decide (x.f7.f0 = y)).map (·.f0)
theorem grp_p (L : List E2) (h : gH L = true) (y : Int) : (L.map (·.f0)).filter (yrP L y) = grp L y := by
  unfold grp;rw [List.filter_map];(congr 1);(refine List.filter_congr fun x hx => ?_);obtain ⟨i, hi, rfl⟩ := List.mem_iff_getElem.1 hx
  show yrP L y L[i].f0 = _
  unfold yrP;rw [at_own L h i hi, fq L i hi]
theorem grp_s (L : List E2) (h : gH L = true) (v : LV L) (y : Int) : (eN (eK L) (L.map (·.f0))).filter (yrP L y) = eN (eK L) (grp L y) := by
  have kv := lF L v;rw [nN (sg_K L) _ (keys_nd L h) (fun a ha b hb => cmp_z L a b (kv.f a ha) (kv.f b hb)), grp_p L h]
theorem nn (L : List E2) (v : LV L) (y : Int) : KV L (grp L y) := by
  have kv := lF L v;unfold grp;refine ⟨by rw [List.length_map]; exact Nat.le_trans (List.length_filter_le _ _) v.l, fun a ha => ?_⟩;obtain ⟨x, hx, rfl⟩ := List.mem_map.1 ha;exact kv.f _ (List.mem_map_of_mem (List.mem_filter.1 hx).1)
theorem grp_hd (L : List E2) (h : gH L = true) (Y : List Int) (hn : Y.Nodup) (hy : ∀ y ∈ Y, ∃ x ∈ L, x.f7.f0 = y) : ((Y.map fun y => eN (eK L) (grp L y)).map (·.head?)).Nodup /\ none ∉ (Y.map fun y => eN (eK L) (grp L y)).map (·.head?) := by
  have hm : ∀ y a, (eN (eK L) (grp L y)).head? = some a -> yrP L y a = true := fun y a ha => by
    have h1 := List.mem_of_head? ha;(have h2 : a ∈ grp L y := by unfold eN at h1; simpa using (fT _ a _ []).1 h1);rw [<- grp_p L h] at h2;exact (List.mem_filter.1 h2).2
  have hs : ∀ y ∈ Y, ∃ a, (eN (eK L) (grp L y)).head? = some a := fun y hy1 => by
    obtain ⟨x, hx, e⟩ := hy y hy1;have h1 : x.f0 ∈ grp L y := List.mem_map_of_mem (List.mem_filter.2 ⟨hx, decide_eq_true e⟩);have h2 : x.f0 ∈ eN (eK L) (grp L y) := (fT _ x.f0 _ []).2 (.inl h1)
    cases hc : eN (eK L) (grp L y) with
    | nil => rw [hc] at h2; cases h2
    | cons a l => exact ⟨a, rfl⟩
  refine ⟨?_, fun hno => ?_⟩;(·rw [List.map_map];refine List.pairwise_map.2 (hn.imp_of_mem fun {y z} hy1 hz1 hne e => ?_);obtain ⟨a, ha⟩ := hs y hy1;have h1 := hm y a ha;have h2 := hm z a (e.symm.trans ha);exact hne ((of_decide_eq_true h1).symm.trans (of_decide_eq_true h2)));(·obtain ⟨l, hl, e⟩ := List.mem_map.1 hno;obtain ⟨y, hy1, rfl⟩ := List.mem_map.1 hl;obtain ⟨a, ha⟩ := hs y hy1;rw [e] at ha;cases ha)

end Go.Proofs.YtiaelacjjbdolaaGreatDoor.Pure
