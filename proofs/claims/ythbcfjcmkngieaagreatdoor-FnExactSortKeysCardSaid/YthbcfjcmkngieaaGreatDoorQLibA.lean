/- Lemmas on the printed functions, without Go and memory. -/
import Derived.Test.YthbcfjcmkngieaaGreatDoorPx1
import Derived.Test.YthbcfjcmkngieaaGreatDoorPx2
import Derived.Test.YthbcfjcmkngieaaGreatDoorPx3
import Derived.Test.YthbcfjcmkngieaaGreatDoorPx4
import Derived.Test.YthbcfjcmkngieaaGreatDoorPx5
import Derived.Test.YthbcfjcmkngieaaGreatDoorQEntG
namespace Go.Proofs.YthbcfjcmkngieaaGreatDoor.Pure
open Go.RowKit Go.Proofs.YthbcfjcmkngieaaGreatDoor.Px Go.Proofs.YthbcfjcmkngieaaGreatDoorW.PrintWords Go.Proofs.YthbcfjcmkngieaaGreatDoorW.PrintLast
set_option linter.unusedVariables false
set_option linter.unusedSimpArgs false

def hasB (l : List ByteArray) (s : ByteArray) : Bool := l.any (fun x => x.toList == s.toList)
theorem has_li (l : List ByteArray) (hl : l.length ≤ 1048576) (s : ByteArray) : ∀ (d i : Nat), i + d = l.length → ∃ r : Int, Ev (fun k => slices_Index_string_string.l0 k l s (l.length : Int) (i : Int)) r ∧ decide (r ≥ 0) = hasB (l.drop i) s
  | 0, i, hi => by
    rw [List.drop_of_length_le (by omega)];refine ⟨-1, Ev.step (f := fun _ => some (-1)) (fun k => ?_) (Ev.now _), rfl⟩;simp only [slices_Index_string_string.l0];rw [if_neg (by omega)]
  | d + 1, i, hi => by
    (have hlt : i < l.length := by omega);obtain ⟨r, e, hr⟩ := has_li l hl s d (i + 1) (by omega);rw [List.drop_eq_getElem_cons hlt];by_cases c : s.toList = l[i].toList;(·rw [show hasB (l[i] :: l.drop (i + 1)) s = true from by unfold hasB; rw [List.any_cons, beq_iff_eq.2 c.symm, Bool.true_or]];refine ⟨(i : Int), Ev.step (f := fun _ => some (i : Int)) (fun k => ?_) (Ev.now _), decide_eq_true (by omega)⟩;simp only [slices_Index_string_string.l0, word_in l i hlt];rw [if_pos (by omega), if_pos (by omega), if_pos (by omega), if_pos c]);(·rw [show hasB (l[i] :: l.drop (i + 1)) s = hasB (l.drop (i + 1)) s from by unfold hasB; rw [List.any_cons, beq_eq_false_iff_ne.2 (fun e => c e.symm), Bool.false_or]];refine ⟨r, Ev.step (fun k => ?_) e, hr⟩;simp only [slices_Index_string_string.l0, word_in l i hlt];rw [if_pos (by omega), if_pos (by omega), if_pos (by omega), if_neg c, next_i i l.length hlt hl])
abbrev E2 := S58
def en (x : E2) : En := ⟨x.f0, x.f1, x.f2, x.f3, x.f4, x.f5, x.f6, x.f7.f0, x.f7.f1, x.f7.f2, x.f7.f3, x.f8, x.f9, x.f10⟩
theorem rdE_at (l : List E2) (i : Nat) (h : i < l.length) : rd_T58 l (i : Int) = l[i] := by
  unfold rd_T58;rw [Int.toNat_natCast, List.getD_eq_getElem?_getD, List.getElem?_eq_getElem h];rfl
structure LOk (L : List E2) : Prop where
  l : L.length ≤ 1048576
  e : ∀ x ∈ L, EnOk (en x)
def lessP (L : List E2) (i : Nat) : Bool := decide (i = 0) || Op.bytesLess (rd_T58 L ((i : Int) - 1)).f0.toList (rd_T58 L (i : Int)).f0.toList
def libP (L : List E2) (i : Nat) : Bool := valB (en (rd_T58 L (i : Int))) && lessP L i
def libB (L : List E2) : Bool := decide (L.length ≤ 8) && allI (libP L) 0 L.length
theorem ev_less (L : List E2) (i : Nat) {T : Nat → Option Bool} {b : Bool} (hT : Ev T b) : Ev (fun k => if (i : Int) > 0 then (if Op.bytesLess (rd_T58 L ((i : Int) - 1)).f0.toList (rd_T58 L (i : Int)).f0.toList = true then T k else some false) else T k) (lessP L i && b) := by
  unfold lessP;by_cases h : i = 0;(·rw [decide_eq_true h];exact Ev.congr (fun _ => if_neg (by omega)) hT)
  · rw [decide_eq_false h, Bool.false_or]
    refine Ev.congr (fun _ => if_pos (by omega)) ?_
    cases Op.bytesLess (rd_T58 L ((i : Int) - 1)).f0.toList (rd_T58 L (i : Int)).f0.toList with
    | false => exact Ev.congr (fun _ => if_neg (by decide)) (Ev.now _)
    | true => exact Ev.congr (fun _ => if_pos rfl) hT
theorem lib_ls (L : List E2) (o : LOk L) : ∀ (d i : Nat), i + d = L.length → Ev (fun k => spec_l4Good.l0 k (i : Int) L) (allI (libP L) i d)
  | 0, i, hi => by
    refine Ev.step (f := fun _ => some true) (fun k => ?_) (Ev.now _);simp only [spec_l4Good.l0];rw [if_neg (by omega)]
  | d + 1, i, hi => by
    (have hlt : i < L.length := by omega);have hl := o.l;have hv := val_s (en (rd_T58 L (i : Int))) (by rw [rdE_at L i hlt]; exact o.e _ (List.getElem_mem hlt));rw [allI, libP, Bool.and_assoc];refine Ev.step (fun k => ?_) (ev_if hv (ev_less L i (lib_ls L o d (i + 1) (by omega))) (Ev.now _));simp only [spec_l4Good.l0, next_i i L.length hlt o.l];rw [if_pos (by omega), if_pos (by omega)]
    show Option.bind _ _ = Option.bind _ _
    (congr 1);(funext t)
    cases t with
    | false => rfl
    | true =>
      rw [if_pos rfl, if_pos rfl];by_cases h : (i : Int) > 0;(·rw [if_pos h, if_pos h, wrap_small (by omega) (by omega), if_pos (by omega), if_pos (by omega)]);(·rw [if_neg h, if_neg h])
theorem lib_s (L : List E2) (o : LOk L) : Ev (fun k => spec_l4Good.f k L) (libB L) := by
  unfold spec_l4Good.f libB;by_cases h : L.length ≤ 8;(·rw [decide_eq_true h, Bool.true_and];exact Ev.congr (fun _ => if_neg (by omega)) (lib_ls L o L.length 0 (by omega)));(·rw [decide_eq_false h, Bool.false_and];exact Ev.congr (fun _ => if_pos (by omega)) (Ev.now _))
theorem lib_li (L : List E2) (o : LOk L) : ∀ (d i : Nat), i + d = L.length → Ev (fun k => impl_IsValidLibrary.l0 k L (L.length : Int) (i : Int) L) (allI (libP L) i d && decide (L.length ≤ 8))
  | 0, i, hi => by
    refine Ev.step (f := fun _ => some (decide (L.length ≤ 8))) (fun k => ?_) (Ev.now _);simp only [impl_IsValidLibrary.l0];rw [if_neg (by omega)];(congr 1);by_cases c : L.length ≤ 8;(·rw [decide_eq_true c, decide_eq_true (by omega)]);(·rw [decide_eq_false c, decide_eq_false (by omega)])
  | d + 1, i, hi => by
    (have hlt : i < L.length := by omega);have hl := o.l;have hv := val_i (en (rd_T58 L (i : Int))) (by rw [rdE_at L i hlt]; exact o.e _ (List.getElem_mem hlt));rw [allI, libP, Bool.and_assoc, Bool.and_assoc];refine Ev.step (fun k => ?_) (ev_if hv (ev_less L i (lib_li L o d (i + 1) (by omega))) (Ev.now _));simp only [impl_IsValidLibrary.l0, next_i i L.length hlt o.l];rw [if_pos (by omega), if_pos (by omega), if_pos (by omega)]
    show Option.bind _ _ = Option.bind _ _
    (congr 1);(funext t)
    cases t with
    | false => rfl
    | true =>
      rw [if_pos rfl, if_pos rfl];by_cases h : (i : Int) > 0;(·rw [if_pos h, if_pos h, wrap_small (by omega) (by omega), if_pos (by omega), if_pos (by omega)]);(·rw [if_neg h, if_neg h])
theorem lib_i (L : List E2) (o : LOk L) : Ev (fun k => impl_IsValidLibrary.f k L) (libB L) := by
  have := lib_li L o L.length 0 (by omega);rw [Bool.and_comm] at this;exact this
structure LV (L : List E2) : Prop where
  l : L.length ≤ 8
  v : ∀ (i : Int), 0 ≤ i → i < (L.length : Int) → EnV (en (rd_T58 L i))
theorem lib_v (L : List E2) (o : LOk L) (h : libB L = true) : LV L := by
  unfold libB at h;rw [Bool.and_eq_true, decide_eq_true_iff] at h;refine ⟨h.1, fun i h0 h1 => ?_⟩;have := allI_true _ _ _ h.2 i.toNat (by omega) (by omega);unfold libP at this;rw [Bool.and_eq_true, show ((i.toNat : Nat) : Int) = i from by omega] at this
  have hm := o.e (rd_T58 L i) (by
    have e := rdE_at L i.toNat (by omega);rw [show ((i.toNat : Nat) : Int) = i from by omega] at e;rw [e]
    exact List.getElem_mem _)
  exact en_v _ hm this.1
abbrev atK (L : List E2) (a : ByteArray) : Int := impl_sortKeys.at L a
theorem find_l (L : List E2) (hl : L.length ≤ 1048576) (a : ByteArray) : ∀ (d i : Nat), i + d = L.length → (∀ x ∈ L.take i, impl_entryIndex.is a x = false) → Ev (fun k => spec_l4Find.l0 k a (i : Int) L) (atK L a)
  | 0, i, hi, hn => by
    rw [List.take_of_length_le (by omega)] at hn;rw [show atK L a = -1 from impl_entryIndex.idx_no _ _ hn];refine Ev.step (f := fun _ => some (-1)) (fun k => ?_) (Ev.now _);simp only [spec_l4Find.l0];rw [if_neg (by omega)]
  | d + 1, i, hi, hn => by
    (have hlt : i < L.length := by omega);have er := rdE_at L i hlt;by_cases c : L[i].f0.toList = a.toList;(·rw [show atK L a = (i : Int) from impl_entryIndex.idx_hit _ _ i hlt (beq_iff_eq.2 c) hn];refine Ev.step (f := fun _ => some (i : Int)) (fun k => ?_) (Ev.now _);simp only [spec_l4Find.l0];rw [if_pos (by omega), if_pos (by omega), er, if_pos c]);(·refine Ev.step (fun k => ?_) (find_l L hl a d (i + 1) (by omega) (fun x hx => ?_));(·simp only [spec_l4Find.l0];rw [if_pos (by omega), if_pos (by omega), er, if_neg c, next_i i L.length hlt hl]);(·rw [List.take_succ_eq_append_getElem hlt, List.mem_append, List.mem_singleton] at hx;(rcases hx with hx | rfl);(·exact hn x hx);(·exact beq_eq_false_iff_ne.2 c)))
theorem find_s (L : List E2) (hl : L.length ≤ 1048576) (a : ByteArray) : Ev (fun k => spec_l4Find.f k L a) (atK L a) := find_l L hl a L.length 0 (by omega) (fun x hx => by cases hx)
structure KV (L : List E2) (K : List ByteArray) : Prop where
  l : K.length ≤ 8
  f : ∀ a ∈ K, 0 ≤ atK L a
theorem at_lt (L : List E2) (a : ByteArray) : atK L a < (L.length : Int) := impl_sortKeys.idx_lt _ _
theorem at_key (L : List E2) (a : ByteArray) (h : 0 ≤ atK L a) : (rd_T58 L (atK L a)).f0.toList = a.toList := by
  cases hf : L.findIdx? (impl_entryIndex.is a) with
  | none =>
    have : atK L a = -1 := by
      show impl_entryIndex.idx _ _ = -1
      unfold impl_entryIndex.idx;rw [hf]
    omega
  | some i =>
    obtain ⟨hl, hp, _⟩ := List.findIdx?_eq_some_iff_getElem.1 hf
    have : atK L a = (i : Int) := by
      show impl_entryIndex.idx _ _ = (i : Int)
      unfold impl_entryIndex.idx;rw [hf]
    rw [this, rdE_at L i hl];exact beq_iff_eq.1 hp

def keyQ (L : List E2) (K : List ByteArray) (i : Nat) : Bool := decide (0 ≤ atK L (rdOf ByteArray.empty K (i : Int))) && !(hasB (K.take i) (rdOf ByteArray.empty K (i : Int)))
def keysB (L : List E2) (K : List ByteArray) : Bool := libB L && allI (keyQ L K) 0 K.length
theorem keys_s1 (L : List E2) (K : List ByteArray) (hk : K.length ≤ 1048577) (i : Nat) (hi : i < K.length) (v : Bool) (hv : Ev (fun k => spec_l8Keys.l0 k K ((i + 1 : Nat) : Int) L) v) : ∀ (d j : Nat), j + d = i → Ev (fun k => spec_l8Keys.l1 k K (i : Int) (j : Int) L) (!(hasB ((K.take i).drop j) (rdOf ByteArray.empty K (i : Int))) && v)
  | 0, j, hj => by
    rw [List.drop_of_length_le (by rw [List.length_take]; omega)];refine Ev.step (fun k => ?_) hv;simp only [spec_l8Keys.l1];rw [if_neg (by omega), wrap_small (by omega) (by omega)];rfl
  | d + 1, j, hj => by
    (have hlt : j < (K.take i).length := by rw [List.length_take]; omega);have ih := keys_s1 L K hk i hi v hv d (j + 1) (by omega);(have ej : rdOf ByteArray.empty K (j : Int) = (K.take i)[j] := by rw [word_in K j (by omega), List.getElem_take]);rw [List.drop_eq_getElem_cons hlt];unfold hasB at ih ⊢;rw [List.any_cons];by_cases c : (K.take i)[j].toList = (rdOf ByteArray.empty K (i : Int)).toList;(·rw [beq_iff_eq.2 c];refine Ev.step (f := fun _ => some false) (fun k => ?_) (Ev.now _);simp only [spec_l8Keys.l1];rw [if_pos (by omega), if_pos (by omega), if_pos (by omega), if_pos (by omega), if_pos (by omega), ej, if_pos c]);(·rw [beq_eq_false_iff_ne.2 c, Bool.false_or];refine Ev.step (fun k => ?_) ih;simp only [spec_l8Keys.l1];rw [if_pos (by omega), if_pos (by omega), if_pos (by omega), if_pos (by omega), if_pos (by omega), ej, if_neg c, wrap_small (by omega) (by omega)];rfl)
theorem keys_s0 (L : List E2) (hl : L.length ≤ 1048576) (K : List ByteArray) (hk : K.length ≤ 1048577) : ∀ (d i : Nat), i + d = K.length → Ev (fun k => spec_l8Keys.l0 k K (i : Int) L) (allI (keyQ L K) i d)
  | 0, i, hi => by
    refine Ev.step (f := fun _ => some true) (fun k => ?_) (Ev.now _);simp only [spec_l8Keys.l0];rw [if_neg (by omega)]
  | d + 1, i, hi => by
    have h1 := keys_s1 L K hk i (by omega) _ (keys_s0 L hl K hk d (i + 1) (by omega)) i 0 (by omega);rw [List.drop_zero] at h1;rw [allI, keyQ, Bool.and_assoc];refine Ev.step (f := fun k => (spec_l4Find.f k L (rdOf ByteArray.empty K (i : Int))).bind fun t => if t < 0 then some false else spec_l8Keys.l1 k K (i : Int) ((0 : Nat) : Int) L) (fun k => ?_) (Ev.bind (find_s L hl _) ?_);(·simp only [spec_l8Keys.l0];rw [if_pos (by omega), if_pos (by omega)];rfl);(·by_cases c : 0 ≤ atK L (rdOf ByteArray.empty K (i : Int));(·rw [decide_eq_true c, Bool.true_and];exact Ev.congr (fun _ => if_neg (by omega)) h1);(·rw [decide_eq_false c, Bool.false_and];exact Ev.congr (fun _ => if_pos (by omega)) (Ev.now _)))
theorem keys_s (L : List E2) (o : LOk L) (K : List ByteArray) (hk : K.length ≤ 1048577) : Ev (fun k => spec_l8Keys.f k L K) (keysB L K) := ev_if (lib_s L o) (keys_s0 L o.l K hk K.length 0 (by omega)) (Ev.now _)
theorem keys_i0 (L : List E2) (o : LOk L) (K : List ByteArray) (hk : K.length ≤ 1048577) : ∀ (d i : Nat), i + d = K.length → Ev (fun k => impl_areKeys.l0 k K K (K.length : Int) (i : Int) L) (allI (keyQ L K) i d && libB L)
  | 0, i, hi => by
    refine Ev.step (f := fun k => (impl_IsValidLibrary.f k L).bind fun t => some t) (fun k => ?_) (Ev.bind (lib_i L o) (Ev.now _));simp only [impl_areKeys.l0];rw [if_neg (by omega)]
  | d + 1, i, hi => by
    have ih := keys_i0 L o K hk d (i + 1) (by omega);obtain ⟨r, e, hr⟩ := has_li (K.take i) (by rw [List.length_take]; omega) (rdOf ByteArray.empty K (i : Int)) (K.take i).length 0 (by omega);rw [List.drop_zero] at hr;rw [allI, keyQ, Bool.and_assoc, Bool.and_assoc, ← hr];by_cases c : 0 ≤ atK L (rdOf ByteArray.empty K (i : Int));(·have c' : ¬ impl_entryIndex.idx (impl_entryIndex.is (rdOf ByteArray.empty K (i : Int))) L < 0 := Int.not_lt.2 c;rw [decide_eq_true c, Bool.true_and];refine Ev.step (f := fun k => (slices_Contains_string_string.f k (K.take i) (rdOf ByteArray.empty K (i : Int))).bind fun t => if t = true then some false else impl_areKeys.l0 k K K (K.length : Int) ((i + 1 : Nat) : Int) L) (fun k => ?_) (Ev.bind (show Ev (fun k => (slices_Index_string_string.l0 k (K.take i) (rdOf ByteArray.empty K (i : Int)) ((K.take i).length : Int) ((0 : Nat) : Int)).bind fun t => some (decide (t ≥ 0))) (decide (r ≥ 0)) from Ev.bind e (Ev.now _)) ?_);(·simp only [impl_areKeys.l0, impl_entryIndex.f, Option.bind_some];rw [if_pos (by omega), if_pos (by omega), if_pos (by omega), if_neg c', if_pos (by omega), wrap_small (by omega) (by omega)];rfl);(·by_cases b : r ≥ 0;(·rw [decide_eq_true b];exact Ev.congr (fun _ => if_pos rfl) (Ev.now _));(·rw [decide_eq_false b];exact Ev.congr (fun _ => if_neg (by decide)) ih)));(·have c' : impl_entryIndex.idx (impl_entryIndex.is (rdOf ByteArray.empty K (i : Int))) L < 0 := Int.not_le.1 c;rw [decide_eq_false c, Bool.false_and];refine Ev.step (f := fun _ => some false) (fun k => ?_) (Ev.now _);simp only [impl_areKeys.l0, impl_entryIndex.f, Option.bind_some];rw [if_pos (by omega), if_pos (by omega), if_pos (by omega), if_pos c'])
theorem keys_i (L : List E2) (o : LOk L) (K : List ByteArray) (hk : K.length ≤ 1048577) : Ev (fun k => impl_areKeys.f k L K) (keysB L K) := by
  have := keys_i0 L o K hk K.length 0 (by omega);rw [Bool.and_comm] at this;exact this
theorem pigeon : ∀ (n : Nat) (M : List Nat), M.Nodup → (∀ x ∈ M, x < n) → M.length ≤ n
  | 0, M, _, h => by
    cases M with
    | nil => exact Nat.le_refl _
    | cons a M => exact absurd (h a List.mem_cons_self) (by omega)
  | n + 1, M, hn, h => by
    have := pigeon n (M.erase n) (hn.erase n) (fun x hx => by
      have := (hn.mem_erase_iff).1 hx;have := h x this.2
      omega)
    by_cases c : n ∈ M;(·rw [List.length_erase_of_mem c] at this;omega);(·rw [List.erase_of_not_mem c] at this;omega)
theorem keys_v (L : List E2) (K : List ByteArray) (v : LV L) (h : allI (keyQ L K) 0 K.length = true) : KV L K := by
  have hq : ∀ i (hi : i < K.length), 0 ≤ atK L K[i] ∧ hasB (K.take i) K[i] = false := fun i hi => by
    have := allI_true _ _ _ h i (by omega) (by omega);unfold keyQ at this;rw [word_in K i hi, Bool.and_eq_true, decide_eq_true_iff, Bool.not_eq_true'] at this;exact this
  refine ⟨?_, fun a ha => ?_⟩
  · have hn : (K.map fun a => (atK L a).toNat).Nodup := by
      rw [List.Nodup, List.pairwise_iff_getElem];intro i j hi hj hij e;rw [List.length_map] at hi hj;rw [List.getElem_map, List.getElem_map] at e;obtain ⟨a1, _⟩ := hq i hi;obtain ⟨b1, b2⟩ := hq j hj;(have e2 : atK L K[i] = atK L K[j] := by omega);(have e3 : K[i].toList = K[j].toList := by rw [← at_key L _ a1, ← at_key L _ b1, e2]);unfold hasB at b2;have := List.any_eq_false.1 b2 K[i] (by rw [List.mem_take_iff_getElem]; exact ⟨i, by omega, rfl⟩);exact this (beq_iff_eq.2 e3)
    have := pigeon L.length _ hn (fun x hx => by
      obtain ⟨a, ha, rfl⟩ := List.mem_map.1 hx;obtain ⟨i, hi, rfl⟩ := List.mem_iff_getElem.1 ha;have := at_lt L K[i];have := (hq i hi).1
      omega)
    rw [List.length_map] at this;have := v.l;omega
  · obtain ⟨i, hi, rfl⟩ := List.mem_iff_getElem.1 ha
    exact (hq i hi).1

end Go.Proofs.YthbcfjcmkngieaaGreatDoor.Pure
