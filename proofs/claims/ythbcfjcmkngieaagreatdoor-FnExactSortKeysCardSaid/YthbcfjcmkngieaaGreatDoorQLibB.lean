/- Lemmas on the printed functions, without Go and memory. -/
import Derived.Test.YthbcfjcmkngieaaGreatDoorPx1
import Derived.Test.YthbcfjcmkngieaaGreatDoorPx3
import Derived.Test.YthbcfjcmkngieaaGreatDoorPx4
import Derived.Test.YthbcfjcmkngieaaGreatDoorPx5
import Derived.Test.YthbcfjcmkngieaaGreatDoorQLibA
namespace Go.Proofs.YthbcfjcmkngieaaGreatDoor.Pure
open Go.RowKit Go.Proofs.YthbcfjcmkngieaaGreatDoor.Px Go.Proofs.YthbcfjcmkngieaaGreatDoorW.PrintWords Go.Proofs.YthbcfjcmkngieaaGreatDoorW.PrintLast
set_option linter.unusedVariables false
set_option linter.unusedSimpArgs false

def ipos (f : ByteArray → Bool) (out : List ByteArray) : Nat → Nat
  | 0 => 0
  | p + 1 => if f (rdOf ByteArray.empty out (p : Int)) = true then ipos f out p else p + 1
theorem ipos_le (f : ByteArray → Bool) (out : List ByteArray) : ∀ p, ipos f out p ≤ p
  | 0 => Nat.le_refl _
  | p + 1 => by
    rw [ipos];(split);(·have := ipos_le f out p;omega);(·exact Nat.le_refl _)
def insK (c : ByteArray → ByteArray → Int) (out : List ByteArray) (x : ByteArray) : List ByteArray := out.take (ipos (fun y => decide (c x y < 0)) out out.length) ++ (x :: out.drop (ipos (fun y => decide (c x y < 0)) out out.length))
theorem insK_len (c : ByteArray → ByteArray → Int) (out : List ByteArray) (x : ByteArray) : (insK c out x).length = out.length + 1 := by
  have := ipos_le (fun y => decide (c x y < 0)) out out.length;unfold insK;rw [List.length_append, List.length_cons, List.length_take, List.length_drop];omega
theorem insK_mem (c : ByteArray → ByteArray → Int) (out : List ByteArray) (x y : ByteArray) : y ∈ insK c out x ↔ y = x ∨ y ∈ out := by
  unfold insK;rw [List.mem_append, List.mem_cons];have := List.mem_append (a := y) (s := out.take (ipos (fun y => decide (c x y < 0)) out out.length)) (t := out.drop (ipos (fun y => decide (c x y < 0)) out out.length));rw [List.take_append_drop] at this;rw [this];exact or_left_comm
def srtK (c : ByteArray → ByteArray → Int) (K : List ByteArray) : List ByteArray := K.foldl (insK c) []
def cmpK (L : List E2) (a b : ByteArray) : Int := cmpE (en (rd_T58 L (atK L a))) (en (rd_T58 L (atK L b)))
theorem sort_sj (L : List E2) (K : List ByteArray) (i : Nat) (hi : i < K.length) (out : List ByteArray) (ho : out.length = i) (hk : K.length ≤ 1000) (r : List ByteArray) (p : Nat) (hp : p ≤ i) (hr : Ev (fun k => spec_l8Sort.l0 k K (out.take p ++ (K[i] :: out.drop p)) ((i + 1 : Nat) : Int) L) r) : Ev (fun k => spec_l8Sort.j2 k K out (i : Int) (p : Int) L) r := by
  refine Ev.step (fun k => ?_) hr;(have e1 : (([] ++ out.take (p : Int).toNat ++ [K[i]]) ++ out.drop (p : Int).toNat) = out.take p ++ (K[i] :: out.drop p) := by rw [Int.toNat_natCast, List.nil_append, List.append_assoc]; rfl);simp only [spec_l8Sort.j2, word_in K i hi, Option.bind_some];rw [if_pos (by omega), if_pos (by omega), if_pos (by rw [List.length_nil, List.length_take]; omega), if_pos (by omega), if_pos (by omega), if_pos (by rw [List.nil_append, List.length_take, List.length_cons, List.length_nil]; omega), if_pos (by rw [List.length_append, List.nil_append, List.length_take, List.length_drop, List.length_cons, List.length_nil]; omega), next_i i K.length hi (by omega), e1]
theorem sort_s1 (L : List E2) (v : LV L) (K : List ByteArray) (i : Nat) (hi : i < K.length) (out : List ByteArray) (ho : out.length = i) (hk : K.length ≤ 1000) (hx : 0 ≤ atK L K[i]) (hf : ∀ y ∈ out, 0 ≤ atK L y) (r : List ByteArray) (hr : Ev (fun k => spec_l8Sort.l0 k K (insK (cmpK L) out K[i]) ((i + 1 : Nat) : Int) L) r) :
    ∀ (p : Nat), p ≤ i → ipos (fun y => decide (cmpK L K[i] y < 0)) out out.length = ipos (fun y => decide (cmpK L K[i] y < 0)) out p → Ev (fun k => spec_l8Sort.l1 k K out (i : Int) (p : Int) L) r
  | 0, _, e => by
    unfold insK at hr
    rw [e] at hr
    refine Ev.step (fun k => ?_) (sort_sj L K i hi out ho hk r 0 (by omega) hr)
    simp only [spec_l8Sort.l1]
    rw [if_neg (by omega)]
  | p + 1, hp, e => by
    have hl := v.l
    have ep : wrap64 (((p + 1 : Nat) : Int) - 1) = (p : Int) := by rw [wrap_small (by omega) (by omega)]; omega
    have hy : 0 ≤ atK L (rdOf ByteArray.empty out (p : Int)) := by rw [word_in out p (by omega)]; exact hf _ (List.getElem_mem _)
    have hxl := at_lt L K[i]
    have hyl := at_lt L (rdOf ByteArray.empty out (p : Int))
    have hc := cmp_E_s _ _ (v.v _ hx hxl) (v.v _ hy hyl)
    rw [ipos] at e
    refine Ev.step (f := fun k => (spec_l4Find.f k L K[i]).bind fun t => if 0 ≤ t then (if t < (L.length : Int) then (spec_l4Find.f k L (rdOf ByteArray.empty out (p : Int))).bind fun u => if 0 ≤ u then (if u < (L.length : Int) then (lC k (en (rd_T58 L t)) (en (rd_T58 L u))).bind fun q => if q < 0 then spec_l8Sort.l1 k K out (i : Int) (p : Int) L else spec_l8Sort.j2 k K out (i : Int) ((p + 1 : Nat) : Int) L else none) else none else none) else none) (fun k => ?_) ?_
    · simp only [spec_l8Sort.l1, word_in K i hi, ep]
      rw [if_pos (by omega), if_pos (by omega), if_pos (by omega)]
      congr 1
      funext t
      congr 2
      rw [if_pos (by omega), if_pos (by omega)]
      rfl
    · refine Ev.bind (find_s L (by omega) _) (Ev.congr (fun _ => (if_pos hx).trans (if_pos hxl)) (Ev.bind (find_s L (by omega) _) (Ev.congr (fun _ => (if_pos hy).trans (if_pos hyl)) (Ev.bind hc ?_))))
      by_cases c : cmpK L K[i] (rdOf ByteArray.empty out (p : Int)) < 0
      · rw [if_pos (decide_eq_true c)] at e
        exact Ev.congr (fun _ => if_pos c) (sort_s1 L v K i hi out ho hk hx hf r hr p (by omega) e)
      · rw [if_neg (by rw [decide_eq_false c]; decide)] at e
        unfold insK at hr
        rw [e] at hr
        exact Ev.congr (fun _ => if_neg c) (sort_sj L K i hi out ho hk r (p + 1) (by omega) hr)
theorem sort_s0 (L : List E2) (v : LV L) (K : List ByteArray) (hk : K.length ≤ 1000) (hf : ∀ y ∈ K, 0 ≤ atK L y) : ∀ (d i : Nat) (out : List ByteArray), i + d = K.length → out.length = i → (∀ y ∈ out, 0 ≤ atK L y) → Ev (fun k => spec_l8Sort.l0 k K out (i : Int) L) ((K.drop i).foldl (insK (cmpK L)) out)
  | 0, i, out, hi, ho, hg => by
    rw [List.drop_of_length_le (by omega)];refine Ev.step (f := fun _ => some out) (fun k => ?_) (Ev.now _);simp only [spec_l8Sort.l0];rw [if_neg (by omega)]
  | d + 1, i, out, hi, ho, hg => by
    (have hlt : i < K.length := by omega);have hx := hf _ (List.getElem_mem hlt);have ih := sort_s0 L v K hk hf d (i + 1) (insK (cmpK L) out K[i]) (by omega) (by rw [insK_len]; omega) (fun y hy => ((insK_mem _ _ _ _).1 hy).elim (fun e => e ▸ hx) (hg y));rw [List.drop_eq_getElem_cons hlt, List.foldl_cons];refine Ev.step (f := fun k => spec_l8Sort.l1 k K out (i : Int) (out.length : Int) L) (fun k => ?_) (sort_s1 L v K i hlt out ho hk hx hg _ ih out.length (by omega) rfl);simp only [spec_l8Sort.l0];rw [if_pos (by omega)]
theorem sort_s (L : List E2) (v : LV L) (K : List ByteArray) (kv : KV L K) : Ev (fun k => spec_l8Sort.f k L K) (srtK (cmpK L) K) := sort_s0 L v K (by have := kv.l; omega) kv.f K.length 0 [] (by omega) rfl (fun _ h => by cases h)
theorem clo_ev (L : List E2) (v : LV L) (a b : ByteArray) (ha : 0 ≤ atK L a) (hb : 0 ≤ atK L b) : Ev (fun k => impl_sortKeys.clo L k a b) (cmpK L a b) := by
  refine Ev.congr (fun _ => (if_pos ha).trans (if_pos hb)) ?_;exact cmp_E_i _ _ (v.v _ ha (at_lt L a)) (v.v _ hb (at_lt L b))
theorem swp (out r : List ByteArray) (x : ByteArray) (j : Nat) (hj : j < out.length) : ((out.take (j + 1) ++ (x :: (out.drop (j + 1) ++ r))).set (j + 1) out[j]).set j x = out.take j ++ (x :: (out.drop j ++ r)) := by
  rw [List.take_succ_eq_append_getElem hj];(have h1 : (out.take j).length = j := by rw [List.length_take]; omega);rw [List.append_assoc, List.set_append_right _ _ (by omega), h1, List.set_append_right _ _ (by omega), h1];simp;rw [List.drop_eq_getElem_cons hj];rfl
theorem rd_at (out r : List ByteArray) (x : ByteArray) (j : Nat) (hj : j ≤ out.length) : rdOf ByteArray.empty (out.take j ++ (x :: (out.drop j ++ r))) (j : Int) = x := by
  (have h1 : (out.take j).length = j := by rw [List.length_take]; omega);rw [word_in _ j (by rw [List.length_append, List.length_cons]; omega), List.getElem_append_right (by omega)];simp [h1]
theorem rd_below (out r : List ByteArray) (x : ByteArray) (j : Nat) (hj : j < out.length) : rdOf ByteArray.empty (out.take (j + 1) ++ (x :: (out.drop (j + 1) ++ r))) (j : Int) = out[j] := by
  (have h1 : (out.take (j + 1)).length = j + 1 := by rw [List.length_take]; omega);rw [word_in _ j (by rw [List.length_append, List.length_cons]; omega), List.getElem_append_left (by omega), List.getElem_take]
theorem sort_i1 (L : List E2) (v : LV L) (n i : Nat) (out rest : List ByteArray) (x : ByteArray) (ho : out.length = i) (hn : i + 1 + rest.length = n) (hk : n ≤ 1000) (hx : 0 ≤ atK L x) (hf : ∀ y ∈ out, 0 ≤ atK L y) (r : List ByteArray) (hr : Ev (fun k => impl_sortKeys.ins.l0 (impl_sortKeys.clo L) k (insK (cmpK L) out x ++ rest) 0 (n : Int) ((i + 1 : Nat) : Int)) r) :
    ∀ (p : Nat), p ≤ i → ipos (fun y => decide (cmpK L x y < 0)) out out.length = ipos (fun y => decide (cmpK L x y < 0)) out p → Ev (fun k => impl_sortKeys.ins.l1 (impl_sortKeys.clo L) k (out.take p ++ (x :: (out.drop p ++ rest))) 0 (n : Int) (i : Int) (p : Int)) r
  | 0, _, e => by
    refine Ev.step (fun k => ?_) hr
    have e1 : insK (cmpK L) out x = x :: out := by unfold insK; rw [e]; rfl
    simp only [impl_sortKeys.ins.l1, e1]
    rw [if_neg (by omega), wrap_small (by omega) (by omega)]
    rfl
  | p + 1, hp, e => by
    have hlt : p < out.length := by omega
    have ep : wrap64 (((p + 1 : Nat) : Int) - 1) = (p : Int) := by rw [wrap_small (by omega) (by omega)]; omega
    have hlen : (out.take (p + 1) ++ (x :: (out.drop (p + 1) ++ rest))).length = n := by
      rw [List.length_append, List.length_cons, List.length_append, List.length_take, List.length_drop];omega
    have hc := clo_ev L v x out[p] hx (hf _ (List.getElem_mem hlt));rw [ipos, word_in out p hlt] at e;refine Ev.step (f := fun k => (impl_sortKeys.clo L k x out[p]).bind fun q => if q < 0 then impl_sortKeys.ins.l1 (impl_sortKeys.clo L) k (out.take p ++ (x :: (out.drop p ++ rest))) 0 (n : Int) (i : Int) (p : Int) else impl_sortKeys.ins.l0 (impl_sortKeys.clo L) k (out.take (p + 1) ++ (x :: (out.drop (p + 1) ++ rest))) 0 (n : Int) ((i + 1 : Nat) : Int)) (fun k => ?_) (Ev.bind hc ?_);(·simp only [impl_sortKeys.ins.l1, ep, hlen, rd_at out rest x (p + 1) (by omega), rd_below out rest x p hlt];rw [if_pos (by omega), if_pos (by omega), if_pos (by omega), if_pos (by omega), if_pos (by omega)];(congr 1);(funext q);rw [Int.toNat_natCast, Int.toNat_natCast, swp out rest x p hlt, wrap_small (by omega) (by omega)];rfl);(·by_cases c : cmpK L x out[p] < 0;(·rw [if_pos (decide_eq_true c)] at e;exact Ev.congr (fun _ => if_pos c) (sort_i1 L v n i out rest x ho hn hk hx hf r hr p (by omega) e));(·rw [if_neg (by rw [decide_eq_false c]; decide)] at e;refine Ev.congr (fun _ => if_neg c) ?_;unfold insK at hr;rw [e, List.append_assoc] at hr;exact hr))
theorem sort_i0 (L : List E2) (v : LV L) (n : Nat) (hk : n ≤ 1000) : ∀ (rest : List ByteArray) (i : Nat) (out : List ByteArray), i + rest.length = n → out.length = i → (∀ y ∈ out, 0 ≤ atK L y) → (∀ y ∈ rest, 0 ≤ atK L y) → Ev (fun k => impl_sortKeys.ins.l0 (impl_sortKeys.clo L) k (out ++ rest) 0 (n : Int) (i : Int)) (rest.foldl (insK (cmpK L)) out)
  | [], i, out, hi, ho, hg, hf => by
    rw [List.append_nil];refine Ev.step (f := fun _ => some out) (fun k => ?_) (Ev.now _);simp only [impl_sortKeys.ins.l0];rw [if_neg (by rw [List.length_nil] at hi; omega)]
  | x :: rest, i, out, hi, ho, hg, hf => by
    rw [List.length_cons] at hi;have hx := hf x List.mem_cons_self;have ih := sort_i0 L v n hk rest (i + 1) (insK (cmpK L) out x) (by omega) (by rw [insK_len]; omega) (fun y hy => ((insK_mem _ _ _ _).1 hy).elim (fun e => e ▸ hx) (hg y)) (fun y hy => hf y (List.mem_cons_of_mem _ hy));rw [List.foldl_cons];have h1 := sort_i1 L v n i out rest x ho (by omega) hk hx hg _ ih out.length (by omega) rfl;rw [List.take_length, List.drop_length, ho] at h1;refine Ev.step (fun k => ?_) h1;simp only [impl_sortKeys.ins.l0];rw [if_pos (by omega)];rfl
theorem sort_i (L : List E2) (v : LV L) (K : List ByteArray) (kv : KV L K) : Ev (fun k => impl_sortKeys.f k L K) (srtK (cmpK L) K) := by
  have hk := kv.l;unfold impl_sortKeys.f impl_sortKeys.srt.f;refine Ev.congr (fun _ => if_pos (by omega)) ?_;(have hw : IntKind.u64.wrap (K.length : Int) = (K.length : Int) := by show ((K.length : Int)) % 18446744073709551616 = _; omega)
  have hb : bits_Len.f (IntKind.u64.wrap (K.length : Int)) = some ((Lib.bitLen K.length : Nat) : Int) := by
    rw [hw];unfold bits_Len.f;rw [if_pos (by omega), if_pos (by omega), Int.toNat_natCast]
  simp only [hb, Option.bind_some];refine Ev.bind (a := srtK (cmpK L) K) ?_ (Ev.now _);unfold impl_sortKeys.pdq.f;refine Ev.step (f := fun k => (impl_sortKeys.ins.f k K 0 (K.length : Int) (impl_sortKeys.clo L)).bind fun t => some t) (fun k => ?_) (Ev.bind ?_ (Ev.now _));(·simp only [impl_sortKeys.pdq.l0];rw [wrap_small (by omega) (by omega), if_pos (by omega)])
  · unfold impl_sortKeys.ins.f
    cases K with
    | nil =>
      refine Ev.step (f := fun _ => some []) (fun k => ?_) (Ev.now _);simp only [impl_sortKeys.ins.l0];rw [if_neg (by rw [wrap_small (by omega) (by omega)]; simp)]
    | cons x K =>
      have := sort_i0 L v (x :: K).length (by omega) K 1 [x] (by rw [List.length_cons]; omega) rfl (fun y hy => by rw [List.mem_singleton] at hy; rw [hy]; exact kv.f x List.mem_cons_self) (fun y hy => kv.f y (List.mem_cons_of_mem _ hy));rw [show wrap64 (0 + 1) = ((1 : Nat) : Int) from by rw [wrap_small (by omega) (by omega)]; rfl];exact this

end Go.Proofs.YthbcfjcmkngieaaGreatDoor.Pure
