/- Lemmas on the printed functions, without Go and memory. -/
import Derived.Test.YtiaelacjjbdolaaGreatDoorPx1
import Derived.Test.YtiaelacjjbdolaaGreatDoorPx2
import Derived.Test.YtiaelacjjbdolaaGreatDoorPx4
import Derived.Test.YtiaelacjjbdolaaGreatDoorPx5
import Derived.Test.YtiaelacjjbdolaaGreatDoorQLibA
namespace Go.Proofs.YtiaelacjjbdolaaGreatDoor.Pure
open Go.RowKit Go.Proofs.YtiaelacjjbdolaaGreatDoor.Px Go.Proofs.YtiaelacjjbdolaaGreatDoorW.PrintWords Go.Proofs.YtiaelacjjbdolaaGreatDoorW.PrintLast
set_option linter.unusedVariables false
set_option linter.unusedSimpArgs false

def fV (f : ByteArray -> Bool) (out : List ByteArray) : Nat -> Nat
  | 0 => 0
  | p + 1 => if f (aC ByteArray.empty out (p : Int)) = true then fV f out p else p + 1
theorem jM (f : ByteArray -> Bool) (out : List ByteArray) : ∀ p, fV f out p <= p
  | 0 => Nat.le_refl _
  | p + 1 => by
    rw [fV];(split);(·have := jM f out p;omega);(·exact Nat.le_refl _)
def ft (c : ByteArray -> ByteArray -> Int) (out : List ByteArray) (x : ByteArray) : List ByteArray := out.take (fV (fun y => decide (c x y < 0)) out out.length) ++ (x :: out.drop (fV (fun y => decide (c x y < 0)) out out.length))
theorem jd (c : ByteArray -> ByteArray -> Int) (out : List ByteArray) (x : ByteArray) : (ft c out x).length = out.length + 1 := by
  have := jM (fun y => decide (c x y < 0)) out out.length;unfold ft;rw [List.length_append, List.length_cons, List.length_take, List.length_drop];omega
theorem ib (c : ByteArray -> ByteArray -> Int) (out : List ByteArray) (x y : ByteArray) : y ∈ ft c out x ↔ y = x \/ y ∈ out := by
  unfold ft;rw [List.mem_append, List.mem_cons];have := List.mem_append (a := y) (s := out.take (fV (fun y => decide (c x y < 0)) out out.length)) (t := out.drop (fV (fun y => decide (c x y < 0)) out out.length));rw [List.take_append_drop] at this;rw [this];exact or_left_comm
def eN (c : ByteArray -> ByteArray -> Int) (K : List ByteArray) : List ByteArray := K.foldl (ft c) []
theorem fT (c : ByteArray -> ByteArray -> Int) (y : ByteArray) : ∀ (K out : List ByteArray), y ∈ K.foldl (ft c) out ↔ y ∈ K \/ y ∈ out
  | [], out => by simp
  | x :: K, out => by
    rw [List.foldl_cons, fT c y K, ib, List.mem_cons];(constructor);(·rintro (h | h | h);(·exact Or.inl (Or.inr h));(·exact Or.inl (Or.inl h));(·exact Or.inr h));(·rintro ((h | h) | h);(·exact Or.inr (Or.inl h));(·exact Or.inl h);(·exact Or.inr (Or.inr h)))
def eK (L : List E2) (a b : ByteArray) : Int := mm (en (aa L (atK L a))) (en (aa L (atK L b)))
theorem lA (L : List E2) (K : List ByteArray) (i : Nat) (hi : i < K.length) (out : List ByteArray) (ho : out.length = i) (hk : K.length <= 1000) (r : List ByteArray) (p : Nat) (hp : p <= i) (hr : Ev (fun k => am.l0 k K (out.take p ++ (K[i] :: out.drop p)) ((i + 1 : Nat) : Int) L) r) : Ev (fun k => am.j2 k K out (i : Int) (p : Int) L) r := by
  refine Ev.step (fun k => ?_) hr;(have e1 : (([] ++ out.take (p : Int).toNat ++ [K[i]]) ++ out.drop (p : Int).toNat) = out.take p ++ (K[i] :: out.drop p) := by rw [Int.toNat_natCast, List.nil_append, List.append_assoc]; rfl);simp only [am.j2, dW K i hi, Option.bind_some];rw [if_pos (by omega), if_pos (by omega), if_pos (by rw [List.length_nil, List.length_take]; omega), if_pos (by omega), if_pos (by omega), if_pos (by rw [List.nil_append, List.length_take, List.length_cons, List.length_nil]; omega), if_pos (by rw [List.length_append, List.nil_append, List.length_take, List.length_drop, List.length_cons, List.length_nil]; omega), dh i K.length hi (by omega), e1]
theorem lz (L : List E2) (v : LV L) (K : List ByteArray) (i : Nat) (hi : i < K.length) (out : List ByteArray) (ho : out.length = i) (hk : K.length <= 1000) (hx : 0 <= atK L K[i]) (hf : ∀ y ∈ out, 0 <= atK L y) (r : List ByteArray) (hr : Ev (fun k => am.l0 k K (ft (eK L) out K[i]) ((i + 1 : Nat) : Int) L) r) :
    ∀ (p : Nat), p <= i -> fV (fun y => decide (eK L K[i] y < 0)) out out.length = fV (fun y => decide (eK L K[i] y < 0)) out p -> Ev (fun k => am.l1 k K out (i : Int) (p : Int) L) r
  | 0, _, e => by
    unfold ft at hr
    rw [e] at hr
    refine Ev.step (fun k => ?_) (lA L K i hi out ho hk r 0 (by omega) hr)
    simp only [am.l1]
    rw [if_neg (by omega)]
  | p + 1, hp, e => by
    have hl := v.l
    have ep : wrap64 (((p + 1 : Nat) : Int) - 1) = (p : Int) := by rw [aU (by omega) (by omega)]; omega
    have hy : 0 <= atK L (aC ByteArray.empty out (p : Int)) := by rw [dW out p (by omega)]; exact hf _ (List.getElem_mem _)
    have hxl := j5 L K[i]
    have hyl := j5 L (aC ByteArray.empty out (p : Int))
    have hc := cmp_E_s _ _ (v.v _ hx hxl) (v.v _ hy hyl)
    rw [fV] at e
    refine Ev.step (f := fun k => (ck.f k L K[i]).bind fun t => if 0 <= t then (if t < (L.length : Int) then (ck.f k L (aC ByteArray.empty out (p : Int))).bind fun u => if 0 <= u then (if u < (L.length : Int) then (lC k (en (aa L t)) (en (aa L u))).bind fun q => if q < 0 then am.l1 k K out (i : Int) (p : Int) L else am.j2 k K out (i : Int) ((p + 1 : Nat) : Int) L else none) else none else none) else none) (fun k => ?_) ?_
    · simp only [am.l1, dW K i hi, ep]
      rw [if_pos (by omega), if_pos (by omega), if_pos (by omega)]
      congr 1
      funext t
      congr 2
      rw [if_pos (by omega), if_pos (by omega)]
      rfl
    · refine Ev.bind (kC L (by omega) _) (Ev.congr (fun _ => (if_pos hx).trans (if_pos hxl)) (Ev.bind (kC L (by omega) _) (Ev.congr (fun _ => (if_pos hy).trans (if_pos hyl)) (Ev.bind hc ?_))))
      by_cases c : eK L K[i] (aC ByteArray.empty out (p : Int)) < 0
      · rw [if_pos (decide_eq_true c)] at e
        exact Ev.congr (fun _ => if_pos c) (lz L v K i hi out ho hk hx hf r hr p (by omega) e)
      · rw [if_neg (by rw [decide_eq_false c]; decide)] at e
        unfold ft at hr
        rw [e] at hr
        exact Ev.congr (fun _ => if_neg c) (lA L K i hi out ho hk r (p + 1) (by omega) hr)
theorem k6 (L : List E2) (v : LV L) (K : List ByteArray) (hk : K.length <= 1000) (hf : ∀ y ∈ K, 0 <= atK L y) : ∀ (d i : Nat) (out : List ByteArray), i + d = K.length -> out.length = i -> (∀ y ∈ out, 0 <= atK L y) -> Ev (fun k => am.l0 k K out (i : Int) L) ((K.drop i).foldl (ft (eK L)) out)
  | 0, i, out, hi, ho, hg => by
    rw [List.drop_of_length_le (by omega)];refine Ev.step (f := fun _ => some out) (fun k => ?_) (Ev.now _);simp only [am.l0];rw [if_neg (by omega)]
  | d + 1, i, out, hi, ho, hg => by
    (have hlt : i < K.length := by omega);have hx := hf _ (List.getElem_mem hlt);have ih := k6 L v K hk hf d (i + 1) (ft (eK L) out K[i]) (by omega) (by rw [jd]; omega) (fun y hy => ((ib _ _ _ _).1 hy).elim (fun e => e ▸ hx) (hg y));rw [List.drop_eq_getElem_cons hlt, List.foldl_cons];refine Ev.step (f := fun k => am.l1 k K out (i : Int) (out.length : Int) L) (fun k => ?_) (lz L v K i hlt out ho hk hx hg _ ih out.length (by omega) rfl);simp only [am.l0];rw [if_pos (by omega)]
theorem sort_s (L : List E2) (v : LV L) (K : List ByteArray) (kv : KV L K) : Ev (fun k => am.f k L K) (eN (eK L) K) := k6 L v K (by have := kv.l; omega) kv.f K.length 0 [] (by omega) rfl (fun _ h => by cases h)
theorem clo_ev (L : List E2) (v : LV L) (a b : ByteArray) (ha : 0 <= atK L a) (hb : 0 <= atK L b) : Ev (fun k => ab.clo L k a b) (eK L a b) := by
  refine Ev.congr (fun _ => (if_pos ha).trans (if_pos hb)) ?_;exact cmp_E_i _ _ (v.v _ ha (j5 L a)) (v.v _ hb (j5 L b))
theorem swp {α : Type} (out r : List α) (x : α) (j : Nat) (hj : j < out.length) : ((out.take (j + 1) ++ (x :: (out.drop (j + 1) ++ r))).set (j + 1) out[j]).set j x = out.take j ++ (x :: (out.drop j ++ r)) := by
  rw [List.take_succ_eq_append_getElem hj];(have h1 : (out.take j).length = j := by rw [List.length_take]; omega);rw [List.append_assoc, List.set_append_right _ _ (by omega), h1, List.set_append_right _ _ (by omega), h1];simp;rw [List.drop_eq_getElem_cons hj];rfl
theorem rd_at (out r : List ByteArray) (x : ByteArray) (j : Nat) (hj : j <= out.length) : aC ByteArray.empty (out.take j ++ (x :: (out.drop j ++ r))) (j : Int) = x := by
  (have h1 : (out.take j).length = j := by rw [List.length_take]; omega);rw [dW _ j (by rw [List.length_append, List.length_cons]; omega), List.getElem_append_right (by omega)];simp [h1]
theorem mX (out r : List ByteArray) (x : ByteArray) (j : Nat) (hj : j < out.length) : aC ByteArray.empty (out.take (j + 1) ++ (x :: (out.drop (j + 1) ++ r))) (j : Int) = out[j] := by
  (have h1 : (out.take (j + 1)).length = j + 1 := by rw [List.length_take]; omega);rw [dW _ j (by rw [List.length_append, List.length_cons]; omega), List.getElem_append_left (by omega), List.getElem_take]
theorem lu (L : List E2) (v : LV L) (n i : Nat) (out rest : List ByteArray) (x : ByteArray) (ho : out.length = i) (hn : i + 1 + rest.length = n) (hk : n <= 1000) (hx : 0 <= atK L x) (hf : ∀ y ∈ out, 0 <= atK L y) (r : List ByteArray) (hr : Ev (fun k => ab.ins.l0 (ab.clo L) k (ft (eK L) out x ++ rest) 0 (n : Int) ((i + 1 : Nat) : Int)) r) :
    ∀ (p : Nat), p <= i -> fV (fun y => decide (eK L x y < 0)) out out.length = fV (fun y => decide (eK L x y < 0)) out p -> Ev (fun k => ab.ins.l1 (ab.clo L) k (out.take p ++ (x :: (out.drop p ++ rest))) 0 (n : Int) (i : Int) (p : Int)) r
  | 0, _, e => by
    refine Ev.step (fun k => ?_) hr
    have e1 : ft (eK L) out x = x :: out := by unfold ft; rw [e]; rfl
    simp only [ab.ins.l1, e1]
    rw [if_neg (by omega), aU (by omega) (by omega)]
    rfl
  | p + 1, hp, e => by
    have hlt : p < out.length := by omega
    have ep : wrap64 (((p + 1 : Nat) : Int) - 1) = (p : Int) := by rw [aU (by omega) (by omega)]; omega
    have hlen : (out.take (p + 1) ++ (x :: (out.drop (p + 1) ++ rest))).length = n := by
      rw [List.length_append, List.length_cons, List.length_append, List.length_take, List.length_drop];omega
    have hc := clo_ev L v x out[p] hx (hf _ (List.getElem_mem hlt));rw [fV, dW out p hlt] at e;refine Ev.step (f := fun k => (ab.clo L k x out[p]).bind fun q => if q < 0 then ab.ins.l1 (ab.clo L) k (out.take p ++ (x :: (out.drop p ++ rest))) 0 (n : Int) (i : Int) (p : Int) else ab.ins.l0 (ab.clo L) k (out.take (p + 1) ++ (x :: (out.drop (p + 1) ++ rest))) 0 (n : Int) ((i + 1 : Nat) : Int)) (fun k => ?_) (Ev.bind hc ?_);(·simp only [ab.ins.l1, ep, hlen, rd_at out rest x (p + 1) (by omega), mX out rest x p hlt];rw [if_pos (by omega), if_pos (by omega), if_pos (by omega), if_pos (by omega), if_pos (by omega)];(congr 1);(funext q);rw [Int.toNat_natCast, Int.toNat_natCast, swp out rest x p hlt, aU (by omega) (by omega)];rfl);(·by_cases c : eK L x out[p] < 0;(·rw [if_pos (decide_eq_true c)] at e;exact Ev.congr (fun _ => if_pos c) (lu L v n i out rest x ho hn hk hx hf r hr p (by omega) e));(·rw [if_neg (by rw [decide_eq_false c]; decide)] at e;refine Ev.congr (fun _ => if_neg c) ?_;unfold ft at hr;rw [e, List.append_assoc] at hr;exact hr))
theorem kR (L : List E2) (v : LV L) (n : Nat) (hk : n <= 1000) : ∀ (rest : List ByteArray) (i : Nat) (out : List ByteArray), i + rest.length = n -> out.length = i -> (∀ y ∈ out, 0 <= atK L y) -> (∀ y ∈ rest, 0 <= atK L y) -> Ev (fun k => ab.ins.l0 (ab.clo L) k (out ++ rest) 0 (n : Int) (i : Int)) (rest.foldl (ft (eK L)) out)
  | [], i, out, hi, ho, hg, hf => by
    rw [List.append_nil];refine Ev.step (f := fun _ => some out) (fun k => ?_) (Ev.now _);simp only [ab.ins.l0];rw [if_neg (by rw [List.length_nil] at hi; omega)]
  | x :: rest, i, out, hi, ho, hg, hf => by
    rw [List.length_cons] at hi;have hx := hf x List.mem_cons_self;have ih := kR L v n hk rest (i + 1) (ft (eK L) out x) (by omega) (by rw [jd]; omega) (fun y hy => ((ib _ _ _ _).1 hy).elim (fun e => e ▸ hx) (hg y)) (fun y hy => hf y (List.mem_cons_of_mem _ hy));rw [List.foldl_cons];have h1 := lu L v n i out rest x ho (by omega) hk hx hg _ ih out.length (by omega) rfl;rw [List.take_length, List.drop_length, ho] at h1;refine Ev.step (fun k => ?_) h1;simp only [ab.ins.l0];rw [if_pos (by omega)];rfl
theorem sort_i (L : List E2) (v : LV L) (K : List ByteArray) (kv : KV L K) : Ev (fun k => ab.f k L K) (eN (eK L) K) := by
  have hk := kv.l;unfold ab.f ab.srt.f;refine Ev.congr (fun _ => if_pos (by omega)) ?_;(have hw : IntKind.u64.wrap (K.length : Int) = (K.length : Int) := by show ((K.length : Int)) % 18446744073709551616 = _; omega)
  have hb : bits_Len.f (IntKind.u64.wrap (K.length : Int)) = some ((Lib.bitLen K.length : Nat) : Int) := by
    rw [hw];unfold bits_Len.f;rw [if_pos (by omega), if_pos (by omega), Int.toNat_natCast]
  simp only [hb, Option.bind_some];refine Ev.bind (a := eN (eK L) K) ?_ (Ev.now _);unfold ab.pdq.f;refine Ev.step (f := fun k => (ab.ins.f k K 0 (K.length : Int) (ab.clo L)).bind fun t => some t) (fun k => ?_) (Ev.bind ?_ (Ev.now _));(·simp only [ab.pdq.l0];rw [aU (by omega) (by omega), if_pos (by omega)])
  · unfold ab.ins.f
    cases K with
    | nil =>
      refine Ev.step (f := fun _ => some []) (fun k => ?_) (Ev.now _);simp only [ab.ins.l0];rw [if_neg (by rw [aU (by omega) (by omega)]; simp)]
    | cons x K =>
      have := kR L v (x :: K).length (by omega) K 1 [x] (by rw [List.length_cons]; omega) rfl (fun y hy => by rw [List.mem_singleton] at hy; rw [hy]; exact kv.f x List.mem_cons_self) (fun y hy => kv.f y (List.mem_cons_of_mem _ hy));rw [show wrap64 (0 + 1) = ((1 : Nat) : Int) from by rw [aU (by omega) (by omega)]; rfl];exact this

end Go.Proofs.YtiaelacjjbdolaaGreatDoor.Pure
