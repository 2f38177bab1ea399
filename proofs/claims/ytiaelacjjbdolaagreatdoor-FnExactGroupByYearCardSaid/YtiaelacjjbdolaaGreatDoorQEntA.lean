/- Lemmas on the printed functions, without Go and memory. -/
import Derived.Test.YtiaelacjjbdolaaGreatDoorPx1
import Derived.Test.YtiaelacjjbdolaaGreatDoorPx3
import Derived.Test.YtiaelacjjbdolaaGreatDoorPx4
namespace Go.Proofs.YtiaelacjjbdolaaGreatDoor.Pure
open Go.RowKit Go.Proofs.YtiaelacjjbdolaaGreatDoor.Px Go.Proofs.YtiaelacjjbdolaaGreatDoorW.PrintWords Go.Proofs.YtiaelacjjbdolaaGreatDoorW.PrintLast
set_option linter.unusedVariables false
set_option linter.unusedSimpArgs false

theorem aU {x : Int} (h0 : -4611686018427387904 <= x) (h1 : x <= 4611686018427387904) : wrap64 x = x := by unfold wrap64; omega
theorem drop_at (s : ByteArray) (i : Int) (h0 : 0 <= i) (h1 : i < (s.size : Int)) : ∃ b : UInt8, s.data.toList.drop i.toNat = b :: s.data.toList.drop (i + 1).toNat /\ bt s i = (b.toNat : Int) := by
  (have hl : i.toNat < s.data.toList.length := by rw [cQ]; omega);refine ⟨s.data.toList[i.toNat], ?_, ?_⟩;(·rw [List.drop_eq_getElem_cons hl];(congr 2);omega);(·unfold bt;rw [dif_pos (by omega)];rfl)
theorem nl (s : ByteArray) (i : Int) (h1 : i = (s.size : Int)) : s.data.toList.drop i.toNat = [] := by
  apply List.drop_of_length_le;rw [cQ];omega
theorem cW (s : ByteArray) : s.toList = ([] : List UInt8) ↔ s.size = 0 := by
  rw [Lib.toList_data, <- cQ, List.length_eq_zero_iff]
theorem gQ {β : Type} (r : List β) (i : Nat) (h : i < r.length) (v : β) : (r.set i v).take (i + 1) = r.take i ++ [v] := by
  rw [List.take_succ_eq_append_getElem (by rw [List.length_set]; exact h), List.take_set_of_le (Nat.le_refl _), List.getElem_set_self]
theorem gJ {α β : Type} (f : α -> β) (l : List α) (i : Nat) (h : i < l.length) : (l.map f).take (i + 1) = (l.map f).take i ++ [f l[i]] := by
  rw [List.take_succ_eq_append_getElem (by rw [List.length_map]; exact h), List.getElem_map]
theorem ll {α : Type} (z : α) (l : List α) (i : Int) (h1 : i.toNat < l.length) : l.getD i.toNat z = l[i.toNat] := by
  rw [List.getD_eq_getElem?_getD, List.getElem?_eq_getElem h1];rfl
theorem nD {α : Type} (z : α) (l : List α) (i : Int) (h0 : 0 <= i) (h1 : i < (l.length : Int)) : l.getD i.toNat z ∈ l := by
  rw [ll z l i (by omega)];exact List.getElem_mem _
theorem ju {α : Type} (z : α) (l : List α) (i : Int) (h0 : 0 <= i) (h1 : i < (l.length : Int)) : l.drop i.toNat = l.getD i.toNat z :: l.drop (i + 1).toNat := by
  (have h : i.toNat < l.length := by omega);rw [List.drop_eq_getElem_cons h, ll z l i h, show (i + 1).toNat = i.toNat + 1 from by omega]
theorem jm {α : Type} (l : List α) (i : Int) (h1 : (l.length : Int) <= i) : l.drop i.toNat = [] := List.drop_of_length_le (by omega)
def ofL (l : List UInt8) : ByteArray := ⟨l.toArray⟩
theorem fk (s : ByteArray) : ofL s.data.toList = s := by unfold ofL; rw [Array.toArray_toList]
def sp (b : UInt8) : Bool := b == 32
def lR (l : List UInt8) : List UInt8 := (l.reverse.dropWhile sp).reverse
def lL (l : List UInt8) : List UInt8 := l.dropWhile sp
theorem lm (l : List UInt8) (b : UInt8) : lR (l ++ [b]) = if sp b = true then lR l else l ++ [b] := by
  unfold lR;rw [List.reverse_append, List.reverse_singleton, List.singleton_append, List.dropWhile_cons];(split);(·rfl);(·rw [List.reverse_cons, List.reverse_reverse])
theorem gz (l : List UInt8) (b : UInt8) : lL (b :: l) = if sp b = true then lL l else b :: l := by
  unfold lL;rw [List.dropWhile_cons]
theorem kG (l : List UInt8) (b : UInt8) : lR (b :: l) = if lR l = [] then (if sp b = true then [] else [b]) else b :: lR l := by
  unfold lR;rw [List.reverse_cons, List.dropWhile_append];by_cases h : List.dropWhile sp l.reverse = [];(·rw [if_pos (by rw [h]; rfl), if_pos (by rw [h]; rfl), List.dropWhile_cons];(split);(·rfl);(·rfl));(·rw [if_neg (by simpa using h), if_neg (by simpa using h), List.reverse_append, List.reverse_singleton, List.singleton_append])
theorem lLR (l : List UInt8) : lL (lR l) = lR (lL l) := by
  induction l with
  | nil => rfl
  | cons a t ih =>
    rw [gz, kG];by_cases ha : sp a = true;(·rw [if_pos ha, if_pos ha];by_cases h : lR t = [];(·rw [if_pos h, <- ih, h]);(·rw [if_neg h, gz, if_pos ha, ih]));(·rw [if_neg ha, if_neg ha, kG];by_cases h : lR t = [];(·rw [if_pos h, gz, if_neg ha, if_pos h, if_neg ha]);(·rw [if_neg h, gz, if_neg ha, if_neg h]))
theorem kH (s : ByteArray) (h : 0 < s.size) : ∃ (l : List UInt8) (b : UInt8), s.data.toList = l ++ [b] /\ bt s ((s.size : Int) - 1) = (b.toNat : Int) /\ (s.extract 0 ((s.size : Int) - 1).toNat).data.toList = l := by
  obtain ⟨b, hb, hv⟩ := drop_at s ((s.size : Int) - 1) (by omega) (by omega);have hl := cQ s;refine ⟨s.data.toList.take ((s.size : Int) - 1).toNat, b, ?_, hv, ?_⟩;(·have e := (List.take_append_drop ((s.size : Int) - 1).toNat s.data.toList).symm;rw [hb, nl s _ (show (s.size : Int) - 1 + 1 = (s.size : Int) from by omega)] at e;exact e);(·simp;rw [List.dropLast_eq_take, hl])
theorem jV (s : ByteArray) (h : 0 < s.size) : ∃ (l : List UInt8) (b : UInt8), s.data.toList = b :: l /\ bt s 0 = (b.toNat : Int) /\ (s.extract 1 s.size).data.toList = l := by
  obtain ⟨b, hb, hv⟩ := drop_at s 0 (by omega) (by omega);have hl := cQ s;refine ⟨s.data.toList.drop 1, b, ?_, hv, ?_⟩;(·(simpa using hb));(·simp only [ByteArray.data_extract, Array.toList_extract, List.extract_eq_take_drop];rw [List.take_of_length_le (by rw [List.length_drop, hl]; omega)])
theorem jk (b : UInt8) : ((b.toNat : Int) = 32) ↔ sp b = true := by
  unfold sp;rw [beq_iff_eq, <- UInt8.toNat_inj]
  show ((b.toNat : Int) = 32) ↔ b.toNat = 32
  omega
theorem fU (s : ByteArray) (h : s.size = 0) : s.data.toList = [] := List.eq_nil_of_length_eq_zero (by rw [cQ]; exact h)
theorem i8 : ∀ (n : Nat) (s : ByteArray) (k : Nat), s.size = n -> s.size <= 1099511627776 -> n < k -> ax.l0 k s 32 = some (ofL (lR s.data.toList))
  | 0, s, k, hn, hs, hk => by
    obtain ⟨k, rfl⟩ : ∃ m, k = m + 1 := ⟨k - 1, by omega⟩
    simp only [ax.l0];rw [if_neg (by omega), fU s hn];exact congrArg some ((fk s).symm.trans (by rw [fU s hn]; rfl))
  | n + 1, s, k, hn, hs, hk => by
    obtain ⟨k, rfl⟩ : ∃ m, k = m + 1 := ⟨k - 1, by omega⟩
    have hw : wrap64 ((s.size : Int) - 1) = (s.size : Int) - 1 := aU (by omega) (by omega);(have hz : (s.extract 0 ((s.size : Int) - 1).toNat).size = n := by rw [ByteArray.size_extract]; omega);obtain ⟨l, b, e1, e2, e3⟩ := kH s (by omega);simp only [ax.l0, hw];rw [if_pos (by omega), if_pos (by omega), if_pos (by omega), if_pos (show (s.size : Int) - 1 <= (s.size : Int) from by omega), i8 n _ k hz (by omega) (by omega), e2, e3, e1, lm];by_cases c : sp b = true;(·rw [if_pos ((jk b).2 c), if_pos c]);(·rw [if_neg (fun h => c ((jk b).1 h)), if_neg c, <- e1, fk])
theorem jl : ∀ (n : Nat) (s : ByteArray) (k : Nat), s.size = n -> n < k -> aH.l0 k s 32 = some (ofL (lL s.data.toList))
  | 0, s, k, hn, hk => by
    obtain ⟨k, rfl⟩ : ∃ m, k = m + 1 := ⟨k - 1, by omega⟩
    simp only [aH.l0];rw [if_neg (by omega), fU s hn];exact congrArg some ((fk s).symm.trans (by rw [fU s hn]; rfl))
  | n + 1, s, k, hn, hk => by
    obtain ⟨k, rfl⟩ : ∃ m, k = m + 1 := ⟨k - 1, by omega⟩
    (have hz : (s.extract 1 s.size).size = n := by rw [ByteArray.size_extract]; omega);obtain ⟨l, b, e1, e2, e3⟩ := jV s (by omega);simp only [aH.l0];rw [if_pos (by omega), if_pos (by omega), if_pos (show 1 <= (s.size : Int) from by omega), jl n _ k hz (by omega), e2, e3, e1, gz];by_cases c : sp b = true;(·rw [if_pos ((jk b).2 c), if_pos c]);(·rw [if_neg (fun h => c ((jk b).1 h)), if_neg c, <- e1, fk])
theorem mH (l : List UInt8) : (lR l).length <= l.length := by
  unfold lR;rw [List.length_reverse];exact Nat.le_trans (List.dropWhile_suffix sp).length_le (by rw [List.length_reverse]; exact Nat.le_refl _)
theorem nB (l : List UInt8) : (lL l).length <= l.length := (List.dropWhile_suffix sp).length_le
theorem ik (l : List UInt8) : (ofL l).size = l.length := by show l.toArray.size = _; simp
theorem hU (l : List UInt8) : (ofL l).data.toList = l := by simp [ofL]
def nz (s : ByteArray) : ByteArray := ofL (lR (lL s.data.toList))
theorem Trim_k (s : ByteArray) (hs : s.size <= 1099511627776) (k : Nat) (hk : s.size < k) : dp.f k s ⟨#[32]⟩ = some (nz s) := by
  unfold dp.f nz;rw [if_pos (by rfl), if_pos (by decide), <- lLR];have h1 : ax.f k s (bt (⟨#[32]⟩ : ByteArray) 0) = some (ofL (lR s.data.toList)) := i8 _ s k rfl hs hk;have hl := mH s.data.toList;have hd := cQ s
  have h2 : aH.f k (ofL (lR s.data.toList)) (bt (⟨#[32]⟩ : ByteArray) 0) = some (ofL (lL (lR s.data.toList))) := by
    have h := jl _ (ofL (lR s.data.toList)) k rfl (by rw [ik]; omega);rw [hU] at h;exact h
  rw [h1, Option.bind_some, h2]

def fB (p : Nat -> Bool) : Nat -> Nat -> Bool
  | _, 0 => true
  | i, d + 1 => p i && fB p (i + 1) d
theorem fS (p : Nat -> Bool) : ∀ (d i : Nat), fB p i d = true -> ∀ j, i <= j -> j < i + d -> p j = true
  | 0, _, _, j, h1, h2 => by omega
  | d + 1, i, h, j, h1, h2 => by
    rw [fB, Bool.and_eq_true] at h;by_cases e : j = i;(·(rw [e]; exact h.1));(·exact fS p d (i + 1) h.2 j (by omega) (by omega))
theorem kY (p : Nat -> Bool) : ∀ (d i : Nat), (∀ j, i <= j -> j < i + d -> p j = true) -> fB p i d = true
  | 0, _, _ => rfl
  | d + 1, i, h => by
    rw [fB, h i (Nat.le_refl _) (by omega), kY p d (i + 1) (fun j h1 h2 => h j (by omega) (by omega))];rfl
theorem jI (i0 n : Nat) (p : Nat -> Bool) (g : Nat -> Int -> Option Bool) (fin : Bool) (hg : ∀ (k i : Nat), i0 <= i -> i < n -> g (k + 1) (i : Int) = if p i = true then g k ((i + 1 : Nat) : Int) else some false) (hend : Ev (fun k => g k (n : Int)) fin) :
    ∀ (d i : Nat), i0 <= i -> i + d = n -> Ev (fun k => g k (i : Int)) (fB p i d && fin)
  | 0, i, _, hi => by
    obtain rfl : i = n := by omega
    simpa [fB] using hend
  | d + 1, i, h0, hi => by
    have ih := jI i0 n p g fin hg hend d (i + 1) (by omega) (by omega)
    cases hp : p i with
    | true =>
      rw [fB, hp, Bool.true_and]
      refine Ev.step (fun k => ?_) ih
      rw [hg k i h0 (by omega), hp, if_pos rfl]
    | false =>
      rw [fB, hp, Bool.false_and, Bool.false_and]
      refine Ev.step (f := fun _ => some false) (fun k => ?_) (Ev.now _)
      rw [hg k i h0 (by omega), hp, if_neg (by decide)]
theorem dh (i n : Nat) (h : i < n) (hn : n <= 1048576) : wrap64 ((i : Int) + 1) = ((i + 1 : Nat) : Int) := by rw [aU (by omega) (by omega)]; rfl
def l9 (c : Int) : Bool := decide (c >= 65) && decide (c <= 90)
def fY (c : Int) : Bool := decide (c >= 97) && decide (c <= 122)
def isDg (c : Int) : Bool := decide (c >= 48) && decide (c <= 57)
def iD (c : Int) : Bool := l9 c || fY c
theorem gf (c a b : Int) : (if c >= a then (some (decide (c <= b))) else (some false)) = some (decide (c >= a) && decide (c <= b)) := by
  by_cases h : c >= a;(·rw [if_pos h, decide_eq_true h, Bool.true_and]);(·rw [if_neg h, decide_eq_false h, Bool.false_and])
theorem up_s (c : Int) : cH.f c = some (l9 c) := gf _ _ _
theorem up_i (c : Int) : dr.f c = some (l9 c) := gf _ _ _
theorem lw_s (c : Int) : cp.f c = some (fY c) := gf _ _ _
theorem lw_i (c : Int) : bD.f c = some (fY c) := gf _ _ _
theorem dg_i (c : Int) : di.f c = some (isDg c) := gf _ _ _
theorem lN (a b : Bool) : (if a = true then some true else some b) = some (a || b) := by cases a <;> rfl
theorem lt_s (c : Int) : bJ.f c = some (iD c) := by
  unfold bJ.f;rw [up_s, lw_s, Option.bind_some, Option.bind_some, lN];rfl
theorem lt_i (c : Int) : bx.f c = some (iD c) := by
  unfold bx.f;rw [up_i, lw_i, Option.bind_some, Option.bind_some, lN];rfl
def inI (c a b : Int) : Bool := decide (c >= a) && decide (c <= b)
theorem mh (c a b : Int) : bm.f c a b = some (inI c a b) := gf _ _ _
theorem kB (c a b : Int) : av.f c a b = some (inI c a b) := gf _ _ _
theorem eG (c a b : Int) (h : inI c a b = true) : a <= c /\ c <= b := by
  unfold inI at h;simp only [Bool.and_eq_true, decide_eq_true_eq] at h;exact ⟨h.1, h.2⟩
theorem dg_if {α : Type} (c : Int) (A B : α) : (if c < 48 then B else if c > 57 then B else A) = if isDg c = true then A else B := by
  unfold isDg;by_cases h : c < 48;(·rw [if_pos h, if_neg (by rw [decide_eq_false (by omega : ¬ c >= 48)]; simp)]);(·by_cases h2 : c > 57;(·rw [if_neg h, if_pos h2, if_neg (by rw [decide_eq_false (by omega : ¬ c <= 57)]; simp)]);(·rw [if_neg h, if_neg h2, if_pos (by rw [decide_eq_true (by omega : c >= 48), decide_eq_true (by omega : c <= 57)]; rfl)]))
def m8 (s : ByteArray) (i : Nat) : Bool := fY (bt s (i : Int)) || isDg (bt s (i : Int))
def j7 (s : ByteArray) : Bool := inI (s.size : Int) 1 10 && (fY (bt s 0) && fB (m8 s) 0 s.size)
theorem key_s (s : ByteArray) (hs : s.size <= 1048576) : Ev (fun k => bq.f k s) (j7 s) := by
  unfold bq.f j7;simp only [mh, lw_s, Option.bind_some];have bad : Ev (fun k => bq.j0 k s true) false := Ev.step (f := fun _ => some false) (fun k => by simp only [bq.j0]; rw [if_pos trivial]) (Ev.now _)
  cases h : inI (s.size : Int) 1 10 with
  | false => exact Ev.congr (fun _ => if_neg (by decide)) bad
  | true =>
    have := eG _ _ _ h;refine Ev.congr (fun _ => (if_pos rfl).trans (if_pos (by omega))) ?_
    cases h2 : fY (bt s 0) with
    | false => exact bad
    | true =>
      have := jI 0 s.size (m8 s) (fun k i => bq.l0 k s i) true (fun k i _ hi => by
        simp only [bq.l0, lw_s, Option.bind_some];rw [if_pos (by omega), if_pos (by omega), dh i s.size hi hs, dg_if];unfold m8
        cases fY (bt s (i : Int)) <;> simp) (Ev.step (f := fun _ => some true) (fun k => by simp only [bq.l0]; rw [if_neg (by omega)]) (Ev.now _)) s.size 0 (Nat.le_refl _) (by omega)
      rw [Bool.and_true] at this;refine Ev.step (fun k => ?_) this;simp only [bq.j0];rw [if_neg (by decide)];rfl
theorem key_i (s : ByteArray) (hs : s.size <= 1048576) : Ev (fun k => be.f k s) (j7 s) := by
  unfold be.f j7;simp only [kB, lw_i, Option.bind_some];have bad : Ev (fun k => be.j0 k s true) false := Ev.step (f := fun _ => some false) (fun k => by simp only [be.j0]; rw [if_pos trivial]) (Ev.now _)
  cases h : inI (s.size : Int) 1 10 with
  | false => exact Ev.congr (fun _ => if_neg (by decide)) bad
  | true =>
    have := eG _ _ _ h;refine Ev.congr (fun _ => (if_pos rfl).trans (if_pos (by omega))) ?_
    cases h2 : fY (bt s 0) with
    | false => exact bad
    | true =>
      have := jI 0 s.size (m8 s) (fun k i => be.l0 k s i) true (fun k i _ hi => by
        simp only [be.l0, lw_i, dg_i, Option.bind_some];rw [if_pos (by omega), if_pos (by omega), dh i s.size hi hs];unfold m8
        cases fY (bt s (i : Int)) <;> simp) (Ev.step (f := fun _ => some true) (fun k => by simp only [be.l0]; rw [if_neg (by omega)]) (Ev.now _)) s.size 0 (Nat.le_refl _) (by omega)
      rw [Bool.and_true] at this;refine Ev.step (fun k => ?_) this;simp only [be.j0];rw [if_neg (by decide)];rfl
def prP (s : ByteArray) (i : Nat) : Bool := !(decide (bt s (i : Int) < 32)) && !(decide (bt s (i : Int) > 126))
def iX (s : ByteArray) : Bool := decide (s.size = 0) || (!(decide (bt s 0 = 32)) && !(decide (bt s ((s.size : Int) - 1) = 32)))
def eY (s : ByteArray) : Bool := decide (s.size <= 40) && (fB (prP s) 0 s.size && iX s)
theorem pr_if {α : Type} (c : Int) (A B : α) : (if c < 32 then B else if c > 126 then B else A) = if (!(decide (c < 32)) && !(decide (c > 126))) = true then A else B := by
  by_cases h : c < 32;(·rw [if_pos h, if_neg (by rw [decide_eq_true h]; simp)]);(·by_cases h2 : c > 126;(·rw [if_neg h, if_pos h2, if_neg (by rw [decide_eq_true h2]; simp)]);(·rw [if_neg h, if_neg h2, if_pos (by rw [decide_eq_false h, decide_eq_false h2]; rfl)]))
theorem jK (s : ByteArray) (hs : s.size <= 1048576) : Ev (fun k => bz.f k s) (eY s) := by
  unfold bz.f eY;by_cases c : s.size <= 40;(·rw [decide_eq_true c, Bool.true_and];refine Ev.congr (fun _ => if_neg (by omega)) ?_;refine jI 0 s.size (prP s) (fun k i => bz.l0 k s i) (iX s) (fun k i _ hi => ?_) (Ev.step (f := fun _ => some (iX s)) (fun k => ?_) (Ev.now _)) s.size 0 (Nat.le_refl _) (by omega);(·simp only [bz.l0];rw [if_pos (by omega), if_pos (by omega), dh i s.size hi hs, pr_if];rfl);(·simp only [bz.l0];rw [if_neg (by omega)];unfold iX;by_cases z : s.size = 0;(·(rw [if_pos ((cW s).2 z), decide_eq_true z]; rfl));(·have hw : wrap64 ((s.size : Int) - 1) = (s.size : Int) - 1 := aU (by omega) (by omega);rw [if_neg (fun e => z ((cW s).1 e)), if_pos (by omega), hw, decide_eq_false z, Bool.false_or];by_cases b0 : bt s 0 = 32;(·(rw [if_pos b0, decide_eq_true b0]; rfl));(·rw [if_neg b0, if_pos (by omega), if_pos (by omega), decide_eq_false b0, Bool.not_false, Bool.true_and];by_cases b1 : bt s ((s.size : Int) - 1) = 32;(·(rw [b1]; rfl));(·(rw [decide_eq_false b1, bne_iff_ne.2 b1]; rfl))))));(·rw [decide_eq_false c, Bool.false_and];exact Ev.congr (fun _ => if_pos (by omega)) (Ev.now _))
theorem mj (s : ByteArray) : ((nz s).toList == s.toList) = iX s := by
  rw [Lib.toList_data, Lib.toList_data];unfold nz iX;rw [hU, <- lLR];by_cases z : s.size = 0;(·(rw [decide_eq_true z, fU s z]; rfl))
  · rw [decide_eq_false z, Bool.false_or]
    obtain ⟨l, b, e1, e2, e3⟩ := kH s (by omega);obtain ⟨l', b', f1, f2, f3⟩ := jV s (by omega);(have hb : (bt s ((s.size : Int) - 1) = 32) ↔ sp b = true := by rw [e2]; exact jk b);(have hb' : (bt s 0 = 32) ↔ sp b' = true := by rw [f2]; exact jk b')
    have L : lR s.data.toList = if sp b = true then lR l else s.data.toList := by
      (conv => lhs; rw [e1, lm]);rw [<- e1]
    by_cases c : sp b = true
    · have h1 : ¬ lL (lR s.data.toList) = s.data.toList := fun h => by
        have a1 := congrArg List.length h;have a2 := nB (lR s.data.toList);rw [L, if_pos c] at a1 a2;have a3 := mH l;rw [e1] at a1;simp at a1;omega
      rw [beq_eq_false_iff_ne.2 h1, decide_eq_true (hb.2 c)];simp
    · rw [L, if_neg c, decide_eq_false (fun h => c (hb.1 h)), Bool.not_false, Bool.and_true, f1, gz]
      by_cases c' : sp b' = true;(·rw [if_pos c', decide_eq_true (hb'.2 c'), Bool.not_true];refine beq_eq_false_iff_ne.2 (fun h => ?_);have a1 := congrArg List.length h;have a2 := nB l';simp at a1;omega);(·rw [if_neg c', decide_eq_false (fun h => c' (hb'.1 h)), beq_self_eq_true];rfl)
theorem jA (s : ByteArray) (hs : s.size <= 1048576) : Ev (fun k => bd.f k s) (eY s) := by
  unfold bd.f eY cm.f;by_cases c : s.size <= 40
  · rw [decide_eq_true c, Bool.true_and]
    refine Ev.congr (fun _ => if_pos (by omega)) (Ev.bind ?_ (Ev.now _))
    have ht : Ev (fun k => dp.f k s ⟨#[32]⟩) (nz s) := ⟨s.size + 1, fun k hk => Trim_k s (by omega) k (by omega)⟩
    refine jI 0 s.size (prP s) (fun k i => cm.l0 k s i) (iX s) (fun k i _ hi => ?_) (Ev.step (f := fun k => (dp.f k s (⟨#[32]⟩ : ByteArray)).bind fun t => some (t.toList == s.toList)) (fun k => ?_) (Ev.bind ht ?_)) s.size 0 (Nat.le_refl _) (by omega);(·simp only [cm.l0];rw [if_pos (by omega), if_pos (by omega), dh i s.size hi hs, pr_if];rfl);(·simp only [cm.l0];rw [if_neg (by omega)]);(·rw [mj];exact Ev.now _)
  · rw [decide_eq_false c, Bool.false_and]
    exact Ev.congr (fun _ => if_neg (by omega)) (Ev.now _)
def wdP (s : ByteArray) (i : Nat) : Bool := iD (bt s (i : Int)) || ((decide (bt s (i : Int) = 45) || decide (bt s (i : Int) = 39)) && iD (bt s ((i : Int) - 1)))
def fK (s : ByteArray) : Bool := inI (s.size : Int) 1 12 && (iD (bt s 0) && (iD (bt s ((s.size : Int) - 1)) && fB (wdP s) 1 (s.size - 1)))
theorem wd_if (c : Int) (x y : Bool) (A : Option Bool) : (if x = true then A else if c = 45 then (if y = true then A else some false) else if c = 39 then (if y = true then A else some false) else some false) = if (x || ((decide (c = 45) || decide (c = 39)) && y)) = true then A else some false := by
  cases x;(·by_cases h : c = 45;(·(cases y <;> simp [h]));(·by_cases h2 : c = 39;(·(cases y <;> simp [h2]));(·simp [h, h2])));(·simp)
theorem jN (s : ByteArray) (hs : s.size <= 1048576) : Ev (fun k => aw.f k s) (fK s) := by
  unfold aw.f fK;simp only [mh, lt_s, Option.bind_some];have bad : Ev (fun k => aw.j0 k s true) false := Ev.step (f := fun _ => some false) (fun k => by simp only [aw.j0]; rw [if_pos trivial]) (Ev.now _)
  cases h : inI (s.size : Int) 1 12 with
  | false => exact Ev.congr (fun _ => if_neg (by decide)) bad
  | true =>
    have := eG _ _ _ h;have hw : wrap64 ((s.size : Int) - 1) = (s.size : Int) - 1 := aU (by omega) (by omega);refine Ev.congr (fun _ => (if_pos rfl).trans (if_pos (by omega))) ?_
    cases h2 : iD (bt s 0) with
    | false => exact Ev.congr (fun _ => if_neg (by decide)) bad
    | true =>
      rw [hw];refine Ev.congr (fun _ => (if_pos rfl).trans ((if_pos (by omega)).trans (if_pos (by omega)))) ?_
      cases h3 : iD (bt s ((s.size : Int) - 1)) with
      | false => exact bad
      | true =>
        have := jI 1 s.size (wdP s) (fun k i => aw.l0 k s i) true (fun k i h1 hi => by
          have hw2 : wrap64 ((i : Int) - 1) = (i : Int) - 1 := aU (by omega) (by omega);simp only [aw.l0, lt_s, Option.bind_some, hw2];rw [if_pos (by omega), if_pos (by omega), dh i s.size hi hs, if_pos (show 0 <= (i : Int) - 1 from by omega), if_pos (show (i : Int) - 1 < (s.size : Int) from by omega), wd_if]
          rfl) (Ev.step (f := fun _ => some true) (fun k => by simp only [aw.l0]; rw [if_neg (by omega)]) (Ev.now _)) (s.size - 1) 1 (Nat.le_refl _) (by omega)
        rw [Bool.and_true] at this;refine Ev.step (fun k => ?_) this;simp only [aw.j0];rw [if_neg (by decide)];rfl
theorem nS (s : ByteArray) (hs : s.size <= 1048576) : Ev (fun k => ap.f k s) (fK s) := by
  unfold ap.f fK;simp only [kB, lt_i, Option.bind_some];have bad : Ev (fun k => ap.j0 k s true) false := Ev.step (f := fun _ => some false) (fun k => by simp only [ap.j0]; rw [if_pos trivial]) (Ev.now _)
  cases h : inI (s.size : Int) 1 12 with
  | false => exact Ev.congr (fun _ => if_neg (by decide)) bad
  | true =>
    have := eG _ _ _ h;have hw : wrap64 ((s.size : Int) - 1) = (s.size : Int) - 1 := aU (by omega) (by omega);rw [hw];refine Ev.congr (fun _ => (if_pos rfl).trans ((if_pos (by omega)).trans (if_pos (by omega)))) ?_
    cases h3 : iD (bt s ((s.size : Int) - 1)) with
    | false =>
      rw [Bool.false_and, Bool.and_false, Bool.and_false];exact Ev.congr (fun _ => if_neg (by decide)) bad
    | true =>
      refine Ev.congr (fun _ => (if_pos rfl).trans (if_pos (by omega))) ?_
      cases h2 : iD (bt s 0) with
      | false => exact bad
      | true =>
        have := jI 1 s.size (wdP s) (fun k i => ap.l0 k s i) true (fun k i h1 hi => by
          have hw2 : wrap64 ((i : Int) - 1) = (i : Int) - 1 := aU (by omega) (by omega);simp only [ap.l0, lt_i, Option.bind_some, hw2];rw [if_pos (by omega), if_pos (by omega), dh i s.size hi hs, if_pos (show 0 <= (i : Int) - 1 from by omega), if_pos (show (i : Int) - 1 < (s.size : Int) from by omega), wd_if]
          rfl) (Ev.step (f := fun _ => some true) (fun k => by simp only [ap.l0]; rw [if_neg (by omega)]) (Ev.now _)) (s.size - 1) 1 (Nat.le_refl _) (by omega)
        rw [Bool.and_true] at this
        have z : Ev (fun k => ap.l0 k s 0) (fB (wdP s) 1 (s.size - 1)) := by
          refine Ev.step (fun k => ?_) this;simp only [ap.l0, lt_i, Option.bind_some, h2];rw [if_pos (by omega), if_pos (by omega), if_pos trivial, show wrap64 (0 + 1) = ((1 : Nat) : Int) from by rw [aU (by omega) (by omega)]; rfl]
        refine Ev.step (fun k => ?_) z;simp only [ap.j0];rw [if_neg (by decide)]
def eO (s : ByteArray) : Bool := fK s && l9 (bt s 0)
theorem gm (s : ByteArray) (h : fK s = true) : 1 <= s.size /\ s.size <= 12 := by
  unfold fK at h;rw [Bool.and_eq_true] at h;have := eG _ _ _ h.1;omega
theorem lf (s : ByteArray) (hs : s.size <= 1048576) : Ev (fun k => cY.f k s) (eO s) := by
  unfold cY.f eO;refine Ev.bind (nS s hs) ?_
  cases h : fK s with
  | false => exact Ev.congr (fun _ => if_neg (by decide)) (Ev.now _)
  | true =>
    have := gm s h;rw [up_i];exact Ev.congr (fun _ => (if_pos rfl).trans (if_pos (by omega))) (Ev.now _)

end Go.Proofs.YtiaelacjjbdolaaGreatDoor.Pure
