/- Lemmas on the printed functions, without Go and memory. -/
import Derived.Test.YtmemcncbkgcbeaaDoorPx10
import Derived.Test.YtmemcncbkgcbeaaDoorPx11
import Derived.Test.YtmemcncbkgcbeaaDoorPx13
import Derived.Test.YtmemcncbkgcbeaaDoorPx4
import Derived.Test.YtmemcncbkgcbeaaDoorPx5
import Derived.Test.YtmemcncbkgcbeaaDoorPx6
import Derived.Test.YtmemcncbkgcbeaaDoorPx7
import Derived.Test.YtmemcncbkgcbeaaDoorPx8
import Derived.Test.YtmemcncbkgcbeaaDoorPx9
import Derived.Test.YtmemcncbkgcbeaaDoorQPage
namespace Go.Proofs.YtmemcncbkgcbeaaDoor.Pure
open Go.RowKit Go.Proofs.YtmemcncbkgcbeaaDoor.Px Go.Proofs.YtmemcncbkgcbeaaDoorW.PrintWords Go.Proofs.YtmemcncbkgcbeaaDoorW.PrintLast
set_option linter.unusedVariables false
set_option linter.unusedSimpArgs false

/-! sorting and merging -/
def lcode (s : ByteArray) : Int := if s.size = 0 then -1 else bt s 0
theorem letter_cases (s : ByteArray) (h : letter s = true) : (s.data.toList = [] ∧ lcode s = -1) ∨ ∃ b : UInt8, s.data.toList = [b] ∧ lcode s = (b.toNat : Int) := by
  unfold letter at h
  by_cases c : s.size = 0
  · exact .inl ⟨List.eq_nil_of_length_eq_zero (by rw [data_length]; exact c), by unfold lcode; rw [if_pos c]⟩
  · rw [decide_eq_false c, Bool.false_or] at h
    have d : s.size = 1 := of_decide_eq_true (Bool.and_eq_true_iff.1 h).1
    obtain ⟨b, hb, hv⟩ := drop_at s 0 (by omega) (by omega)
    refine .inr ⟨b, ?_, by unfold lcode; rw [if_neg c]; exact hv⟩
    rw [Int.toNat_zero, List.drop_zero, drop_end s (0 + 1) (by omega)] at hb
    exact hb
theorem u8_lt (a b : UInt8) : (a < b) ↔ ((a.toNat : Int) < (b.toNat : Int)) := by
  rw [UInt8.lt_iff_toNat_lt]
  omega
theorem u8_eq (a b : UInt8) : (a = b) ↔ ((a.toNat : Int) = (b.toNat : Int)) := by
  rw [← UInt8.toNat_inj]
  omega
theorem less_code (s t : ByteArray) (hs : letter s = true) (ht : letter t = true) : Op.bytesLess s.toList t.toList = decide (lcode s < lcode t) := by
  rw [Lib.toList_data, Lib.toList_data]
  rcases letter_cases s hs with ⟨e, f⟩ | ⟨a, e, f⟩ <;> rcases letter_cases t ht with ⟨e', f'⟩ | ⟨b, e', f'⟩ <;> rw [e, e', f, f']
  · rfl
  · exact (decide_eq_true (by omega)).symm
  · exact (decide_eq_false (by omega)).symm
  · simp only [Op.bytesLess, Bool.and_false, Bool.or_false]
    by_cases c : a < b
    · rw [decide_eq_true c, decide_eq_true ((u8_lt a b).1 c)]
    · rw [decide_eq_false c, decide_eq_false (fun h => c ((u8_lt a b).2 h))]
theorem same_code (s t : ByteArray) (hs : letter s = true) (ht : letter t = true) : s.toList = t.toList ↔ lcode s = lcode t := by
  rw [Lib.toList_data, Lib.toList_data]
  rcases letter_cases s hs with ⟨e, f⟩ | ⟨a, e, f⟩ <;> rcases letter_cases t ht with ⟨e', f'⟩ | ⟨b, e', f'⟩ <;> rw [e, e', f, f']
  · simp
  · simp only [reduceCtorEq, false_iff]; try omega
  · simp only [reduceCtorEq, false_iff]; try omega
  · simp only [List.cons.injEq, and_true]
    exact u8_eq a b
def cmpI (a b : Int) : Int := if a < b then -1 else if b < a then 1 else 0
theorem comp_code (s t : ByteArray) (hs : letter s = true) (ht : letter t = true) : Lib.compareBytes s.data.toList t.data.toList = cmpI (lcode s) (lcode t) := by
  unfold cmpI
  rcases letter_cases s hs with ⟨e, f⟩ | ⟨a, e, f⟩ <;> rcases letter_cases t ht with ⟨e', f'⟩ | ⟨b, e', f'⟩ <;> rw [e, e', f, f']
  · rw [if_neg (by omega), if_neg (by omega)]; rfl
  · rw [if_pos (by omega)]; rfl
  · rw [if_neg (by omega), if_pos (by omega)]; rfl
  · simp only [Lib.compareBytes, u8_lt]
def key1 (x : Sp) : Int := lcode x.f0 * 1048576 + x.f1
def key2 (x : Sp) : Int := key1 x * 1048576 + x.f2
theorem key1_lt (x y : Sp) (hx : okr x = true) (hy : okr y = true) : key1 x < key1 y ↔ (lcode x.f0 < lcode y.f0 ∨ lcode x.f0 = lcode y.f0 ∧ x.f1 < y.f1) := by
  obtain ⟨_, a, b, c⟩ := okr_parts x hx
  obtain ⟨_, a', b', c'⟩ := okr_parts y hy
  unfold key1
  omega
theorem key2_lt (x y : Sp) (hx : okr x = true) (hy : okr y = true) : key2 x < key2 y ↔ (lcode x.f0 < lcode y.f0 ∨ lcode x.f0 = lcode y.f0 ∧ (x.f1 < y.f1 ∨ x.f1 = y.f1 ∧ x.f2 < y.f2)) := by
  obtain ⟨_, a, b, c⟩ := okr_parts x hx
  obtain ⟨_, a', b', c'⟩ := okr_parts y hy
  unfold key2 key1
  omega
theorem key21 (x y : Sp) (hx : okr x = true) (hy : okr y = true) (h : key2 x ≤ key2 y) : key1 x ≤ key1 y := by
  obtain ⟨_, a, b, c⟩ := okr_parts x hx
  obtain ⟨_, a', b', c'⟩ := okr_parts y hy
  unfold key2 at h
  omega
theorem key1_eq (x y : Sp) (hx : okr x = true) (hy : okr y = true) (h : key1 x = key1 y) : x.f0 = y.f0 ∧ x.f1 = y.f1 := by
  obtain ⟨l, a, b, c⟩ := okr_parts x hx
  obtain ⟨l', a', b', c'⟩ := okr_parts y hy
  unfold key1 at h
  exact ⟨str_inj _ _ ((same_code _ _ l l').2 (by omega)), by omega⟩
theorem before_eq (x y : Sp) (hx : okr x = true) (hy : okr y = true) : spec_l7Before.f x.f0 x.f1 x.f2 y.f0 y.f1 y.f2 = some (decide (key1 x < key1 y)) := by
  have k := key1_lt x y hx hy
  obtain ⟨l, _⟩ := okr_parts x hx
  obtain ⟨l', _⟩ := okr_parts y hy
  have s := same_code _ _ l l'
  unfold spec_l7Before.f
  rw [less_code _ _ l l']
  by_cases c : lcode x.f0 < lcode y.f0
  · rw [if_pos (decide_eq_true c), decide_eq_true (k.2 (.inl c))]
  · rw [if_neg (by rw [decide_eq_false c]; decide)]
    by_cases d : lcode x.f0 = lcode y.f0
    · rw [if_pos (s.2 d)]
      congr 1
      rw [decide_eq_decide, k]
      omega
    · rw [if_neg (fun h => d (s.1 h)), decide_eq_false (fun h => by have := k.1 h; omega)]
theorem or3 (x y z : Int) (k : Nat) (hk : 5 ≤ k) : cmp_Or_int.f k [x, y, z] = some (if x = 0 then if y = 0 then z else y else x) := by
  obtain ⟨k, rfl⟩ : ∃ m, k = m + 4 := ⟨k - 4, by omega⟩
  unfold cmp_Or_int.f
  have w1 : wrap64 (0 + 1) = 1 := wrap_small (by omega) (by omega)
  have w2 : wrap64 (1 + 1) = 2 := wrap_small (by omega) (by omega)
  have w3 : wrap64 (2 + 1) = 3 := wrap_small (by omega) (by omega)
  have r0 : rd [x, y, z] 0 = x := rfl
  have r1 : rd [x, y, z] 1 = y := rfl
  have r2 : rd [x, y, z] 2 = z := rfl
  have l2 : (([x, y, z] : List Int).length : Int) = 3 := rfl
  simp only [cmp_Or_int.l0, w1, w2, w3, r0, r1, r2, l2]
  by_cases hx : x = 0
  · by_cases hy : y = 0
    · by_cases hz : z = 0
      · simp [hx, hy, hz]
      · simp [hx, hy, hz]
    · simp [hx, hy]
  · simp [hx]
theorem cmpInt (a b : Int) : cmp_Compare_int.f a b = some (cmpI a b) := by
  unfold cmp_Compare_int.f cmp_isNaN_int.f cmpI
  simp only [Option.bind_some]
  by_cases c : a < b
  · simp [c]
  · by_cases d : b < a
    · simp [c, d]
    · simp [c, d]
theorem closure_eq (x y : Sp) (hx : okr x = true) (hy : okr y = true) : ∃ c, (∀ k, 5 ≤ k → impl_mergePages_1.f k x.f0 x.f1 x.f2 y.f0 y.f1 y.f2 = some c) ∧ (c < 0 ↔ key2 x < key2 y) := by
  obtain ⟨l, _⟩ := okr_parts x hx
  obtain ⟨l', _⟩ := okr_parts y hy
  have sc : strings_Compare.f x.f0 y.f0 = some (cmpI (lcode x.f0) (lcode y.f0)) := by
    unfold strings_Compare.f bytealg_CompareString.f
    rw [Option.bind_some, comp_code _ _ l l']
  refine ⟨if cmpI (lcode x.f0) (lcode y.f0) = 0 then if cmpI x.f1 y.f1 = 0 then cmpI x.f2 y.f2 else cmpI x.f1 y.f1 else cmpI (lcode x.f0) (lcode y.f0), fun k hk => ?_, ?_⟩
  · unfold impl_mergePages_1.f
    rw [sc, cmpInt, cmpInt, Option.bind_some, Option.bind_some, Option.bind_some, or3 _ _ _ k hk, Option.bind_some]
  · rw [key2_lt x y hx hy]
    unfold cmpI
    (repeat' split) <;> omega
/-! the step of the merge -/
def joins (L r : Sp) : Prop := L.f0.toList = r.f0.toList ∧ r.f1 ≤ L.f2 + 1
instance (L r : Sp) : Decidable (joins L r) := by unfold joins; exact inferInstance
def join2 (L r : Sp) : Sp := ⟨L.f0, L.f1, mx L.f2 r.f2⟩
def stp (out : List Sp) (r : Sp) : List Sp := if 0 < out.length ∧ joins (out.getD (out.length - 1) z34) r then out.set (out.length - 1) (join2 (out.getD (out.length - 1) z34) r) else out ++ [r]
theorem stp_nil (r : Sp) : stp [] r = [r] := rfl
theorem stp_snoc (O : List Sp) (L r : Sp) : stp (O ++ [L]) r = if joins L r then O ++ [join2 L r] else O ++ [L] ++ [r] := by
  have e : (O ++ [L]).length - 1 = O.length := by simp
  have g : (O ++ [L]).getD O.length z34 = L := by simp [List.getD_eq_getElem?_getD]
  unfold stp
  rw [e, g]
  by_cases c : joins L r
  · rw [if_pos ⟨by simp, c⟩, if_pos c]
    simp [List.set_append]
  · rw [if_neg (fun h => c h.2), if_neg c]
theorem nil_or_snoc (out : List Sp) : out = [] ∨ ∃ O L, out = O ++ [L] := by
  rcases List.eq_nil_or_concat out with h | ⟨O, L, h⟩
  · exact .inl h
  · exact .inr ⟨O, L, by rw [h, List.concat_eq_append]⟩
theorem mx_comm3 (a b c : Int) : mx (mx a b) c = mx (mx a c) b := by
  unfold mx
  (repeat' split) <;> omega
theorem mx_comm (a b : Int) : mx a b = mx b a := by
  unfold mx
  split <;> split <;> omega
theorem mx_ge (a b : Int) : a ≤ mx a b ∧ b ≤ mx a b := by
  unfold mx
  split <;> omega
theorem stp_swap (out : List Sp) (r s : Sp) (h0 : r.f0 = s.f0) (h1 : r.f1 = s.f1) (hr : r.f1 ≤ r.f2) (hs : s.f1 ≤ s.f2) : stp (stp out r) s = stp (stp out s) r := by
  have hrs : joins r s := ⟨by rw [h0], by omega⟩
  have hsr : joins s r := ⟨by rw [h0], by omega⟩
  have e : join2 r s = join2 s r := by
    unfold join2
    rw [h0, h1, mx_comm]
  rcases nil_or_snoc out with rfl | ⟨O, L, rfl⟩
  · rw [stp_nil, stp_nil]
    have a := stp_snoc [] r s
    have b := stp_snoc [] s r
    rw [if_pos hrs] at a
    rw [if_pos hsr] at b
    simp only [List.nil_append] at a b
    rw [a, b, e]
  · rw [stp_snoc, stp_snoc]
    have hj : joins L r ↔ joins L s := by unfold joins; rw [h0, h1]
    by_cases c : joins L r
    · have g1 := (mx_ge L.f2 r.f2).1
      have g2 := (mx_ge L.f2 s.f2).1
      have c' := hj.1 c
      rw [if_pos c, if_pos c', stp_snoc, stp_snoc, if_pos (show joins (join2 L r) s from ⟨c'.1, by have := c'.2; show s.f1 ≤ mx L.f2 r.f2 + 1; omega⟩), if_pos (show joins (join2 L s) r from ⟨c.1, by have := c.2; show r.f1 ≤ mx L.f2 s.f2 + 1; omega⟩)]
      unfold join2
      simp only [mx_comm3 L.f2 r.f2 s.f2]
    · rw [if_neg c, if_neg (fun h => c (hj.2 h)), stp_snoc, stp_snoc, if_pos hrs, if_pos hsr, e]
theorem fold_move (a : Sp) (B2 : List Sp) (ha : a.f1 ≤ a.f2) : ∀ (B1 : List Sp) (out : List Sp), (∀ b ∈ B1, b.f0 = a.f0 ∧ b.f1 = a.f1 ∧ b.f1 ≤ b.f2) → (B1 ++ a :: B2).foldl stp out = (a :: (B1 ++ B2)).foldl stp out
  | [], out, _ => rfl
  | b :: B1, out, h => by
    obtain ⟨h0, h1, h2⟩ := h b (by simp)
    have ih := fold_move a B2 ha B1 (stp out b) (fun c hc => h c (List.mem_cons_of_mem _ hc))
    simp only [List.cons_append, List.foldl_cons] at ih ⊢
    rw [ih, stp_swap out b a h0 h1 h2 ha]
abbrev Srt (key : Sp → Int) (l : List Sp) : Prop := l.Pairwise fun x y => key x ≤ key y
theorem fold_perm : ∀ (A B out : List Sp), A.Perm B → Srt key1 A → Srt key1 B → (∀ x ∈ A, okr x = true) → A.foldl stp out = B.foldl stp out
  | [], B, out, hp, _, _, _ => by rw [List.nil_perm.1 hp]
  | a :: A, B, out, hp, hA, hB, ho => by
    obtain ⟨B1, B2, rfl⟩ := List.append_of_mem (hp.subset (List.mem_cons_self (a := a) (l := A)))
    have oa := ho a (by simp)
    have hp2 : A.Perm (B1 ++ B2) := (hp.trans List.perm_middle).cons_inv
    have hmem : ∀ b ∈ B1, b ∈ A := fun b hb => hp2.symm.subset (List.mem_append_left _ hb)
    have hk : ∀ b ∈ B1, b.f0 = a.f0 ∧ b.f1 = a.f1 ∧ b.f1 ≤ b.f2 := fun b hb => by
      have ob := ho b (List.mem_cons_of_mem _ (hmem b hb))
      have l1 := (List.pairwise_append.1 hB).2.2 b hb a (by simp)
      have l2 := (List.pairwise_cons.1 hA).1 b (hmem b hb)
      obtain ⟨q0, q1⟩ := key1_eq b a ob oa (by omega)
      obtain ⟨_, _, q, _⟩ := okr_parts b ob
      exact ⟨q0, q1, q⟩
    obtain ⟨_, _, qa, _⟩ := okr_parts a oa
    rw [fold_move a B2 qa B1 out hk, List.foldl_cons, List.foldl_cons]
    exact fold_perm A (B1 ++ B2) (stp out a) hp2 (List.pairwise_cons.1 hA).2 (List.pairwise_append.2 ⟨(List.pairwise_append.1 hB).1, (List.pairwise_cons.1 (List.pairwise_append.1 hB).2.1).2, fun x hx y hy => (List.pairwise_append.1 hB).2.2 x hx y (List.mem_cons_of_mem _ hy)⟩) (fun x hx => ho x (List.mem_cons_of_mem _ hx))
theorem stp_len (out : List Sp) (r : Sp) : (stp out r).length ≤ out.length + 1 := by
  unfold stp
  split
  · rw [List.length_set]; omega
  · simp
theorem fold_len : ∀ (A out : List Sp), (A.foldl stp out).length ≤ out.length + A.length
  | [], out => by simp
  | a :: A, out => by
    have := fold_len A (stp out a)
    have := stp_len out a
    simp only [List.foldl_cons, List.length_cons]
    omega
/-! the sort of the reference -/
theorem rdT (l : List Sp) (i : Int) : rd_T34 l i = l.getD i.toNat z34 := rfl
theorem srt_take (key : Sp → Int) (S : List Sp) (x : Sp) (j : Nat) (hS : Srt key S) (hj : 0 < j) (hl : j ≤ S.length) (h : key (S.getD (j - 1) z34) ≤ key x) : ∀ y ∈ S.take j, key y ≤ key x := by
  intro y hy
  have e : S.take j = S.take (j - 1) ++ [S.getD (j - 1) z34] := by
    have hlt : j - 1 < S.length := by omega
    rw [List.getD_eq_getElem?_getD, List.getElem?_eq_getElem hlt]
    have := List.take_succ_eq_append_getElem hlt
    rw [show j - 1 + 1 = j from by omega] at this
    exact this
  have hp : Srt key (S.take j) := hS.sublist (List.take_sublist _ _)
  rw [e] at hy hp
  rcases List.mem_append.1 hy with hy | hy
  · have := (List.pairwise_append.1 hp).2.2 y hy _ (List.mem_singleton.2 rfl)
    omega
  · rw [List.mem_singleton.1 hy]
    exact h
theorem srt_put (key : Sp → Int) (S : List Sp) (x : Sp) (j : Nat) (hS : Srt key S) (h1 : ∀ y ∈ S.take j, key y ≤ key x) (h2 : ∀ y ∈ S.drop j, key x ≤ key y) : Srt key (S.take j ++ x :: S.drop j) := by
  have hS' := hS
  rw [← List.take_append_drop j S] at hS'
  obtain ⟨a, b, c⟩ := List.pairwise_append.1 hS'
  refine List.pairwise_append.2 ⟨a, List.pairwise_cons.2 ⟨h2, b⟩, fun y hy z hz => ?_⟩
  rcases List.mem_cons.1 hz with rfl | hz
  · exact h1 y hy
  · exact c y hy z hz
theorem put_perm (S : List Sp) (x : Sp) (j : Nat) : (S.take j ++ x :: S.drop j).Perm (x :: S) := by
  have := List.perm_middle (a := x) (l₁ := S.take j) (l₂ := S.drop j)
  rwa [List.take_append_drop] at this
theorem getD_ok (l : List Sp) (h : ∀ x ∈ l, okr x = true) (i : Nat) (hi : i < l.length) : okr (l.getD i z34) = true := by
  have := getD_mem z34 l (i : Int) (by omega) (by omega)
  rw [Int.toNat_natCast] at this
  exact h _ this
theorem spec_l1 (L : List Sp) (i : Nat) (hi : i < L.length) (hL : L.length ≤ 1000) (oL : ∀ x ∈ L, okr x = true) (S : List Sp) (hS : Srt key1 S) (oS : ∀ x ∈ S, okr x = true) (hl : S.length ≤ 1000) : ∀ j : Nat, j ≤ S.length → (∀ y ∈ S.drop j, key1 (L.getD i z34) ≤ key1 y) →
    ∃ S', S'.Perm (L.getD i z34 :: S) ∧ Srt key1 S' ∧ ∀ R, Ev (fun k => spec_l7Merge.l0 k L S' ((i + 1 : Nat) : Int)) R → Ev (fun k => spec_l7Merge.l1 k L S (i : Int) (j : Int)) R := by
  have hp : ∀ j : Nat, j ≤ S.length → (if 0 ≤ (j : Int) then if (j : Int) ≤ (S.length : Int) then True else False else False) := fun j hj => by rw [if_pos (by omega), if_pos (by omega)]; trivial
  intro j
  induction j with
  | zero =>
    intro hj hd
    refine ⟨S.take 0 ++ L.getD i z34 :: S.drop 0, put_perm S _ 0, srt_put key1 S _ 0 hS (by simp) hd, fun R hR => ?_⟩
    refine Ev.step (f := fun k => spec_l7Merge.l0 k L (S.take 0 ++ L.getD i z34 :: S.drop 0) ((i + 1 : Nat) : Int)) (fun k => ?_) hR
    simp only [spec_l7Merge.l1, rdT, Int.toNat_natCast]
    rw [if_neg (by omega)]
    simp only [Option.bind_some, List.length_append, List.length_take, List.length_drop, List.length_cons, List.length_nil, List.nil_append, Int.toNat_natCast]
    rw [if_pos (by omega), if_pos (by omega), if_pos (by omega), if_pos (by omega), if_pos (by omega), if_pos (by omega), if_pos (by omega), wrap_small (by omega) (by omega)]
    simp
  | succ j ih =>
    intro hj hd
    have e1 : ((j + 1 : Nat) : Int) - 1 = (j : Int) := by omega
    have hb := before_eq (L.getD i z34) (S.getD j z34) (getD_ok L oL i hi) (getD_ok S oS j (by omega))
    by_cases c : key1 (L.getD i z34) < key1 (S.getD j z34)
    · obtain ⟨S', p, s, ev⟩ := ih (by omega) (by
        intro y hy
        have hdc := drop_cons z34 S (j : Int) (by omega) (by omega)
        rw [Int.toNat_natCast] at hdc
        rw [hdc] at hy
        rcases List.mem_cons.1 hy with rfl | hy
        · omega
        · exact hd y (by rwa [show ((j : Int) + 1).toNat = j + 1 from by omega] at hy))
      refine ⟨S', p, s, fun R hR => Ev.step (fun k => ?_) (ev R hR)⟩
      simp only [spec_l7Merge.l1, rdT, Int.toNat_natCast]
      rw [if_pos (by omega), if_pos (by omega), if_pos (by omega), e1, wrap_small (x := (j : Int)) (by omega) (by omega), Int.toNat_natCast, hb, if_pos (by omega), if_pos (by omega), Option.bind_some, if_pos (decide_eq_true c)]
    · refine ⟨S.take (j + 1) ++ L.getD i z34 :: S.drop (j + 1), put_perm S _ _, srt_put key1 S _ _ hS (srt_take key1 S _ (j + 1) hS (by omega) hj (by simp only [Nat.add_sub_cancel]; omega)) hd, fun R hR => ?_⟩
      refine Ev.step (f := fun k => spec_l7Merge.l0 k L (S.take (j + 1) ++ L.getD i z34 :: S.drop (j + 1)) ((i + 1 : Nat) : Int)) (fun k => ?_) hR
      simp only [spec_l7Merge.l1, rdT, Int.toNat_natCast]
      rw [if_pos (by omega), if_pos (by omega), if_pos (by omega), e1, wrap_small (x := (j : Int)) (by omega) (by omega), Int.toNat_natCast, hb, if_pos (by omega), if_pos (by omega), Option.bind_some, if_neg (by rw [decide_eq_false c]; decide)]
      simp only [Option.bind_some, List.length_append, List.length_take, List.length_drop, List.length_cons, List.length_nil, List.nil_append, Int.toNat_natCast]
      rw [if_pos (by omega), if_pos (by omega), if_pos (by omega), if_pos (by omega), if_pos (by omega), wrap_small (by omega) (by omega)]
      simp
theorem spec_l0 (L : List Sp) (hL : L.length ≤ 100) (oL : ∀ x ∈ L, okr x = true) : ∀ (d i : Nat) (S : List Sp), i + d = L.length → S.length = i → Srt key1 S → (∀ x ∈ S, okr x = true) →
    ∃ S', S'.Perm (S ++ L.drop i) ∧ Srt key1 S' ∧ ∀ R, Ev (fun k => spec_l7Merge.l2 k S' [] 0) R → Ev (fun k => spec_l7Merge.l0 k L S (i : Int)) R
  | 0, i, S, hi, hl, hS, oS => ⟨S, by rw [List.drop_of_length_le (by omega), List.append_nil], hS, fun R hR => by
      refine Ev.step (fun k => ?_) hR
      simp only [spec_l7Merge.l0]
      rw [if_neg (by omega)]⟩
  | d + 1, i, S, hi, hl, hS, oS => by
    obtain ⟨S1, p1, s1, e1⟩ := spec_l1 L i (by omega) (by omega) oL S hS oS (by omega) S.length (Nat.le_refl _) (by simp)
    have hm : L.getD i z34 ∈ L := by
      have := getD_mem z34 L (i : Int) (by omega) (by omega)
      rwa [Int.toNat_natCast] at this
    obtain ⟨S2, p2, s2, e2⟩ := spec_l0 L hL oL d (i + 1) S1 (by omega) (by have := p1.length_eq; rw [List.length_cons] at this; omega) s1 (fun x hx => by
      rcases List.mem_cons.1 (p1.subset hx) with rfl | hx
      · exact oL _ hm
      · exact oS x hx)
    refine ⟨S2, p2.trans ?_, s2, fun R hR => Ev.step (fun k => ?_) (e1 R (e2 R hR))⟩
    · have hdc := drop_cons z34 L (i : Int) (by omega) (by omega)
      rw [Int.toNat_natCast, show ((i : Int) + 1).toNat = i + 1 from by omega] at hdc
      rw [hdc]
      exact (p1.append_right _).trans (by simpa using (List.perm_middle (a := L.getD i z34) (l₁ := S) (l₂ := L.drop (i + 1))).symm)
    · simp only [spec_l7Merge.l0]
      rw [if_pos (by omega)]
theorem last_at (O : List Sp) (L : Sp) : wrap64 (((O ++ [L]).length : Int) - 1) = (O.length : Int) ∨ 1000 < O.length := by
  by_cases h : O.length ≤ 1000
  · left
    rw [wrap_small (by simp <;> omega) (by simp <;> omega)]
    simp
  · right; omega
theorem stp_bd (out : List Sp) (x : Sp) (x2 : x.f1 ≤ x.f2) (x3 : x.f2 ≤ 99999) (x1 : 1 ≤ x.f1) (o1 : ∀ x ∈ out, x.f2 ≤ 99999) (o2 : ∀ x ∈ out, -1 ≤ x.f2) : (∀ y ∈ stp out x, y.f2 ≤ 99999) ∧ (∀ y ∈ stp out x, -1 ≤ y.f2) := by
  rcases nil_or_snoc out with rfl | ⟨O, L, rfl⟩
  · rw [stp_nil]
    exact ⟨fun y hy => by rw [List.mem_singleton.1 hy]; exact x3, fun y hy => by rw [List.mem_singleton.1 hy]; omega⟩
  · have hL1 := o1 L (by simp)
    have hL2 := o2 L (by simp)
    have hm : mx L.f2 x.f2 ≤ 99999 ∧ -1 ≤ mx L.f2 x.f2 := by unfold mx; split <;> omega
    rw [stp_snoc]
    split
    · refine ⟨fun y hy => ?_, fun y hy => ?_⟩ <;> rcases List.mem_append.1 hy with hy | hy
      · exact o1 y (by simp [hy])
      · rw [List.mem_singleton.1 hy]; exact hm.1
      · exact o2 y (by simp [hy])
      · rw [List.mem_singleton.1 hy]; exact hm.2
    · refine ⟨fun y hy => ?_, fun y hy => ?_⟩ <;> rcases List.mem_append.1 hy with hy | hy
      · exact o1 y hy
      · rw [List.mem_singleton.1 hy]; omega
      · exact o2 y hy
      · rw [List.mem_singleton.1 hy]; omega
theorem spec_l2 (S : List Sp) (hl : S.length ≤ 100) : ∀ (d i : Nat) (out : List Sp), i + d = S.length → out.length ≤ i → (∀ x ∈ S, okr x = true) → (∀ x ∈ out, x.f2 ≤ 99999) → (∀ x ∈ out, -1 ≤ x.f2) →
    Ev (fun k => spec_l7Merge.l2 k S out (i : Int)) ((S.drop i).foldl stp out)
  | 0, i, out, hi, hlen, oS, o1, o2 => by
    refine Ev.step (f := fun _ => some out) (fun k => ?_) ?_
    · simp only [spec_l7Merge.l2]
      rw [if_neg (by omega)]
    · rw [List.drop_of_length_le (by omega)]
      exact Ev.now out
  | d + 1, i, out, hi, hlen, oS, o1, o2 => by
    have hdc := drop_cons z34 S (i : Int) (by omega) (by omega)
    rw [Int.toNat_natCast, show ((i : Int) + 1).toNat = i + 1 from by omega] at hdc
    obtain ⟨_, x1, x2, x3⟩ := okr_parts _ (getD_ok S oS i (by omega))
    rw [hdc, List.foldl_cons]
    generalize hx : S.getD i z34 = x at *
    have hst := stp_bd out x x2 x3 x1 o1 o2
    have ih := spec_l2 S hl d (i + 1) (stp out x) (by omega) (by have := stp_len out x; omega) oS hst.1 hst.2
    refine Ev.step (f := fun k => spec_l7Merge.l2 k S (stp out x) ((i + 1 : Nat) : Int)) (fun k => ?_) ih
    have hw : wrap64 ((i : Int) + 1) = ((i + 1 : Nat) : Int) := by rw [wrap_small (by omega) (by omega)]; omega
    simp only [spec_l7Merge.l2, rdT, Int.toNat_natCast, hx, hw]
    rw [if_pos (by omega)]
    rcases nil_or_snoc out with rfl | ⟨O, L, rfl⟩
    · rw [if_neg (by simp), if_pos (by omega), Option.bind_some, if_pos (by simp), stp_nil]
      rfl
    · have hL1 := o1 L (by simp)
      have hL2 := o2 L (by simp)
      have hO : O.length ≤ 1000 := by simp at hlen; omega
      have hlast : wrap64 (((O ++ [L]).length : Int) - 1) = (O.length : Int) := by
        rcases last_at O L with h | h
        · exact h
        · omega
      have hg : (O ++ [L]).getD O.length z34 = L := by simp [List.getD_eq_getElem?_getD]
      have hset : ∀ v : Sp, (O ++ [L]).set O.length v = O ++ [v] := fun v => by simp [List.set_append]
      rw [if_pos (by simp <;> omega), hlast, if_pos (by omega), if_pos (by simp <;> omega), if_pos (by omega), stp_snoc]
      simp only [Int.toNat_natCast, hg, hset]
      have hmost : spec_l1Most.f L.f2 x.f2 = some (mx L.f2 x.f2) := by
        unfold spec_l1Most.f mx
        by_cases c : L.f2 > x.f2
        · rw [if_pos c, if_neg (by omega)]
        · rw [if_neg c]
          (split <;> congr 1) <;> omega
      rw [hmost, wrap_small (x := L.f2 + 1) (by omega) (by omega)]
      by_cases c : L.f0.toList = x.f0.toList
      · rw [if_pos c]
        by_cases c2 : x.f1 ≤ L.f2 + 1
        · rw [if_pos c2, if_pos (show joins L x from ⟨c, c2⟩)]
          rfl
        · rw [if_neg c2, if_neg (fun h : joins L x => c2 h.2), Option.bind_some, if_pos (by simp <;> omega)]
      · rw [if_neg c, if_neg (fun h : joins L x => c h.1), Option.bind_some, if_pos (by simp <;> omega)]
theorem spec_merge (L : List Sp) (hL : L.length ≤ 100) (oL : ∀ x ∈ L, okr x = true) : ∃ S, S.Perm L ∧ Srt key1 S ∧ Ev (fun k => spec_l7Merge.f k L) (S.foldl stp []) := by
  obtain ⟨S, p, s, e⟩ := spec_l0 L hL oL L.length 0 [] (by omega) rfl List.Pairwise.nil (fun x hx => by cases hx)
  rw [List.drop_zero, List.nil_append] at p
  have h2 := spec_l2 S (by rw [p.length_eq]; exact hL) S.length 0 [] (by omega) (by simp) (fun x hx => oL x (p.subset hx)) (fun x hx => by cases hx) (fun x hx => by cases hx)
  rw [List.drop_zero] at h2
  exact ⟨S, p, s, e _ h2⟩

/-! the sort of the program -/
theorem mid_get (A : List Sp) (b : Sp) (C : List Sp) : (A ++ b :: C).getD A.length z34 = b := by simp [List.getD_eq_getElem?_getD]
theorem mid_get1 (A : List Sp) (a b : Sp) (C : List Sp) : (A ++ a :: b :: C).getD (A.length + 1) z34 = b := by
  simp [List.getD_eq_getElem?_getD]
theorem mid_swap (A : List Sp) (a b u v : Sp) (C : List Sp) : ((A ++ a :: b :: C).set (A.length + 1) u).set A.length v = A ++ v :: u :: C := by
  simp [List.set_append]
theorem ins_l1 (n i : Nat) (hn : n ≤ 1000) (R2 : List Sp) : ∀ (P : List Sp) (x : Sp) (T : List Sp), (∀ y ∈ P ++ x :: T, okr y = true) → Srt key2 (P ++ T) → (∀ y ∈ T, key2 x ≤ key2 y) → P.length + 1 + T.length = i + 1 → P.length + 1 + T.length + R2.length = n → (∀ y ∈ R2, okr y = true) →
    ∃ Q, Q.Perm (P ++ x :: T) ∧ Srt key2 Q ∧ ∀ R, Ev (fun k => impl_PageRange_60.l0 k (Q ++ R2) 0 (n : Int) ((i + 1 : Nat) : Int)) R → Ev (fun k => impl_PageRange_60.l1 k (P ++ x :: T ++ R2) 0 (n : Int) (i : Int) (P.length : Int)) R := by
  intro P
  induction hP : P.length generalizing P with
  | zero =>
    intro x T ho hs hx hi hlen hr
    obtain rfl := List.eq_nil_of_length_eq_zero hP
    refine ⟨x :: T, List.Perm.refl _, List.pairwise_cons.2 ⟨hx, by simpa using hs⟩, fun R hR => Ev.step (fun k => ?_) hR⟩
    simp only [impl_PageRange_60.l1]
    rw [if_neg (by omega), wrap_small (by omega) (by omega)]
    rfl
  | succ m ih =>
    intro x T ho hs hx hi hlen hr
    rcases nil_or_snoc P with rfl | ⟨P', p, rfl⟩
    · simp at hP
    have hm : P'.length = m := by simpa using hP
    subst hm
    have op := ho p (by simp)
    have ox := ho x (by simp)
    obtain ⟨c, hc, hcc⟩ := closure_eq x p ox op
    have eD : P' ++ [p] ++ x :: T ++ R2 = P' ++ p :: x :: (T ++ R2) := by simp
    have hE : ∀ k, impl_PageRange_60.l1 (k + 1) (P' ++ [p] ++ x :: T ++ R2) 0 (n : Int) (i : Int) ((P'.length + 1 : Nat) : Int) = (impl_mergePages_1.f k x.f0 x.f1 x.f2 p.f0 p.f1 p.f2).bind fun t => if t < 0 then impl_PageRange_60.l1 k (P' ++ x :: p :: (T ++ R2)) 0 (n : Int) (i : Int) (P'.length : Int) else impl_PageRange_60.l0 k (P' ++ p :: x :: (T ++ R2)) 0 (n : Int) ((i + 1 : Nat) : Int) := by
      intro k
      have e1 : wrap64 (((P'.length + 1 : Nat) : Int) - 1) = (P'.length : Int) := by rw [wrap_small (by omega) (by omega)]; omega
      have e2 : wrap64 ((i : Int) + 1) = ((i + 1 : Nat) : Int) := by rw [wrap_small (by omega) (by omega)]; omega
      have hlp : ((P' ++ p :: x :: (T ++ R2)).length : Int) = P'.length + (T.length + R2.length + 2) := by simp; omega
      simp only [impl_PageRange_60.l1, rdT, e1, e2, eD]
      rw [if_pos (by omega), if_pos (by omega), if_pos (by omega), if_pos (by omega), if_pos (by omega)]
      simp only [Int.toNat_natCast, mid_get, mid_get1, mid_swap]
    by_cases cl : c < 0
    · have hlt := hcc.1 cl
      have hperm : (P' ++ x :: (p :: T)).Perm (P' ++ [p] ++ x :: T) := by
        rw [List.append_assoc]
        exact List.Perm.append_left _ (List.Perm.swap ..)
      have hs' := List.pairwise_append.1 hs
      obtain ⟨Q, q1, q2, q3⟩ := ih P' rfl x (p :: T) (fun y hy => ho y (hperm.subset hy)) (by simpa using hs) (fun y hy => by
        rcases List.mem_cons.1 hy with rfl | hy
        · omega
        · exact hx y hy) (by simp only [List.length_cons]; omega) (by simp only [List.length_cons]; omega) hr
      refine ⟨Q, q1.trans hperm, q2, fun R hR => Ev.step (fun k => hE k) ?_⟩
      refine Ev.bind (a := c) ⟨5, fun k hk => hc k hk⟩ ?_
      simp only [if_pos cl]
      have := q3 R hR
      simpa using this
    · refine ⟨P' ++ [p] ++ x :: T, List.Perm.refl _, ?_, fun R hR => Ev.step (fun k => hE k) ?_⟩
      · have hpx : key2 p ≤ key2 x := by
          have := fun h => cl (hcc.2 h)
          omega
        obtain ⟨a1, a2, a3⟩ := List.pairwise_append.1 hs
        refine List.pairwise_append.2 ⟨a1, List.pairwise_cons.2 ⟨hx, a2⟩, fun y hy z hz => ?_⟩
        rcases List.mem_cons.1 hz with rfl | hz
        · rcases List.mem_append.1 hy with hy | hy
          · have := (List.pairwise_append.1 a1).2.2 y hy p (by simp)
            omega
          · rw [List.mem_singleton.1 hy]; exact hpx
        · exact a3 y hy z hz
      · refine Ev.bind (a := c) ⟨5, fun k hk => hc k hk⟩ ?_
        simp only [if_neg cl]
        simpa using hR
theorem ins_l0 (n : Nat) (hn : n ≤ 1000) : ∀ (d i : Nat) (Q T : List Sp), i + d = n → Q.length = i → T.length = d → Srt key2 Q → (∀ y ∈ Q ++ T, okr y = true) →
    ∃ D, D.Perm (Q ++ T) ∧ Srt key2 D ∧ Ev (fun k => impl_PageRange_60.l0 k (Q ++ T) 0 (n : Int) (i : Int)) D
  | 0, i, Q, T, h, hq, ht, hs, ho => by
    obtain rfl := List.eq_nil_of_length_eq_zero ht
    refine ⟨Q, by simp, hs, Ev.step (f := fun _ => some Q) (fun k => ?_) (Ev.now Q)⟩
    simp only [impl_PageRange_60.l0, List.append_nil]
    rw [if_neg (by omega)]
  | d + 1, i, Q, T, h, hq, ht, hs, ho => by
    match T, ht with
    | x :: T, ht =>
      simp only [List.length_cons] at ht
      obtain ⟨Q1, p1, s1, e1⟩ := ins_l1 n i hn T Q x [] (fun y hy => ho y (by simp at hy ⊢; rcases hy with hy | hy; exact .inl hy; exact .inr (.inl hy))) (by simpa using hs) (fun y hy => by cases hy) (by simp; omega) (by simp; omega) (fun y hy => ho y (by simp [hy]))
      have pl := p1.length_eq
      simp only [List.length_append, List.length_cons, List.length_nil] at pl
      have p2 : (Q1 ++ T).Perm (Q ++ x :: T) := by
        have := p1.append_right T
        simpa using this
      obtain ⟨D, q1, q2, q3⟩ := ins_l0 n hn d (i + 1) Q1 T (by omega) (by omega) (by omega) s1 (fun y hy => ho y (p2.subset hy))
      refine ⟨D, q1.trans p2, q2, Ev.step (fun k => ?_) (e1 D q3)⟩
      simp only [impl_PageRange_60.l0, hq]
      rw [if_pos (by omega)]
      simp
theorem sort_k (L : List Sp) (hL : L.length ≤ 12) (oL : ∀ x ∈ L, okr x = true) : ∃ D, D.Perm L ∧ Srt key2 D ∧ Ev (fun k => impl_PageRange_32.f k L ()) D := by
  have hw : wrap64 (0 + 1) = 1 := wrap_small (by omega) (by omega)
  have key : ∃ D, D.Perm L ∧ Srt key2 D ∧ Ev (fun k => impl_PageRange_60.f k L 0 (L.length : Int) ()) D := by
    match L, hL, oL with
    | [], _, _ =>
      refine ⟨[], List.Perm.refl _, List.Pairwise.nil, Ev.step (f := fun _ => some []) (fun k => ?_) (Ev.now _)⟩
      unfold impl_PageRange_60.f
      rw [hw]
      simp only [impl_PageRange_60.l0]
      rw [if_neg (by simp)]
    | x :: T, hL, oL =>
      simp only [List.length_cons] at hL
      obtain ⟨D, q1, q2, q3⟩ := ins_l0 (T.length + 1) (by omega) T.length 1 [x] T (by omega) rfl rfl (by simp) (by simpa using oL)
      refine ⟨D, by simpa using q1, q2, Ev.congr (fun k => ?_) q3⟩
      unfold impl_PageRange_60.f
      rw [hw]
      rfl
  obtain ⟨D, q1, q2, q3⟩ := key
  refine ⟨D, q1, q2, ?_⟩
  unfold impl_PageRange_32.f bits_Len.f
  have hw2 : IntKind.u64.wrap ((L.length : Int)) = (L.length : Int) := by
    show ((L.length : Int)) % 18446744073709551616 = _
    omega
  rw [hw2, if_pos (by omega), if_pos (by omega)]
  simp only [Option.bind_some]
  refine Ev.bind (a := D) ?_ (Ev.now D)
  unfold impl_PageRange_48.f
  refine Ev.step (f := fun k => (impl_PageRange_60.f k L 0 (L.length : Int) ()).bind fun t => some t) (fun k => ?_) (Ev.bind q3 (Ev.now D))
  simp only [impl_PageRange_48.l0]
  rw [if_pos (by rw [wrap_small (by omega) (by omega)]; omega)]
theorem impl_l0 (S : List Sp) (hl : S.length ≤ 100) : ∀ (d i : Nat) (out : List Sp), i + d = S.length → out.length ≤ i → (∀ x ∈ S, okr x = true) → (∀ x ∈ out, x.f2 ≤ 99999) → (∀ x ∈ out, -1 ≤ x.f2) →
    Ev (fun k => impl_mergePages.l0 k out S (S.length : Int) (i : Int)) ((S.drop i).foldl stp out)
  | 0, i, out, hi, hlen, oS, o1, o2 => by
    refine Ev.step (f := fun _ => some out) (fun k => ?_) ?_
    · simp only [impl_mergePages.l0]
      rw [if_neg (by omega)]
    · rw [List.drop_of_length_le (by omega)]
      exact Ev.now out
  | d + 1, i, out, hi, hlen, oS, o1, o2 => by
    have hdc := drop_cons z34 S (i : Int) (by omega) (by omega)
    rw [Int.toNat_natCast, show ((i : Int) + 1).toNat = i + 1 from by omega] at hdc
    obtain ⟨_, x1, x2, x3⟩ := okr_parts _ (getD_ok S oS i (by omega))
    rw [hdc, List.foldl_cons]
    generalize hx : S.getD i z34 = x at *
    have hst := stp_bd out x x2 x3 x1 o1 o2
    have ih := impl_l0 S hl d (i + 1) (stp out x) (by omega) (by have := stp_len out x; omega) oS hst.1 hst.2
    refine Ev.step (f := fun k => impl_mergePages.l0 k (stp out x) S (S.length : Int) ((i + 1 : Nat) : Int)) (fun k => ?_) ih
    have hw : wrap64 ((i : Int) + 1) = ((i + 1 : Nat) : Int) := by rw [wrap_small (by omega) (by omega)]; omega
    simp only [impl_mergePages.l0, rdT, Int.toNat_natCast, hx, hw]
    rw [if_pos (by omega), if_pos (by omega), if_pos (by omega)]
    rcases nil_or_snoc out with rfl | ⟨O, L, rfl⟩
    · have e0 : wrap64 ((([] : List Sp).length : Int) - 1) = -1 := by rw [wrap_small (by simp) (by simp)]; rfl
      rw [e0, if_neg (by omega), if_pos (by simp), stp_nil]
      rfl
    · have hL1 := o1 L (by simp)
      have hL2 := o2 L (by simp)
      have hO : O.length ≤ 1000 := by simp at hlen; omega
      have hlast : wrap64 (((O ++ [L]).length : Int) - 1) = (O.length : Int) := by
        rcases last_at O L with h | h
        · exact h
        · omega
      have hg : (O ++ [L]).getD O.length z34 = L := by simp [List.getD_eq_getElem?_getD]
      have hset : ∀ v : Sp, (O ++ [L]).set O.length v = O ++ [v] := fun v => by simp [List.set_append]
      rw [hlast, if_pos (by omega), if_pos (by omega), if_pos (by simp <;> omega), stp_snoc]
      simp only [Int.toNat_natCast, hg, hset]
      rw [wrap_small (x := L.f2 + 1) (by omega) (by omega)]
      by_cases c : L.f0.toList = x.f0.toList
      · rw [if_pos c]
        by_cases c2 : x.f1 ≤ L.f2 + 1
        · rw [if_pos c2, if_pos (show joins L x from ⟨c, c2⟩)]
          rfl
        · rw [if_neg c2, if_neg (fun h : joins L x => c2 h.2), if_pos (by simp <;> omega)]
      · rw [if_neg c, if_neg (fun h : joins L x => c h.1), if_pos (by simp <;> omega)]
theorem merge_both (L : List Sp) (h : okl L = true) : ∃ R : List Sp, R.length ≤ 100 ∧ Ev (fun k => spec_l7Merge.f k L) R ∧ Ev (fun k => impl_mergePages.f k L) R := by
  have h' := Bool.and_eq_true_iff.1 h
  have oL := List.all_eq_true.1 h'.1
  have hn : L.length ≤ 8 := of_decide_eq_true (Bool.and_eq_true_iff.1 h'.2).2
  obtain ⟨S, p, s, e⟩ := spec_merge L (by omega) oL
  obtain ⟨D, p2, s2, e2⟩ := sort_k L (by omega) oL
  have oD : ∀ x ∈ D, okr x = true := fun x hx => oL x (p2.subset hx)
  have s1 : Srt key1 D := s2.imp_of_mem fun {a b} ha hb hab => key21 a b (oD a ha) (oD b hb) hab
  have hD := impl_l0 D (by rw [p2.length_eq]; omega) D.length 0 [] (by omega) (by simp) oD (fun x hx => by cases hx) (fun x hx => by cases hx)
  rw [List.drop_zero] at hD
  have hfold := fold_perm S D [] (p.trans p2.symm) s s1 (fun x hx => oL x (p.subset hx))
  refine ⟨S.foldl stp [], ?_, e, ?_⟩
  · have := fold_len S []
    rw [p.length_eq] at this
    simp at this
    omega
  · rw [hfold]
    unfold impl_mergePages.f
    simp only [Option.bind_some, List.length_nil, List.nil_append]
    refine Ev.congr (fun k => if_pos (by omega)) ?_
    refine Ev.bind e2 ?_
    rw [← p2.length_eq]
    exact hD

theorem wrap_in (a b : Int) : wrap64 (a + wrap64 b) = wrap64 (a + b) := by unfold wrap64; omega
theorem count_same (M : List Sp) (hl : M.length ≤ 100) : ∀ (d i : Nat) (n : Int), i + d = M.length → ∃ r, Ev (fun k => spec_l7Count.l0 k n M (i : Int)) r ∧ Ev (fun k => impl_countPages.l0 k n M (M.length : Int) (i : Int)) r
  | 0, i, n, hi => ⟨n, Ev.step (f := fun _ => some n) (fun k => by simp only [spec_l7Count.l0]; rw [if_neg (by omega)]) (Ev.now n), Ev.step (f := fun _ => some n) (fun k => by simp only [impl_countPages.l0]; rw [if_neg (by omega)]) (Ev.now n)⟩
  | d + 1, i, n, hi => by
    have hw : wrap64 ((i : Int) + 1) = ((i + 1 : Nat) : Int) := by rw [wrap_small (by omega) (by omega)]; omega
    obtain ⟨r, e1, e2⟩ := count_same M hl d (i + 1) (wrap64 (wrap64 (wrap64 (n + (rd_T34 M i).f2) - (rd_T34 M i).f1) + 1)) (by omega)
    have ew : wrap64 (n + wrap64 (wrap64 ((rd_T34 M i).f2 - (rd_T34 M i).f1) + 1)) = wrap64 (wrap64 (wrap64 (n + (rd_T34 M i).f2) - (rd_T34 M i).f1) + 1) := by unfold wrap64; omega
    refine ⟨r, Ev.step (fun k => ?_) e1, Ev.step (fun k => ?_) e2⟩
    · simp only [spec_l7Count.l0]
      rw [if_pos (by omega), if_pos (by omega), hw]
    · simp only [impl_countPages.l0]
      rw [if_pos (by omega), if_pos (by omega), if_pos (by omega), hw, ew]
theorem count_both (L : List Sp) (h : okl L = true) : ∃ r, Ev (fun k => spec_l7Count.f k L) r ∧ Ev (fun k => impl_countPages.f k L) r := by
  obtain ⟨R, hR, e1, e2⟩ := merge_both L h
  obtain ⟨r, f1, f2⟩ := count_same R hR R.length 0 0 (by omega)
  exact ⟨r, Ev.bind e1 f1, Ev.bind e2 f2⟩

end Go.Proofs.YtmemcncbkgcbeaaDoor.Pure
