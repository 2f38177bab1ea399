/- Lemmas on the printed functions, without Go and memory. -/
import Derived.Test.YtjckholdcgjdnaaDoorPx12
import Derived.Test.YtjckholdcgjdnaaDoorPx13
import Derived.Test.YtjckholdcgjdnaaDoorQPage
namespace Go.Proofs.YtjckholdcgjdnaaDoor.Pure
open Go.RowKit Go.Proofs.YtjckholdcgjdnaaDoor.Px Go.Proofs.YtjckholdcgjdnaaDoorW.PrintWords Go.Proofs.YtjckholdcgjdnaaDoorW.PrintLast
set_option linter.unusedVariables false
set_option linter.unusedSimpArgs false

/-- The text that marks a number. -/
theorem tdiv_small (x : Int) (h : 0 < x) : Int.tdiv x 10 = x / 10 := Int.tdiv_eq_ediv_of_nonneg (by omega)
theorem pow10_le (d : Nat) (h : d ≤ 18) : (10 : Int) ^ d ≤ 1000000000000000000 := by
  have h1 : (10 : Int) ^ 18 = 1000000000000000000 := by decide
  rw [← h1, show (18 : Nat) = d + (18 - d) from by omega, Int.pow_add]
  have h2 : (1 : Int) ≤ 10 ^ (18 - d) := Int.add_one_le_of_lt (Int.pow_pos (by omega))
  have h3 : (0 : Int) ≤ 10 ^ d := Int.le_of_lt (Int.pow_pos (by omega))
  calc (10 : Int) ^ d = 10 ^ d * 1 := (Int.mul_one _).symm
    _ ≤ 10 ^ d * 10 ^ (18 - d) := Int.mul_le_mul_of_nonneg_left h2 h3
theorem markText_l0 (d : Nat) : ∀ (k : Nat) (x : Int) (o : ByteArray), 0 ≤ x → x < 10 ^ d → d ≤ 18 → d < k → o.size + d ≤ 40 → ∃ t, laws_markText.l0 k x o = some t ∧ ∀ k', d < k' → laws_markText.l0 k' x o = some t := by
  induction d with
  | zero =>
    intro k x o h0 h1 hd hk ho
    have : x = 0 := by simp at h1; omega
    subst this
    refine ⟨(⟨#[109]⟩ : ByteArray) ++ o, ?_, fun k' hk' => ?_⟩
    · obtain ⟨k, rfl⟩ : ∃ m, k = m + 1 := ⟨k - 1, by omega⟩
      simp only [laws_markText.l0]
      rw [if_neg (by omega), if_pos (by omega)]
    · obtain ⟨k', rfl⟩ : ∃ m, k' = m + 1 := ⟨k' - 1, by omega⟩
      simp only [laws_markText.l0]
      rw [if_neg (by omega), if_pos (by omega)]
  | succ d ih =>
    intro k x o h0 h1 hd hk ho
    by_cases c : x > 0
    · have hx : x / 10 < 10 ^ d := by
        have e : (10 : Int) ^ (d + 1) = 10 ^ d * 10 := by rw [Int.pow_succ]
        rw [e] at h1
        omega
      have hb : x < 1000000000000000000 := Int.lt_of_lt_of_le h1 (pow10_le (d + 1) hd)
      have hq : wrap64 (Int.tdiv x 10) = x / 10 := by
        rw [tdiv_small x c]
        exact wrap_small (by omega) (by omega)
      have hs : (strOfNums [(wrap64 (48 + (Int.tmod x 10))) % 256]).size = 1 := by rw [strOfNums_size]; rfl
      obtain ⟨t, _, ht⟩ := ih (d + 1) (x / 10) (strOfNums [(wrap64 (48 + (Int.tmod x 10))) % 256] ++ o) (by omega) hx (by omega) (by omega) (by rw [ByteArray.size_append, hs]; omega)
      refine ⟨t, ?_, fun k' hk' => ?_⟩
      · obtain ⟨k, rfl⟩ : ∃ m, k = m + 1 := ⟨k - 1, by omega⟩
        simp only [laws_markText.l0, Option.bind_some]
        rw [if_pos c, if_pos (by rw [hs]; omega), hq]
        exact ht k (by omega)
      · obtain ⟨k', rfl⟩ : ∃ m, k' = m + 1 := ⟨k' - 1, by omega⟩
        simp only [laws_markText.l0, Option.bind_some]
        rw [if_pos c, if_pos (by rw [hs]; omega), hq]
        exact ht k' (by omega)
    · refine ⟨(⟨#[109]⟩ : ByteArray) ++ o, ?_, fun k' hk' => ?_⟩
      · obtain ⟨k, rfl⟩ : ∃ m, k = m + 1 := ⟨k - 1, by omega⟩
        simp only [laws_markText.l0]
        rw [if_neg c, if_pos (by omega)]
      · obtain ⟨k', rfl⟩ : ∃ m, k' = m + 1 := ⟨k' - 1, by omega⟩
        simp only [laws_markText.l0]
        rw [if_neg c, if_pos (by omega)]
theorem markText_ex (n : Int) (h1 : n < 10 ^ 18) : ∃ t, ∀ k, 20 ≤ k → laws_markText.f k n = some t := by
  by_cases c : n ≤ 0
  · exact ⟨(⟨#[109, 48]⟩ : ByteArray), fun k _ => by unfold laws_markText.f; rw [if_pos c]⟩
  · obtain ⟨t, _, ht⟩ := markText_l0 18 19 n (⟨#[]⟩ : ByteArray) (by omega) h1 (by omega) (by omega) (by decide)
    exact ⟨t, fun k hk => by unfold laws_markText.f; rw [if_neg c]; exact ht k (by omega)⟩
noncomputable def mtx (n : Int) : ByteArray := if h : n < 10 ^ 18 then Classical.choose (markText_ex n h) else ⟨#[]⟩
theorem markText_k (n : Int) (h : n < 10 ^ 18) (k : Nat) (hk : 20 ≤ k) : laws_markText.f k n = some (mtx n) := by
  unfold mtx
  rw [dif_pos h]
  exact Classical.choose_spec (markText_ex n h) k hk
/-- Lists that are marked. -/
noncomputable def marked (n : Int) : List Sp → List Sp
  | [] => []
  | _ :: l => ⟨mtx n, n + 1, n + 2⟩ :: marked (n + 3) l
theorem marked_length (l : List Sp) : ∀ n, (marked n l).length = l.length := by
  induction l with
  | nil => intro n; rfl
  | cons x l ih => intro n; simp [marked, ih]
theorem markPageRangeS_l0 (d : Nat) : ∀ (k : Nat) (i n : Int) (l : List Sp), l.length ≤ 1048576 → 0 ≤ i → i + d = l.length → d + 20 < k → 0 ≤ n → n + 3 * d ≤ 100000000 → laws_markPageRangeS.l0 k l n i = some (n + 3 * d, l.take i.toNat ++ marked n (l.drop i.toNat)) := by
  induction d with
  | zero =>
    intro k i n l hl h0 h1 hk hn0 hn
    obtain ⟨k, rfl⟩ : ∃ m, k = m + 1 := ⟨k - 1, by omega⟩
    simp only [laws_markPageRangeS.l0]
    rw [if_neg (by omega), drop_none l i (by omega), List.take_of_length_le (by omega)]
    simp [marked]
  | succ d ih =>
    intro k i n l hl h0 h1 hk hn0 hn
    obtain ⟨k, rfl⟩ : ∃ m, k = m + 1 := ⟨k - 1, by omega⟩
    have hil : i.toNat < l.length := by omega
    simp only [laws_markPageRangeS.l0]
    rw [if_pos (by omega), markText_k n (by omega) k (by omega), Option.bind_some, if_pos h0]
    simp only [Option.bind_some]
    have w1 : wrap64 (n + 1) = n + 1 := wrap_small (by omega) (by omega)
    have w2 : wrap64 (n + 1 + 1) = n + 2 := by rw [wrap_small (by omega) (by omega)]; omega
    have w3 : wrap64 (n + 2 + 1) = n + 3 := by rw [wrap_small (by omega) (by omega)]; omega
    rw [w1, w2, w3, wrap_small (x := i + 1) (by omega) (by omega)]
    have r0 : ∀ (m : List Sp) (v : Sp), m.length = l.length → rd_T27 (m.set i.toNat v) i = v := by
      intro m v hm
      unfold rd_T27
      rw [List.getD_eq_getElem?_getD, List.getElem?_set_self (by omega)]
      rfl
    simp only [r0 (l.set i.toNat _) _ (List.length_set ..), r0 l _ rfl, List.set_set]
    rw [ih k (i + 1) (n + 3) _ (by rw [List.length_set]; exact hl) (by omega) (by rw [List.length_set]; omega) (by omega) (by omega) (by omega)]
    have e : (i + 1).toNat = i.toNat + 1 := by omega
    rw [e, take_set_succ _ _ hil, List.drop_set_of_lt (by omega), List.drop_eq_getElem_cons hil]
    simp only [marked, List.append_assoc, List.singleton_append]
    congr 2
    omega
theorem markPageRangeS_k (l : List Sp) (hl : l.length ≤ 1048576) (k : Nat) (hk : l.length + 20 < k) : laws_markPageRangeS.f k l 1 = some (1 + 3 * (l.length : Int), marked 1 l) := by
  unfold laws_markPageRangeS.f
  have := markPageRangeS_l0 l.length k 0 1 l hl (by omega) (by omega) hk (by omega) (by omega)
  simpa using this
theorem heldPageRangeS_l0 (m : List Sp) (hm : m.length ≤ 1048576) (d : Nat) : ∀ (k : Nat) (i n : Int) (l : List Sp), 0 ≤ i → i + d = m.length → l.length = d → d + 20 < k → 0 ≤ n → n + 3 * d ≤ 100000000 → m.drop i.toNat = marked n l → laws_heldPageRangeS.l0 k m n i = some (n + 3 * d) := by
  induction d with
  | zero =>
    intro k i n l h0 h1 hl hk hn0 hn hd
    obtain ⟨k, rfl⟩ : ∃ m, k = m + 1 := ⟨k - 1, by omega⟩
    simp only [laws_heldPageRangeS.l0]
    rw [if_neg (by omega)]
    simp
  | succ d ih =>
    intro k i n l h0 h1 hl hk hn0 hn hd
    obtain ⟨k, rfl⟩ : ∃ m, k = m + 1 := ⟨k - 1, by omega⟩
    match l, hl with
    | x :: l, hl =>
      have hc := drop_cons z27 m i h0 (by omega)
      rw [hd] at hc
      simp only [marked] at hc
      injection hc with hx ht
      simp only [laws_heldPageRangeS.l0]
      have e : rd_T27 m i = m.getD i.toNat z27 := rfl
      have w1 : wrap64 (n + 1) = n + 1 := wrap_small (by omega) (by omega)
      have w2 : wrap64 (n + 1 + 1) = n + 2 := by rw [wrap_small (by omega) (by omega)]; omega
      have w3 : wrap64 (n + 2 + 1) = n + 3 := by rw [wrap_small (by omega) (by omega)]; omega
      rw [if_pos (by omega), if_pos h0, markText_k n (by omega) k (by omega), Option.bind_some, e, ← hx, if_pos rfl, w1, w2, w3, if_pos rfl, if_pos rfl, wrap_small (x := i + 1) (by omega) (by omega)]
      rw [ih k (i + 1) (n + 3) l (by omega) (by omega) (by simpa using hl) (by omega) (by omega) (by omega) ht.symm]
      congr 1
      omega
theorem heldPageRangeS_k (l : List Sp) (hl : l.length ≤ 1048576) (k : Nat) (hk : l.length + 20 < k) : laws_heldPageRangeS.f k (marked 1 l) 1 = some (1 + 3 * (l.length : Int)) := by
  unfold laws_heldPageRangeS.f
  exact heldPageRangeS_l0 (marked 1 l) (by rw [marked_length]; exact hl) l.length k 0 1 l (by omega) (by rw [marked_length]; omega) rfl hk (by omega) (by omega) (by simp)

end Go.Proofs.YtjckholdcgjdnaaDoor.Pure
