/- Lemmas on the printed functions, without Go and memory. -/
import Derived.Test.YtmemcncbkgcbeaaGreatDoorPx3
namespace Go.Proofs.YtmemcncbkgcbeaaGreatDoor.Pure
open Go.RowKit Go.Proofs.YtmemcncbkgcbeaaGreatDoor.Px Go.Proofs.YtmemcncbkgcbeaaGreatDoorW.PrintWords Go.Proofs.YtmemcncbkgcbeaaGreatDoorW.PrintLast
set_option linter.unusedVariables false
set_option linter.unusedSimpArgs false

theorem wrap_small {x : Int} (h0 : -4611686018427387904 ≤ x) (h1 : x ≤ 4611686018427387904) : wrap64 x = x := by unfold wrap64; omega
theorem toList_nil (s : ByteArray) : s.toList = ([] : List UInt8) ↔ s.size = 0 := by
  rw [Lib.toList_data, ← data_length, List.length_eq_zero_iff]
theorem getD_at {α : Type} (z : α) (l : List α) (i : Int) (h1 : i.toNat < l.length) : l.getD i.toNat z = l[i.toNat] := by
  rw [List.getD_eq_getElem?_getD, List.getElem?_eq_getElem h1]
  rfl
theorem getD_mem {α : Type} (z : α) (l : List α) (i : Int) (h0 : 0 ≤ i) (h1 : i < (l.length : Int)) : l.getD i.toNat z ∈ l := by
  rw [getD_at z l i (by omega)]
  exact List.getElem_mem _
theorem drop_cons {α : Type} (z : α) (l : List α) (i : Int) (h0 : 0 ≤ i) (h1 : i < (l.length : Int)) : l.drop i.toNat = l.getD i.toNat z :: l.drop (i + 1).toNat := by
  have h : i.toNat < l.length := by omega
  rw [List.drop_eq_getElem_cons h, getD_at z l i h, show (i + 1).toNat = i.toNat + 1 from by omega]
theorem drop_none {α : Type} (l : List α) (i : Int) (h1 : (l.length : Int) ≤ i) : l.drop i.toNat = [] := List.drop_of_length_le (by omega)
abbrev Sp := S34
def letter (s : ByteArray) : Bool := decide (s.size = 0) || (decide (s.size = 1) && (decide (bt s 0 ≥ 65) && decide (bt s 0 ≤ 90)))
def okr (x : Sp) : Bool := letter x.f0 && (decide (1 ≤ x.f1) && (decide (x.f1 ≤ x.f2) && decide (x.f2 ≤ 99999)))
theorem l7Letter_eq (s : ByteArray) : spec_l7Letter.f s = some (letter s) := by
  unfold spec_l7Letter.f letter
  by_cases c : s.size = 0
  · rw [if_pos ((toList_nil s).2 c), decide_eq_true c]; rfl
  · rw [if_neg (fun e => c ((toList_nil s).1 e)), decide_eq_false c]
    by_cases d : s.size = 1
    · rw [if_pos (by omega), if_pos (by omega), decide_eq_true d]
      by_cases e : bt s 0 ≥ 65
      · rw [if_pos e, decide_eq_true e]; simp
      · rw [if_neg e, decide_eq_false e]; simp
    · rw [if_neg (by omega), decide_eq_false d]; simp
theorem isPartLetter_eq (s : ByteArray) : impl_isPartLetter.f s = some (letter s) := by
  unfold impl_isPartLetter.f letter impl_isUpper.f
  by_cases c : s.size = 0
  · rw [if_pos ((toList_nil s).2 c), decide_eq_true c]; rfl
  · rw [if_neg (fun e => c ((toList_nil s).1 e)), decide_eq_false c]
    by_cases d : s.size = 1
    · rw [if_pos (by omega), if_pos (by omega), decide_eq_true d]
      by_cases e : bt s 0 ≥ 65
      · rw [if_pos e, decide_eq_true e]; simp
      · rw [if_neg e, decide_eq_false e]; simp
    · rw [if_neg (by omega), decide_eq_false d]; simp
theorem l7Range_eq (x : Sp) : spec_l7Range.f x.f0 x.f1 x.f2 = some (okr x) := by
  unfold spec_l7Range.f okr spec_l1In.f
  rw [l7Letter_eq, Option.bind_some]
  cases letter x.f0
  · simp
  · rw [if_pos rfl]
    by_cases c : 1 ≤ x.f1
    · rw [if_pos (show x.f1 ≥ 1 from c), Option.bind_some, decide_eq_true c]
      by_cases d : x.f1 ≤ x.f2
      · rw [decide_eq_true d]; simp
      · rw [decide_eq_false d]; simp
    · rw [if_neg (show ¬ x.f1 ≥ 1 from c), Option.bind_some, decide_eq_false c]; simp
theorem isRange_eq (x : Sp) : impl_isRange.f x.f0 x.f1 x.f2 = some (okr x) := by
  unfold impl_isRange.f okr
  rw [isPartLetter_eq, Option.bind_some]
  cases letter x.f0
  · simp
  · rw [if_pos rfl]
    by_cases c : 1 ≤ x.f1
    · rw [if_pos c, decide_eq_true c]
      by_cases d : x.f1 ≤ x.f2
      · rw [if_pos d, decide_eq_true d]; simp
      · rw [if_neg d, decide_eq_false d]; simp
    · rw [if_neg c, decide_eq_false c]; simp
def inN (l : List Sp) : Bool := decide (1 ≤ l.length) && decide (l.length ≤ 8)
def okl (l : List Sp) : Bool := l.all okr && inN l
theorem l1In_len (l : List Sp) : spec_l1In.f (l.length : Int) 1 8 = some (inN l) := by
  unfold spec_l1In.f inN
  by_cases c : 1 ≤ l.length
  · rw [if_pos (by omega), decide_eq_true c]
    by_cases d : l.length ≤ 8
    · rw [decide_eq_true d, decide_eq_true (by omega)]; rfl
    · rw [decide_eq_false d, decide_eq_false (by omega)]; rfl
  · rw [if_neg (by omega), decide_eq_false c]; rfl
theorem l7Good_l0 (l : List Sp) (hl : l.length ≤ 1048576) (d : Nat) : ∀ (k : Nat) (i : Int), 0 ≤ i → i + d = l.length → d < k → spec_l7Good.l0 k l i = some ((l.drop i.toNat).all okr && inN l) := by
  induction d with
  | zero =>
    intro k i h0 h1 hk
    obtain ⟨k, rfl⟩ : ∃ m, k = m + 1 := ⟨k - 1, by omega⟩
    simp only [spec_l7Good.l0]
    rw [if_neg (by omega), drop_none l i (by omega), l1In_len, Option.bind_some]
    simp
  | succ d ih =>
    intro k i h0 h1 hk
    obtain ⟨k, rfl⟩ : ∃ m, k = m + 1 := ⟨k - 1, by omega⟩
    simp only [spec_l7Good.l0]
    have e : rd_T34 l i = l.getD i.toNat z34 := rfl
    rw [if_pos (by omega), if_pos h0, l7Range_eq, Option.bind_some, drop_cons z34 l i h0 (by omega), List.all_cons, e]
    cases okr (l.getD i.toNat z34) with
    | false => rw [if_neg (by decide)]; simp
    | true =>
      rw [if_pos rfl, wrap_small (by omega) (by omega), ih k (i + 1) (by omega) (by omega) (by omega)]
      simp
theorem specGood_k (l : List Sp) (hl : l.length ≤ 1048576) (k : Nat) (hk : l.length < k) : spec_l7Good.f k l = some (okl l) := by
  unfold spec_l7Good.f okl
  rw [l7Good_l0 l hl l.length k 0 (by omega) (by omega) hk]
  simp
theorem good_ev (L : List Sp) (hl : L.length ≤ 1048576) : Ev (fun k => spec_l7Good.f k L) (okl L) := ⟨L.length + 1, fun k hk => specGood_k L hl k (by omega)⟩
theorem str_inj (s t : ByteArray) (h : s.toList = t.toList) : s = t := by
  rw [Lib.toList_data, Lib.toList_data] at h
  exact ByteArray.ext (Array.toList_inj.1 h)
theorem okr_parts (x : Sp) (h : okr x = true) : letter x.f0 = true ∧ 1 ≤ x.f1 ∧ x.f1 ≤ x.f2 ∧ x.f2 ≤ 99999 := by
  unfold okr at h
  simp only [Bool.and_eq_true, decide_eq_true_eq] at h
  exact h

theorem bad_eq (x : Sp) : impl_IsValidPages.bad x = some (!okr x) := by
  unfold impl_IsValidPages.bad impl_IsValidPages_1.f
  rw [isRange_eq, Option.bind_some]
theorem inside_len (l : List Sp) : impl_inside.f (l.length : Int) 1 8 = some (inN l) := l1In_len l
theorem implValid_eq (l : List Sp) : impl_IsValidPages.f l = some (okl l) := by
  have e1 : l.all (fun x => (impl_IsValidPages.bad x).isSome) = true := List.all_eq_true.2 fun x _ => by rw [bad_eq]; rfl
  have e2 : l.any (fun x => (impl_IsValidPages.bad x).getD false) = !l.all okr := by
    have : (fun x => (impl_IsValidPages.bad x).getD false) = fun x => !okr x := by
      funext x
      rw [bad_eq]; rfl
    rw [this]
    induction l with
    | nil => rfl
    | cons a t ih =>
      rw [List.any_cons, List.all_cons, ih (by rw [List.all_cons] at e1; exact (Bool.and_eq_true_iff.1 e1).2)]
      cases okr a <;> simp
  unfold impl_IsValidPages.f okl
  rw [if_pos e1, inside_len, Option.bind_some, e2]
  cases inN l <;> simp


end Go.Proofs.YtmemcncbkgcbeaaGreatDoor.Pure
