/- Lemmas on the printed functions, without Go and memory. -/
import Derived.Test.YtmemcncbkgcbeaaGreatDoorPx3
import Derived.Test.YtmemcncbkgcbeaaGreatDoorPx4
import Derived.Test.YtmemcncbkgcbeaaGreatDoorPx5
import Derived.Test.YtmemcncbkgcbeaaGreatDoorQParse
namespace Go.Proofs.YtmemcncbkgcbeaaGreatDoor.Pure
open Go.RowKit Go.Proofs.YtmemcncbkgcbeaaGreatDoor.Px Go.Proofs.YtmemcncbkgcbeaaGreatDoorW.PrintWords Go.Proofs.YtmemcncbkgcbeaaGreatDoorW.PrintLast
set_option linter.unusedVariables false
set_option linter.unusedSimpArgs false

theorem ex_list (s : ByteArray) (a b : Nat) : (s.extract a b).data.toList = (s.data.toList.drop a).take (b - a) := by
  rw [ByteArray.data_extract, Array.toList_extract, List.extract_eq_take_drop]
theorem ex_all (s : ByteArray) (a : Nat) : (s.extract a s.size).data.toList = s.data.toList.drop a := by
  rw [ex_list, List.take_of_length_le (by rw [List.length_drop, data_length]; omega)]
theorem ex_take (s : ByteArray) (a : Nat) : (s.extract 0 a).data.toList = s.data.toList.take a := by
  rw [ex_list, List.drop_zero, Nat.sub_zero]
theorem bt_ne (s : ByteArray) (j : Nat) (c : UInt8) (h : j < s.size) (hn : s.data.toList[j]? ≠ some c) : bt s (j : Int) ≠ (c.toNat : Int) := by
  rw [bt_nat s j h]
  intro e
  apply hn
  rw [List.getElem?_eq_getElem (by rw [data_length]; exact h)]
  congr 1
  exact UInt8.toNat_inj.1 (by omega)
theorem bt_at (s : ByteArray) (j : Nat) (c : UInt8) (hn : s.data.toList[j]? = some c) : j < s.size ∧ bt s (j : Int) = (c.toNat : Int) := by
  obtain ⟨h, e⟩ := List.getElem?_eq_some_iff.1 hn
  rw [data_length] at h
  exact ⟨h, by rw [bt_nat s j h, e]⟩
theorem cut_scan (s : ByteArray) (hs : s.size ≤ 1048576) (o : Nat) (hb : ∀ j : Nat, j < o → bt s (j : Int) ≠ 45) (ho : o = s.size ∨ o < s.size ∧ bt s (o : Int) = 45) :
    ∀ (d i : Nat), i + d = o → Ev (fun k => spec_l7Cut.l0 k s (i : Int)) (if o < s.size then (s.extract 0 o, s.extract (o + 1) s.size, true) else (s, ⟨#[]⟩, false))
  | 0, i, hi => by
    obtain rfl : i = o := by omega
    rcases ho with rfl | ⟨h1, h2⟩
    · rw [if_neg (by omega)]
      refine Ev.step (f := fun _ => some (s, ⟨#[]⟩, false)) (fun k => ?_) (Ev.now _)
      simp only [spec_l7Cut.l0]
      rw [if_neg (by omega)]
    · rw [if_pos h1]
      refine Ev.step (f := fun _ => some (s.extract 0 i, s.extract (i + 1) s.size, true)) (fun k => ?_) (Ev.now _)
      simp only [spec_l7Cut.l0]
      rw [if_pos (by omega), if_pos (by omega), if_pos h2, if_pos (by omega), wrap_small (by omega) (by omega), if_pos (by omega), if_pos (by omega)]
      rw [show ((i : Int) + 1).toNat = i + 1 from by omega, Int.toNat_natCast]
  | d + 1, i, hi => by
    have hlt : i < s.size := by rcases ho with rfl | ⟨h1, _⟩ <;> omega
    refine Ev.step (fun k => ?_) (cut_scan s hs o hb ho d (i + 1) (by omega))
    simp only [spec_l7Cut.l0]
    rw [if_pos (by omega), if_pos (by omega), if_neg (hb i (by omega)), wrap_small (by omega) (by omega)]
    rfl
structure Cuts (s A B : ByteArray) (f : Bool) : Prop where
  no : f = false → A = s ∧ B = ⟨#[]⟩ ∧ ∀ b ∈ s.data.toList, b ≠ 45
  yes : f = true → s.data.toList = A.data.toList ++ 45 :: B.data.toList ∧ ∀ b ∈ A.data.toList, b ≠ 45
theorem cut_both (s : ByteArray) (hs : s.size ≤ 1048576) : ∃ A B f, Ev (fun k => spec_l7Cut.f k s) (A, B, f) ∧ strings_Cut.f s (⟨#[45]⟩ : ByteArray) = some (A, B, f) ∧ Cuts s A B f := by
  have hl := data_length s
  have e1 : Lib.index s.data.toList (⟨#[45]⟩ : ByteArray).data.toList = Lib.indexByte s.data.toList 45 := Lib.index_one _ _
  have hge := Lib.indexByte_ge s.data.toList 45
  unfold strings_Cut.f Lib.cut
  rw [if_pos (by omega), e1]
  by_cases c : Lib.indexByte s.data.toList 45 = -1
  · have hn := Lib.indexByte_none c
    have hb : ∀ j : Nat, j < s.size → bt s (j : Int) ≠ 45 := fun j hj => bt_ne s j 45 hj (hn j)
    have e := cut_scan s hs s.size hb (.inl rfl) s.size 0 (by omega)
    rw [if_neg (by omega)] at e
    refine ⟨s, ⟨#[]⟩, false, e, ?_, ⟨fun _ => ⟨rfl, rfl, fun b hbm => ?_⟩, fun h => by cases h⟩⟩
    · rw [if_neg (by omega)]
    · rintro rfl
      obtain ⟨j, hj⟩ := List.getElem?_of_mem hbm
      exact hn j hj
  · obtain ⟨o, ho⟩ : ∃ o : Nat, Lib.indexByte s.data.toList 45 = (o : Int) := ⟨(Lib.indexByte s.data.toList 45).toNat, by omega⟩
    obtain ⟨ha, hn⟩ := Lib.indexByte_some ho
    obtain ⟨h1, h2⟩ := bt_at s o 45 ha
    have hb : ∀ j : Nat, j < o → bt s (j : Int) ≠ 45 := fun j hj => bt_ne s j 45 (by omega) (hn j hj)
    have e := cut_scan s hs o hb (.inr ⟨h1, h2⟩) o 0 (by omega)
    rw [if_pos h1] at e
    refine ⟨_, _, true, e, ?_, ⟨fun h => (by cases h), fun _ => ⟨?_, fun b hbm => ?_⟩⟩⟩
    · rw [ho, if_pos (by omega), Int.toNat_natCast]
      congr 2
      · exact ext_list _ _ (by rw [list_k, ex_take])
      · congr 1
        exact ext_list _ _ (by rw [list_k, ex_all]; rfl)
    · rw [ex_take, ex_all]
      obtain ⟨hlt, hv⟩ := List.getElem?_eq_some_iff.1 ha
      rw [← hv, List.getElem_cons_drop, List.take_append_drop]
    · rw [ex_take] at hbm
      rintro rfl
      obtain ⟨j, hj⟩ := List.getElem?_of_mem hbm
      obtain ⟨hj1, hj2⟩ := List.getElem?_eq_some_iff.1 hj
      rw [List.length_take] at hj1
      rw [List.getElem_take] at hj2
      exact hn j (by omega) (by rw [List.getElem?_eq_getElem (by omega), hj2])
theorem split_uniq {c : UInt8} : ∀ {p q x y : List UInt8}, (∀ b ∈ p, b ≠ c) → (∀ b ∈ x, b ≠ c) → p ++ c :: q = x ++ c :: y → p = x ∧ q = y
  | [], q, [], y, _, _, h => by simpa using h
  | [], q, b :: x, y, _, hx, h => by
    simp only [List.nil_append, List.cons_append, List.cons.injEq] at h
    exact absurd h.1.symm (hx b (by simp))
  | a :: p, q, [], y, hp, _, h => by
    simp only [List.nil_append, List.cons_append, List.cons.injEq] at h
    exact absurd h.1 (hp a (by simp))
  | a :: p, q, b :: x, y, hp, hx, h => by
    simp only [List.cons_append, List.cons.injEq] at h
    obtain ⟨r1, r2⟩ := split_uniq (fun z hz => hp z (List.mem_cons_of_mem _ hz)) (fun z hz => hx z (List.mem_cons_of_mem _ hz)) h.2
    exact ⟨by rw [h.1, r1], r2⟩
def trim (b L : ByteArray) : ByteArray := if L.size = 1 ∧ 0 < b.size ∧ bt b 0 = bt L 0 then b.extract 1 b.size else b
theorem one_list (L : ByteArray) (h : L.size = 1) : ∃ c : UInt8, L.data.toList = [c] ∧ bt L 0 = (c.toNat : Int) := by
  have hl := data_length L
  obtain ⟨c, hc⟩ := List.length_eq_one_iff.1 (by omega : L.data.toList.length = 1)
  refine ⟨c, hc, ?_⟩
  have := (bt_at L 0 c (by rw [hc]; rfl)).2
  exact this
theorem trim_eq (b L : ByteArray) (hL : L.size ≤ 1) : strings_TrimPrefix.f b L = some (trim b L) := by
  unfold strings_TrimPrefix.f stringslite_TrimPrefix.f stringslite_HasPrefix.f trim
  by_cases z : L.size = 0
  · have h0 : (b.extract 0 ((L.size : Int) : Int).toNat).toList = L.toList := by
      rw [Lib.toList_data, Lib.toList_data, show ((L.size : Int) : Int).toNat = 0 from by omega, ex_take, List.take_zero]
      exact (List.eq_nil_of_length_eq_zero (by rw [data_length]; exact z)).symm
    rw [if_pos (by omega), if_pos (by omega), if_pos (by omega), Option.bind_some, if_pos (beq_iff_eq.2 h0), if_pos (by omega), if_pos (by omega), Option.bind_some, if_neg (by omega)]
    congr 1
    apply ext_list
    rw [ex_all, show ((L.size : Int) : Int).toNat = 0 from by omega, List.drop_zero]
  · have h1 : L.size = 1 := by omega
    obtain ⟨c, hc, hv⟩ := one_list L h1
    by_cases c0 : 0 < b.size
    · have hb := bt_nat b 0 c0
      have hb' : bt b 0 = (b.data.toList[0]'(by rw [data_length]; exact c0)).toNat := hb
      have he : (b.extract 0 ((L.size : Int) : Int).toNat).toList = [b.data.toList[0]'(by rw [data_length]; exact c0)] := by
        rw [Lib.toList_data, show ((L.size : Int) : Int).toNat = 1 from by omega, ex_take, List.take_succ_eq_append_getElem (by rw [data_length]; exact c0)]
        rfl
      rw [if_pos (by omega), if_pos (by omega), if_pos (by omega), Option.bind_some, he, Lib.toList_data L, hc]
      by_cases c1 : bt b 0 = bt L 0
      · have : b.data.toList[0]'(by rw [data_length]; exact c0) = c := UInt8.toNat_inj.1 (by omega)
        rw [this, if_pos (by simp), if_pos (by omega), if_pos (by omega), Option.bind_some, if_pos ⟨h1, c0, c1⟩, show ((L.size : Int) : Int).toNat = 1 from by omega]
      · have : b.data.toList[0]'(by rw [data_length]; exact c0) ≠ c := fun e => c1 (by rw [hb', hv, e])
        rw [if_neg (by simpa using this), Option.bind_some, if_neg (fun h => c1 h.2.2)]
    · rw [if_neg (by omega), Option.bind_some, if_neg (by decide), Option.bind_some, if_neg (fun h => c0 h.2.1)]
theorem lt_rs (t : ByteArray) : t = lt t ++ rs t := by
  apply ext_list
  unfold lt rs
  by_cases h : isL t
  · rw [if_pos h, if_pos h, app_list, ex_take, ex_all, List.take_append_drop]
  · rw [if_neg h, if_neg h, app_list]
    rfl
theorem lt_size (t : ByteArray) : (lt t).size ≤ 1 := by
  unfold lt
  split
  · rw [ByteArray.size_extract]; omega
  · exact Nat.zero_le _
theorem lt_bt (t : ByteArray) (h : isL t) : (lt t).size = 1 ∧ bt (lt t) 0 = bt t 0 := by
  have h0 := h.1
  unfold lt
  rw [if_pos h]
  have hz : (t.extract 0 1).size = 1 := by rw [ByteArray.size_extract]; omega
  refine ⟨hz, ?_⟩
  obtain ⟨c, hc, hv⟩ := one_list _ hz
  rw [hv]
  rw [ex_take, List.take_succ_eq_append_getElem (by rw [data_length]; exact h0), List.take_zero, List.nil_append, List.cons.injEq] at hc
  have := bt_nat t 0 h0
  rw [← hc.1]
  exact this.symm
theorem lt_letter (t : ByteArray) : letter (lt t) = true := by
  unfold letter
  by_cases h : isL t
  · obtain ⟨h1, h2⟩ := lt_bt t h
    obtain ⟨_, h3, h4⟩ := h
    rw [h2, decide_eq_true h1, decide_eq_true (show bt t 0 ≥ 65 from h3), decide_eq_true h4]
    simp
  · have : (lt t).size = 0 := by unfold lt; rw [if_neg h]; rfl
    rw [decide_eq_true this]
    rfl
theorem letter_parts (L : ByteArray) (h : letter L = true) : L.size = 0 ∨ L.size = 1 ∧ 65 ≤ bt L 0 ∧ bt L 0 ≤ 90 := by
  unfold letter at h
  simp only [Bool.or_eq_true, Bool.and_eq_true, decide_eq_true_eq] at h
  exact h
theorem dig_no (t : ByteArray) (h : ∀ b ∈ t.data.toList, Dig b) : ¬ isL t := fun ⟨h0, h1, _⟩ => by
  have := h _ (List.getElem_mem (by rw [data_length]; exact h0 : 0 < t.data.toList.length))
  have hb : bt t 0 = _ := bt_nat t 0 h0
  unfold Dig at this
  omega
theorem no_letter (t : ByteArray) (h : ¬ isL t) : lt t = ⟨#[]⟩ ∧ rs t = t := ⟨by unfold lt; rw [if_neg h], by unfold rs; rw [if_neg h]⟩
theorem empty_app (a b : ByteArray) (h : a.size = 0) : a ++ b = b := by
  apply ext_list
  rw [app_list, List.eq_nil_of_length_eq_zero (by rw [data_length]; exact h : a.data.toList.length = 0), List.nil_append]
theorem lt_rs_of (L : ByteArray) (hL : letter L = true) (n : Int) (hn : 0 ≤ n) : lt (L ++ numT n) = L ∧ rs (L ++ numT n) = numT n := by
  rcases letter_parts L hL with h | ⟨h, h1, h2⟩
  · rw [empty_app _ _ h]
    obtain ⟨a, b⟩ := no_letter (numT n) (dig_no _ (num_dig n hn))
    exact ⟨by rw [a]; exact ext_list _ _ (by rw [List.eq_nil_of_length_eq_zero (by rw [data_length]; exact h : L.data.toList.length = 0)]), b⟩
  · obtain ⟨c, hc, hv⟩ := one_list L h
    have hl : (L ++ numT n).data.toList = c :: (numT n).data.toList := by rw [app_list, hc]; rfl
    obtain ⟨q0, q1⟩ := bt_at (L ++ numT n) 0 c (by rw [hl]; rfl)
    have hi : isL (L ++ numT n) := ⟨q0, by have : bt (L ++ numT n) 0 = _ := q1; omega, by have : bt (L ++ numT n) 0 = _ := q1; omega⟩
    constructor
    · unfold lt
      rw [if_pos hi]
      exact ext_list _ _ (by rw [ex_take, hl, hc]; rfl)
    · unfold rs
      rw [if_pos hi]
      exact ext_list _ _ (by rw [ex_all, hl]; rfl)
theorem num_inj' (m n : Int) (h : 0 ≤ n) (e : numT m = numT n) : m = n := by
  by_cases z : 0 ≤ m
  · exact numT_inj m n z h e
  · have hd := num_dig n h
    have hl : (numT n).data.toList = 45 :: Lib.decDigits m.natAbs := by rw [← e, numT_list]; unfold Lib.itoa; rw [if_pos (by omega)]
    rw [hl] at hd
    have := (hd 45 (by simp)).1
    exact absurd this (by decide)
theorem dig_dash (l : List UInt8) (h : ∀ b ∈ l, Dig b) : ∀ b ∈ l, b ≠ 45 := fun b hb e => by
  have := (h b hb).1
  subst e
  exact absurd this (by decide)
theorem page_dash (L : ByteArray) (hL : letter L = true) (n : Int) (hn : 0 ≤ n) : ∀ b ∈ (L ++ numT n).data.toList, b ≠ 45 := by
  rw [app_list]
  intro b hb
  rcases List.mem_append.1 hb with hb | hb
  · rcases letter_parts L hL with h | ⟨h, h1, h2⟩
    · rw [List.eq_nil_of_length_eq_zero (by rw [data_length]; exact h : L.data.toList.length = 0)] at hb
      cases hb
    · obtain ⟨c, hc, hv⟩ := one_list L h
      rw [hc, List.mem_singleton] at hb
      subst hb
      rintro rfl
      rw [hv] at h1
      exact absurd h1 (by decide)
  · exact dig_dash _ (num_dig n hn) b hb
theorem trim_self (L x : ByteArray) (hL : letter L = true) (hx : ∀ b ∈ x.data.toList, Dig b) : trim (L ++ x) L = x := by
  unfold trim
  rcases letter_parts L hL with h | ⟨h, h1, h2⟩
  · rw [if_neg (by omega), empty_app _ _ h]
  · obtain ⟨c, hc, hv⟩ := one_list L h
    have hl : (L ++ x).data.toList = c :: x.data.toList := by rw [app_list, hc]; rfl
    obtain ⟨q0, q1⟩ := bt_at (L ++ x) 0 c (by rw [hl]; rfl)
    rw [if_pos ⟨h, q0, by rw [hv]; exact q1⟩]
    exact ext_list _ _ (by rw [ex_all, hl]; rfl)
theorem read_word (w A B : ByteArray) (f : Bool) (hcut : Cuts w A B f) (q : Sp) (hq : okr q = true) (ht : tx q = w) : lt A = q.f0 ∧ rs A = numT q.f1 ∧ (f = true → B = q.f0 ++ numT q.f2) ∧ (f = false → q.f2 = q.f1) := by
  obtain ⟨ql, q1, q2, q3⟩ := okr_parts q hq
  obtain ⟨r1, r2⟩ := lt_rs_of q.f0 ql q.f1 (by omega)
  cases f with
  | false =>
    obtain ⟨a1, _, a3⟩ := hcut.no rfl
    have hn : ¬ q.f2 > q.f1 := fun c => by
      have : (45 : UInt8) ∈ w.data.toList := by
        rw [← ht]
        unfold tx rText
        rw [if_pos c]
        simp only [app_list]
        simp
      exact a3 45 this rfl
    have hw2 : A = q.f0 ++ numT q.f1 := by
      rw [a1, ← ht]
      unfold tx rText
      rw [if_neg hn]
    rw [hw2]
    exact ⟨r1, r2, fun h => (by cases h), fun _ => by omega⟩
  | true =>
    obtain ⟨a1, a2⟩ := hcut.yes rfl
    have hn : q.f2 > q.f1 := Classical.byContradiction fun c => by
      have hw2 : w = q.f0 ++ numT q.f1 := by
        rw [← ht]
        unfold tx rText
        rw [if_neg c]
      have := page_dash q.f0 ql q.f1 (by omega) 45 (by rw [← hw2, a1]; simp)
      exact this rfl
    have hw2 : w.data.toList = (q.f0 ++ numT q.f1).data.toList ++ 45 :: (q.f0 ++ numT q.f2).data.toList := by
      rw [← ht]
      unfold tx rText
      rw [if_pos hn]
      simp only [app_list]
      simp
    obtain ⟨u1, u2⟩ := split_uniq a2 (page_dash q.f0 ql q.f1 (by omega)) (a1.symm.trans hw2)
    have hA2 : A = q.f0 ++ numT q.f1 := ext_list _ _ u1
    have hB2 : B = q.f0 ++ numT q.f2 := ext_list _ _ u2
    rw [hA2]
    exact ⟨r1, r2, fun _ => hB2, fun h => by cases h⟩
theorem tx_inj (r q : Sp) (hr : okr r = true) (hq : okr q = true) (h : tx r = tx q) (hs : (tx q).size ≤ 1048576) : r = q := by
  obtain ⟨A, B, f, _, _, hcut⟩ := cut_both (tx q) hs
  obtain ⟨a1, a2, a3, a4⟩ := read_word _ A B f hcut r hr h
  obtain ⟨b1, b2, b3, b4⟩ := read_word _ A B f hcut q hq rfl
  obtain ⟨rl, r1, r2, r3⟩ := okr_parts r hr
  obtain ⟨ql, q1, q2, q3⟩ := okr_parts q hq
  have e0 : r.f0 = q.f0 := a1.symm.trans b1
  have e1 : r.f1 = q.f1 := numT_inj _ _ (by omega) (by omega) (a2.symm.trans b2)
  have e2 : r.f2 = q.f2 := by
    cases f with
    | false => rw [a4 rfl, b4 rfl, e1]
    | true =>
      have := (a3 rfl).symm.trans (b3 rfl)
      rw [e0] at this
      have h2 := congrArg (fun z : ByteArray => z.data.toList) this
      simp only [app_list] at h2
      exact numT_inj _ _ (by omega) (by omega) (ext_list _ _ (List.append_cancel_left h2))
  cases r; cases q
  simp only at e0 e1 e2
  rw [e0, e1, e2]
theorem parse_range (w : ByteArray) (hw : w.size ≤ 1048576) : ∃ (r : Sp) (ok : Bool), Ev (fun k => impl_parseRange.f k w) (r.f0, r.f1, r.f2, ok) ∧ (ok = true → okr r = true ∧ tx r = w) ∧ (ok = false → r = ⟨⟨#[]⟩, 0, 0⟩ ∧ ∀ q, okr q = true → tx q ≠ w) := by
  obtain ⟨A, B, f, _, hc, hcut⟩ := cut_both w hw
  have hA : A.size ≤ 1048576 := by
    cases f with
    | false => rw [(hcut.no rfl).1]; exact hw
    | true =>
      have := congrArg List.length (hcut.yes rfl).1
      rw [List.length_append, data_length, data_length] at this
      omega
  have hrA : (rs A).size ≤ A.size := by unfold rs; split <;> (try rw [ByteArray.size_extract]) <;> omega
  have hlA := lt_size A
  -- the last step, on the pieces
  have last : ∀ (x y L : ByteArray), x = rs A → L = lt A → (f = true → y = B) → (f = false → y = L ++ x) →
      ∃ (r : Sp) (ok : Bool), Ev (fun k => impl_parseRange.j2 k w x y L 0 0) (r.f0, r.f1, r.f2, ok) ∧ (ok = true → okr r = true ∧ tx r = w) ∧ (ok = false → r = ⟨⟨#[]⟩, 0, 0⟩ ∧ ∀ q, okr q = true → tx q ≠ w) := fun x y L hx hL hy1 hy0 => by
    obtain ⟨R1, p1, s1, n1⟩ := parse_int x
    obtain ⟨R2, p2, s2, n2⟩ := parse_int (trim y L)
    have hLl : letter L = true := by rw [hL]; exact lt_letter A
    -- whoever is the text of a range would have been read
    have read : ∀ q, okr q = true → tx q = w → L = q.f0 ∧ x = numT q.f1 ∧ trim y L = numT q.f2 := fun q hq ht => by
      obtain ⟨ql, q1, q2, q3⟩ := okr_parts q hq
      obtain ⟨u1, u2, u3, u4⟩ := read_word w A B f hcut q hq ht
      refine ⟨hL.trans u1, hx.trans u2, ?_⟩
      cases f with
      | false => rw [hy0 rfl, hx, u2, trim_self L _ hLl (num_dig _ (by omega)), u4 rfl]
      | true => rw [hy1 rfl, u3 rfl, hL, u1, trim_self _ _ ql (num_dig _ (by omega))]
    have fail : (∀ q, okr q = true → tx q = w → False) → (∃ k, impl_parseRange.j2 k w x y L 0 0 = some (⟨#[]⟩, 0, 0, false)) → ∃ (r : Sp) (ok : Bool), Ev (fun k => impl_parseRange.j2 k w x y L 0 0) (r.f0, r.f1, r.f2, ok) ∧ (ok = true → okr r = true ∧ tx r = w) ∧ (ok = false → r = ⟨⟨#[]⟩, 0, 0⟩ ∧ ∀ q, okr q = true → tx q ≠ w) := fun hno ⟨k, hk⟩ =>
      ⟨⟨⟨#[]⟩, 0, 0⟩, false, ⟨1, fun j hj => by
        obtain ⟨j, rfl⟩ : ∃ m, j = m + 1 := ⟨j - 1, by omega⟩
        cases k with
        | zero => simp [impl_parseRange.j2] at hk
        | succ k => simp only [impl_parseRange.j2] at hk ⊢; exact hk⟩, fun h => (by cases h), fun _ => ⟨rfl, fun q hq ht => hno q hq ht⟩⟩
    have et := trim_eq y L (by rw [hL]; exact hlA)
    have hj : ∀ k, impl_parseRange.j2 (k + 1) w x y L 0 0 = (if R1.2 = true then (if R2.2 = true then ((impl_isRange.f L R1.1 R2.1).bind fun t240 => (if t240 = true then ((impl_rangeText.f L R1.1 R2.1).bind fun t241 => (if t241.toList = w.toList then (some (L, R1.1, R2.1, true)) else (some ((⟨#[]⟩ : ByteArray), 0, 0, false)))) else (some ((⟨#[]⟩ : ByteArray), 0, 0, false)))) else (some ((⟨#[]⟩ : ByteArray), 0, 0, false))) else (some ((⟨#[]⟩ : ByteArray), 0, 0, false))) := fun k => by
      simp only [impl_parseRange.j2, p1, et, p2, Option.bind_some]
    cases h1 : R1.2 with
    | false =>
      refine fail (fun q hq ht => ?_) ⟨1, by rw [hj, if_neg (by rw [h1]; decide)]⟩
      obtain ⟨_, b, _⟩ := read q hq ht
      obtain ⟨_, q1, q2, q3⟩ := okr_parts q hq
      exact n1 h1 q.f1 (by omega) (by omega) b
    | true =>
      cases h2 : R2.2 with
      | false =>
        refine fail (fun q hq ht => ?_) ⟨1, by rw [hj, if_pos h1, if_neg (by rw [h2]; decide)]⟩
        obtain ⟨_, _, b⟩ := read q hq ht
        obtain ⟨_, q1, q2, q3⟩ := okr_parts q hq
        exact n2 h2 q.f2 (by omega) (by omega) b
      | true =>
        have hr := isRange_eq (⟨L, R1.1, R2.1⟩ : Sp)
        have same : ∀ q, okr q = true → tx q = w → (⟨L, R1.1, R2.1⟩ : Sp) = q := fun q hq ht => by
          obtain ⟨a, b, c⟩ := read q hq ht
          obtain ⟨_, q1, q2, q3⟩ := okr_parts q hq
          have i1 := num_inj' R1.1 q.f1 (by omega) ((s1 h1).symm.trans b)
          have i2 := num_inj' R2.1 q.f2 (by omega) ((s2 h2).symm.trans c)
          cases q
          simp only at a i1 i2
          rw [a, i1, i2]
        cases h3 : okr (⟨L, R1.1, R2.1⟩ : Sp) with
        | false =>
          refine fail (fun q hq ht => ?_) ⟨1, by rw [hj, if_pos h1, if_pos h2, hr, Option.bind_some, if_neg (by rw [h3]; decide)]⟩
          rw [same q hq ht, hq] at h3
          cases h3
        | true =>
          have hx := implText L R1.1 R2.1 (fit_of _ h3)
          by_cases c : (rText L R1.1 R2.1).toList = w.toList
          · refine ⟨⟨L, R1.1, R2.1⟩, true, ⟨1, fun j hj' => ?_⟩, fun _ => ⟨h3, str_inj _ _ c⟩, fun h => by cases h⟩
            obtain ⟨j, rfl⟩ : ∃ m, j = m + 1 := ⟨j - 1, by omega⟩
            show impl_parseRange.j2 (j + 1) w x y L 0 0 = _
            rw [hj, if_pos h1, if_pos h2, hr, Option.bind_some, if_pos h3, hx, Option.bind_some, if_pos c]
          · refine fail (fun q hq ht => ?_) ⟨1, by rw [hj, if_pos h1, if_pos h2, hr, Option.bind_some, if_pos h3, hx, Option.bind_some, if_neg c]⟩
            have := same q hq ht
            rw [← this] at ht
            exact c (by rw [← ht]; rfl)
  -- the letter ahead
  have mid : ∀ (x L : ByteArray), x = rs A → L = lt A → ∃ (r : Sp) (ok : Bool), Ev (fun k => impl_parseRange.j1 k w x B f L 0 0) (r.f0, r.f1, r.f2, ok) ∧ (ok = true → okr r = true ∧ tx r = w) ∧ (ok = false → r = ⟨⟨#[]⟩, 0, 0⟩ ∧ ∀ q, okr q = true → tx q ≠ w) := fun x L hx hL => by
    cases f with
    | true =>
      obtain ⟨r, ok, e, rest⟩ := last x B L hx hL (fun _ => rfl) (fun h => by cases h)
      refine ⟨r, ok, Ev.step (fun k => ?_) e, rest⟩
      simp only [impl_parseRange.j1, if_true]
    | false =>
      obtain ⟨r, ok, e, rest⟩ := last x (L ++ x) L hx hL (fun h => by cases h) (fun _ => rfl)
      refine ⟨r, ok, Ev.step (fun k => ?_) e, rest⟩
      simp only [impl_parseRange.j1, Bool.false_eq_true, if_false]
      rw [if_pos (by rw [hx, hL]; omega)]
  have top : ∃ (r : Sp) (ok : Bool), Ev (fun k => impl_parseRange.j0 k w A B f (decide (isL A)) (⟨#[]⟩ : ByteArray) 0 0) (r.f0, r.f1, r.f2, ok) ∧ (ok = true → okr r = true ∧ tx r = w) ∧ (ok = false → r = ⟨⟨#[]⟩, 0, 0⟩ ∧ ∀ q, okr q = true → tx q ≠ w) := by
    by_cases h : isL A
    · obtain ⟨r, ok, e, rest⟩ := mid (A.extract 1 A.size) (A.extract 0 1) (by unfold rs; rw [if_pos h]) (by unfold lt; rw [if_pos h])
      refine ⟨r, ok, Ev.step (fun k => ?_) e, rest⟩
      simp only [impl_parseRange.j0, decide_eq_true h]
      have := h.1
      rw [if_pos trivial, if_pos (by omega), if_pos (by omega)]
    · obtain ⟨a, b⟩ := no_letter A h
      obtain ⟨r, ok, e, rest⟩ := mid A ⟨#[]⟩ b.symm a.symm
      refine ⟨r, ok, Ev.step (fun k => ?_) e, rest⟩
      simp only [impl_parseRange.j0, decide_eq_false h]
      rw [if_neg (by decide)]
  obtain ⟨r, ok, e, rest⟩ := top
  refine ⟨r, ok, ?_, rest⟩
  unfold impl_parseRange.f
  rw [hc]
  simp only [Option.bind_some]
  by_cases z : A.size = 0
  · simp only [if_pos ((toList_nil A).2 z)]
    rw [decide_eq_false (fun h : isL A => by have := h.1; omega)] at e
    exact e
  · simp only [if_neg (fun e => z ((toList_nil A).1 e)), if_pos (by omega : 0 < (A.size : Int)), impl_isUpper.f]
    by_cases c1 : bt A 0 ≥ 65
    · simp only [if_pos c1, Option.bind_some]
      rw [show decide (bt A 0 ≤ 90) = decide (isL A) from by rw [decide_eq_decide]; exact ⟨fun h => ⟨by omega, c1, h⟩, fun h => h.2.2⟩]
      exact e
    · simp only [if_neg c1, Option.bind_some]
      rw [decide_eq_false (fun h : isL A => c1 h.2.1)] at e
      exact e

end Go.Proofs.YtmemcncbkgcbeaaGreatDoor.Pure
