/- Lemmas on the printed functions, without Go and memory. -/
import Derived.Test.YtiofklnfpmphnaaDoorPx1
import Derived.Test.YtiofklnfpmphnaaDoorPx2
import Derived.Test.YtiofklnfpmphnaaDoorPx5
import Derived.Test.YtiofklnfpmphnaaDoorPx6
import Derived.Test.YtiofklnfpmphnaaDoorPx7
import Derived.Test.YtiofklnfpmphnaaDoorQTitle
namespace Go.Proofs.YtiofklnfpmphnaaDoor.Pure
open Go.RowKit Go.Proofs.YtiofklnfpmphnaaDoor.Px Go.Proofs.YtiofklnfpmphnaaDoorW.PrintWords Go.Proofs.YtiofklnfpmphnaaDoorW.PrintLast
set_option linter.unusedVariables false
set_option linter.unusedSimpArgs false

theorem bt_nat (s : ByteArray) (i : Nat) (h : i < s.size) : bt s (i : Int) = ((s.data.toList[i]'(by rw [data_length]; exact h)).toNat : Int) := by
  unfold bt
  rw [dif_pos (by omega)]
  rfl
theorem ext_list (a b : ByteArray) (h : a.data.toList = b.data.toList) : a = b := ByteArray.ext (Array.toList_inj.1 h)
theorem str_inj (a b : ByteArray) (h : a.toList = b.toList) : a = b := ext_list _ _ (by rw [Lib.toList_data, Lib.toList_data] at h; exact h)
theorem ofL_ext (s : ByteArray) (l : List UInt8) (h : s.data.toList = l) : s = ofL l := ext_list _ _ (by rw [ofL_toList, h])
theorem at_nat (s : ByteArray) (i : Nat) (h : i < s.size) : ∃ b : UInt8, s.data.toList.drop i = b :: s.data.toList.drop (i + 1) ∧ bt s (i : Int) = (b.toNat : Int) ∧ s.data.toList[i]? = some b := by
  have hl : i < s.data.toList.length := by rw [data_length]; exact h
  exact ⟨s.data.toList[i], List.drop_eq_getElem_cons hl, bt_nat s i h, List.getElem?_eq_getElem hl⟩
theorem end_nat (s : ByteArray) (i : Nat) (h : s.size ≤ i) : s.data.toList.drop i = [] := List.drop_of_length_le (by rw [data_length]; exact h)
theorem nat_eq (b c : UInt8) : ((b.toNat : Int) = (c.toNat : Int)) ↔ b = c := ⟨fun h => UInt8.toNat_inj.1 (by omega), fun h => by rw [h]⟩
theorem n32 (b : UInt8) : ((b.toNat : Int) = 32) ↔ b = 32 := nat_eq b 32
theorem n123 (b : UInt8) : ((b.toNat : Int) = 123) ↔ b = 123 := nat_eq b 123
theorem n125 (b : UInt8) : ((b.toNat : Int) = 125) ↔ b = 125 := nat_eq b 125
theorem n58 (b : UInt8) : ((b.toNat : Int) = 58) ↔ b = 58 := nat_eq b 58
theorem beq_n (b c : UInt8) : ((b.toNat : Int) == (c.toNat : Int)) = (b == c) := by
  by_cases h : b = c
  · subst h; simp
  · rw [beq_eq_false_iff_ne.2 h, beq_eq_false_iff_ne.2 (fun e => h ((nat_eq b c).1 e))]
/-- The place of the brace that is open. -/
def St (q : Nat) (frm : Int) (i : Nat) : Prop := (q = 0 ∧ frm = -1) ∨ (q = 1 ∧ frm = (i : Int) - 1 ∧ 1 ≤ i) ∨ (q = 2 ∧ 0 ≤ frm ∧ frm < (i : Int) - 1)
theorem St.open {frm : Int} {i : Nat} (q : Nat) : St 1 (i : Int) (i + 1) := .inr (.inl ⟨rfl, by omega, by omega⟩)
theorem St.zero (i : Nat) : St 0 (-1) i := .inl ⟨rfl, rfl⟩
theorem St.next {q : Nat} {frm : Int} {i : Nat} (h : St q frm i) : St (if q = 0 then 0 else 2) frm (i + 1) := by
  rcases h with ⟨rfl, h⟩ | ⟨rfl, h, h2⟩ | ⟨rfl, h, h2⟩
  · exact .inl ⟨rfl, h⟩
  · exact .inr (.inr ⟨rfl, by omega, by omega⟩)
  · exact .inr (.inr ⟨rfl, by omega, by omega⟩)
theorem St.pos {q : Nat} {frm : Int} {i : Nat} (h : St q frm i) : frm ≥ 0 ↔ q ≠ 0 := by
  rcases h with ⟨rfl, h⟩ | ⟨rfl, h, h2⟩ | ⟨rfl, h, h2⟩ <;> simp <;> omega
theorem St.just {q : Nat} {frm : Int} {i : Nat} (h : St q frm i) (hq : q ≠ 0) : frm = (i : Int) - 1 ↔ q ≠ 2 := by
  rcases h with ⟨rfl, h⟩ | ⟨rfl, h, h2⟩ | ⟨rfl, h, h2⟩
  · exact absurd rfl hq
  · simp; omega
  · simp; omega
def resP (pre : List Bool) (q : Nat) (l : List UInt8) : List Bool × Bool := match runB q l with
  | none => ([], false)
  | some r => (pre ++ protL q l, decide (r = 0))
theorem resP_none (pre : List Bool) (q : Nat) (b : UInt8) (l : List UInt8) (h : stB q b = none) : resP pre q (b :: l) = ([], false) := by
  unfold resP
  rw [runB, h]
  rfl
theorem resP_some (pre : List Bool) (q p : Nat) (b : UInt8) (l : List UInt8) (h : stB q b = some p) : resP pre q (b :: l) = resP (pre ++ [decide (p ≠ 0) || b == 125]) p l := by
  unfold resP
  rw [runB, h, protL, h]
  show (match runB p l with | none => _ | some r => _) = _
  cases runB p l with
  | none => rfl
  | some r => simp
theorem prot_l0 (s : ByteArray) (hs : s.size ≤ 1099511627776) : ∀ (d i : Nat) (xs : List Bool) (q : Nat) (frm : Int), i + d = s.size → xs.length = s.size → (∀ j, i ≤ j → xs.getD j false = false) → St q frm i →
    Ev (fun k => impl_protected.l0 k s xs frm (i : Int)) (resP (xs.take i) q (s.data.toList.drop i))
  | 0, i, xs, q, frm, hi, hx, hf, hst => by
    refine Ev.step (f := fun _ => some (xs, decide (frm < 0))) (fun k => ?_) ?_
    · simp only [impl_protected.l0]
      rw [if_neg (by omega)]
    · rw [end_nat s i (by omega), List.take_of_length_le (by omega)]
      unfold resP protL runB
      have : decide (frm < 0) = decide (q = 0) := by
        rw [decide_eq_decide]
        have := hst.pos
        constructor
        · intro h; exact Classical.byContradiction fun c => absurd (this.2 c) (by omega)
        · intro h; exact Classical.byContradiction fun c => absurd h (this.1 (by omega))
      rw [this, List.append_nil]
      exact Ev.now _
  | d + 1, i, xs, q, frm, hi, hx, hf, hst => by
    obtain ⟨b, hd, hb, _⟩ := at_nat s i (by omega)
    have h0 : rdOf false xs (i : Int) = false := by unfold rdOf; rw [Int.toNat_natCast]; exact hf i (Nat.le_refl _)
    have go : ∀ (v : Bool) (p : Nat) (f2 : Int), stB q b = some p → v = (decide (p ≠ 0) || b == 125) → St p f2 (i + 1) → Ev (fun k => impl_protected.l0 k s (xs.set i v) f2 ((i + 1 : Nat) : Int)) (resP (xs.take i) q (s.data.toList.drop i)) := fun v p f2 hp hv h2 => by
      have := prot_l0 s hs d (i + 1) (xs.set i v) p f2 (by omega) (by rw [List.length_set]; exact hx) (fun j hj => by
        rw [List.getD_eq_getElem?_getD, List.getElem?_set_ne (by omega), ← List.getD_eq_getElem?_getD]
        exact hf j (by omega)) h2
      rw [take_set_succ xs i (by omega)] at this
      rw [hd, resP_some _ _ _ _ _ hp, ← hv]
      exact this
    have fail : stB q b = none → resP (xs.take i) q (s.data.toList.drop i) = ([], false) := fun h => by rw [hd, resP_none _ _ _ _ h]
    have hw : wrap64 ((i : Int) + 1) = ((i + 1 : Nat) : Int) := by rw [wrap_small (by omega) (by omega)]; rfl
    have hw2 : wrap64 ((i : Int) - 1) = (i : Int) - 1 := wrap_small (by omega) (by omega)
    have hpos := hst.pos
    by_cases c1 : b = 123
    · by_cases c0 : q = 0
      · refine Ev.step (fun k => ?_) (go true 1 (i : Int) (by unfold stB; rw [if_pos c1, if_pos c0]) (by simp) (St.open (frm := frm) q))
        simp only [impl_protected.l0]
        rw [if_pos (by omega), if_pos (by omega), hb, if_pos ((n123 b).2 c1), if_neg (fun h => hpos.1 h c0), if_pos (by omega), h0, if_neg (by decide), Int.toNat_natCast, hw, decide_eq_true (by omega : (i : Int) ≥ 0)]
      · rw [fail (by unfold stB; rw [if_pos c1, if_neg c0])]
        refine Ev.step (f := fun _ => some ([], false)) (fun k => ?_) (Ev.now _)
        simp only [impl_protected.l0]
        rw [if_pos (by omega), if_pos (by omega), hb, if_pos ((n123 b).2 c1), if_pos (hpos.2 c0)]
    · by_cases c2 : b = 125
      · by_cases c0 : q = 2
        · have hq : q ≠ 0 := by omega
          have hj := hst.just hq
          refine Ev.step (fun k => ?_) (go true 0 (-1) (by unfold stB; rw [if_neg c1, if_pos c2, if_pos c0]) (by simp [c2]) (St.zero _))
          simp only [impl_protected.l0]
          have h1 : rdOf false (xs.set i true) (i : Int) = true := by unfold rdOf; rw [Int.toNat_natCast, List.getD_eq_getElem?_getD, List.getElem?_set_self (by omega)]; rfl
          rw [if_pos (by omega), if_pos (by omega), hb, if_neg (fun h => c1 ((n123 b).1 h)), if_pos ((n125 b).2 c2), if_neg (by have := hpos.2 hq; omega), hw2, if_neg (fun h => hj.1 h c0), if_pos (by omega), Option.bind_some, Int.toNat_natCast, h1, if_pos rfl, List.set_set, hw]
        · rw [fail (by unfold stB; rw [if_neg c1, if_pos c2, if_neg c0])]
          refine Ev.step (f := fun _ => some ([], false)) (fun k => ?_) (Ev.now _)
          simp only [impl_protected.l0]
          rw [if_pos (by omega), if_pos (by omega), hb, if_neg (fun h => c1 ((n123 b).1 h)), if_pos ((n125 b).2 c2)]
          by_cases z : frm < 0
          · rw [if_pos z]
          · have hq : q ≠ 0 := hpos.1 (by omega)
            rw [if_neg z, hw2, if_pos ((hst.just hq).2 c0)]
      · refine Ev.step (fun k => ?_) (go (decide (frm ≥ 0)) (if q = 0 then 0 else 2) frm (stB_ne q b c1 c2) (by
          have : (b == 125) = false := by simpa using c2
          rw [this, Bool.or_false, decide_eq_decide, hpos]
          by_cases c0 : q = 0 <;> simp [c0]) hst.next)
        simp only [impl_protected.l0]
        rw [if_pos (by omega), if_pos (by omega), hb, if_neg (fun h => c1 ((n123 b).1 h)), if_neg (fun h => c2 ((n125 b).1 h)), if_pos (by omega), h0, if_neg (by decide), Int.toNat_natCast, hw]
theorem prot_ev (s : ByteArray) (hs : s.size ≤ 1099511627776) : Ev (fun k => impl_protected.f k s) (resP [] 0 s.data.toList) := by
  have := prot_l0 s hs s.size 0 (List.replicate s.size false) 0 (-1) (by omega) (by simp) (fun j _ => by
    rw [List.getD_eq_getElem?_getD, List.getElem?_replicate]
    split <;> rfl) (St.zero 0)
  rw [List.drop_zero, List.take_zero] at this
  unfold impl_protected.f
  refine Ev.congr (fun k => ?_) this
  rw [if_pos (by omega), Int.toNat_natCast, if_pos (by omega)]
  rfl
theorem resP_ok (l : List UInt8) : (resP [] 0 l).2 = decide (runB 0 l = some 0) := by
  unfold resP
  cases runB 0 l with
  | none => rfl
  | some r => simp
theorem resP_fst (l : List UInt8) (h : (runB 0 l).isSome = true) : (resP [] 0 l).1 = protL 0 l := by
  unfold resP
  cases hr : runB 0 l with
  | none => rw [hr] at h; cases h
  | some r => simp
theorem protL_len (l : List UInt8) : ∀ q, (runB q l).isSome = true → (protL q l).length = l.length := by
  induction l with
  | nil => intro q _; rfl
  | cons b l ih =>
    intro q h
    obtain ⟨p, hs, hp⟩ := runB_tail h
    rw [protL, hs]
    simp only [List.length_cons, ih p hp]
/-! valid titles -/
def pv (s : ByteArray) (i : Nat) : Bool := match i with | 0 => false | j + 1 => decide (s.data.toList[j]? = some 32)
def good (s : ByteArray) (i q : Nat) : Bool := (s.data.toList.drop i).all okb && (noD (pv s i) (s.data.toList.drop i) && decide (runB q (s.data.toList.drop i) = some 0))
theorem good_l0 (s : ByteArray) (hs : s.size ≤ 1099511627776) : ∀ (d i q : Nat) (frm : Int), i + d = s.size → St q frm i → Ev (fun k => spec_l6Good.l0 k s frm (i : Int)) (good s i q)
  | 0, i, q, frm, hi, hst => by
    refine Ev.step (f := fun _ => some (decide (frm < 0))) (fun k => ?_) ?_
    · simp only [spec_l6Good.l0]
      rw [if_neg (by omega)]
    · unfold good
      rw [end_nat s i (by omega)]
      have : decide (frm < 0) = decide (q = 0) := by
        rw [decide_eq_decide]
        have := hst.pos
        constructor
        · intro h; exact Classical.byContradiction fun c => absurd (this.2 c) (by omega)
        · intro h; exact Classical.byContradiction fun c => absurd h (this.1 (by omega))
      rw [this]
      simp [noD, runB]
      exact Ev.now _
  | d + 1, i, q, frm, hi, hst => by
    obtain ⟨b, hd, hb, hg⟩ := at_nat s i (by omega)
    have hw : wrap64 ((i : Int) + 1) = ((i + 1 : Nat) : Int) := by rw [wrap_small (by omega) (by omega)]; rfl
    have hw2 : wrap64 ((i : Int) - 1) = (i : Int) - 1 := wrap_small (by omega) (by omega)
    have hpos := hst.pos
    have hpv : pv s (i + 1) = decide (b = 32) := by
      show decide (s.data.toList[i]? = some 32) = _
      rw [hg]
      simp
    have bad : okb b = false → good s i q = false := fun h => by unfold good; rw [hd, List.all_cons, h]; rfl
    have dbl : (pv s i && decide (b = 32)) = true → good s i q = false := fun h => by
      rw [Bool.and_eq_true, decide_eq_true_eq] at h
      unfold good
      rw [hd, noD, if_pos h.2, h.1]
      simp
    have nobr : stB q b = none → good s i q = false := fun h => by
      unfold good
      rw [hd, runB, h]
      simp
    have next : ∀ p, okb b = true → (pv s i && decide (b = 32)) = false → stB q b = some p → good s i q = good s (i + 1) p := fun p h1 h2 h3 => by
      unfold good
      rw [hd, List.all_cons, h1, runB, h3, hpv, noD]
      by_cases c : b = 32
      · rw [if_pos c, decide_eq_true c]
        rw [decide_eq_true c, Bool.and_true] at h2
        rw [h2]
        rfl
      · rw [if_neg c, decide_eq_false c]
        rfl
    -- from the last test on
    have j3 : okb b = true → (pv s i && decide (b = 32)) = false → Ev (fun k => spec_l6Good.j3 k s frm (i : Int) false) (good s i q) := fun h1 h2 => by
      by_cases c1 : b = 123
      · by_cases c0 : q = 0
        · rw [next 1 h1 h2 (by unfold stB; rw [if_pos c1, if_pos c0])]
          refine Ev.step (fun k => ?_) (good_l0 s hs d (i + 1) 1 (i : Int) (by omega) (St.open (frm := frm) q))
          simp only [spec_l6Good.j3]
          rw [if_neg (by decide), if_pos (by omega), if_pos (by omega), hb, if_pos ((n123 b).2 c1), if_neg (fun h => hpos.1 h c0), hw]
        · rw [nobr (by unfold stB; rw [if_pos c1, if_neg c0])]
          refine Ev.step (f := fun _ => some false) (fun k => ?_) (Ev.now _)
          simp only [spec_l6Good.j3]
          rw [if_neg (by decide), if_pos (by omega), if_pos (by omega), hb, if_pos ((n123 b).2 c1), if_pos (hpos.2 c0)]
      · by_cases c2 : b = 125
        · by_cases c0 : q = 2
          · have hq : q ≠ 0 := by omega
            have hj := hst.just hq
            rw [next 0 h1 h2 (by unfold stB; rw [if_neg c1, if_pos c2, if_pos c0])]
            refine Ev.step (fun k => ?_) (good_l0 s hs d (i + 1) 0 (-1) (by omega) (St.zero _))
            simp only [spec_l6Good.j3]
            rw [if_neg (by decide), if_pos (by omega), if_pos (by omega), hb, if_neg (fun h => c1 ((n123 b).1 h)), if_pos ((n125 b).2 c2), if_neg (by have := hpos.2 hq; omega), hw2, if_neg (fun h => hj.1 h c0), hw]
          · rw [nobr (by unfold stB; rw [if_neg c1, if_pos c2, if_neg c0])]
            refine Ev.step (f := fun _ => some false) (fun k => ?_) (Ev.now _)
            simp only [spec_l6Good.j3]
            rw [if_neg (by decide), if_pos (by omega), if_pos (by omega), hb, if_neg (fun h => c1 ((n123 b).1 h)), if_pos ((n125 b).2 c2)]
            by_cases z : frm < 0
            · rw [if_pos z]
            · have hq : q ≠ 0 := hpos.1 (by omega)
              rw [if_neg z, hw2, if_pos ((hst.just hq).2 c0)]
        · rw [next _ h1 h2 (stB_ne q b c1 c2)]
          refine Ev.step (fun k => ?_) (good_l0 s hs d (i + 1) _ frm (by omega) hst.next)
          simp only [spec_l6Good.j3]
          rw [if_neg (by decide), if_pos (by omega), if_pos (by omega), hb, if_neg (fun h => c1 ((n123 b).1 h)), if_neg (fun h => c2 ((n125 b).1 h)), hw]
    have j2 : Ev (fun k => spec_l6Good.j2 k s frm (i : Int) (!okb b)) (good s i q) := by
      cases h1 : okb b with
      | false =>
        rw [bad h1]
        refine Ev.step (f := fun _ => some false) (fun k => ?_) (Ev.now _)
        simp only [spec_l6Good.j2]
        simp
      | true =>
        by_cases z : 0 < i
        · obtain ⟨i', rfl⟩ : ∃ m, i = m + 1 := ⟨i - 1, by omega⟩
          obtain ⟨x, _, hx, hgx⟩ := at_nat s i' (by omega)
          have hpx : pv s (i' + 1) = decide (x = 32) := by
            show decide (s.data.toList[i']? = some 32) = _
            rw [hgx]
            simp
          have he : ((i' + 1 : Nat) : Int) - 1 = (i' : Int) := by omega
          by_cases c : b = 32
          · by_cases cx : x = 32
            · rw [dbl (by rw [hpx, decide_eq_true cx, decide_eq_true c]; rfl)]
              refine Ev.step (fun k => ?_) (Ev.step (g := fun k => spec_l6Good.j3 k s frm ((i' + 1 : Nat) : Int) true) (f := fun _ => some false) (fun k => by simp only [spec_l6Good.j3]; simp) (Ev.now _))
              simp only [spec_l6Good.j2]
              rw [if_neg (by decide), if_pos (by omega), if_pos (by omega), if_pos (by omega), hb, if_pos ((n32 b).2 c), hw2, he, if_pos (by omega), if_pos (by omega), hx, beq_iff_eq.2 ((n32 x).2 cx)]
            · refine Ev.step (fun k => ?_) (j3 h1 (by rw [hpx, decide_eq_false cx]; rfl))
              simp only [spec_l6Good.j2]
              rw [if_neg (by decide), if_pos (by omega), if_pos (by omega), if_pos (by omega), hb, if_pos ((n32 b).2 c), hw2, he, if_pos (by omega), if_pos (by omega), hx, beq_eq_false_iff_ne.2 (fun h => cx ((n32 x).1 h))]
          · refine Ev.step (fun k => ?_) (j3 h1 (by rw [decide_eq_false c, Bool.and_false]))
            simp only [spec_l6Good.j2]
            rw [if_neg (by decide), if_pos (by omega), if_pos (by omega), if_pos (by omega), hb, if_neg (fun h => c ((n32 b).1 h))]
        · obtain rfl : i = 0 := by omega
          refine Ev.step (fun k => ?_) (j3 h1 rfl)
          simp only [spec_l6Good.j2]
          rw [if_neg (by decide), if_neg (by omega)]
    refine Ev.step (fun k => ?_) j2
    simp only [spec_l6Good.l0]
    rw [if_pos (by omega), if_pos (by omega), hb]
    unfold okb
    by_cases c1 : (b.toNat : Int) < 32
    · rw [if_pos c1, decide_eq_true c1]; rfl
    · rw [if_neg c1, decide_eq_false c1]
      simp
theorem head_at (s : ByteArray) (h : 0 < s.size) : headOK s.data.toList = !(decide (bt s 0 = 32)) ∧ lastOK s.data.toList = !(bt s ((s.size : Int) - 1) == 32) := by
  constructor
  · obtain ⟨b, hd, hb, _⟩ := at_nat s 0 h
    rw [List.drop_zero] at hd
    have hb : bt s 0 = (b.toNat : Int) := hb
    rw [hd, hb]
    show (!(b == 32)) = _
    by_cases c : b = 32
    · rw [decide_eq_true ((n32 b).2 c), c]; rfl
    · rw [decide_eq_false (fun e => c ((n32 b).1 e)), beq_eq_false_iff_ne.2 c]
  · obtain ⟨l, b, h1, h2, _⟩ := last_at s h
    rw [h1, h2]
    unfold lastOK
    rw [List.getLast?_concat]
    show (!(b == 32)) = _
    rw [← beq_n b 32]
    rfl
theorem specGood (s : ByteArray) (hs : s.size ≤ 1099511627776) : Ev (fun k => spec_l6Good.f k s) (okTitle s.data.toList) := by
  have hl := data_length s
  unfold spec_l6Good.f spec_l1In.f okTitle
  rw [hl]
  by_cases c1 : 1 ≤ s.size
  · by_cases c2 : s.size ≤ 100
    · have hne : s.data.toList ≠ [] := fun e => by rw [e] at hl; simp at hl; omega
      obtain ⟨h1, h2⟩ := head_at s (by omega)
      rw [decide_eq_true c1, decide_eq_true c2, spOK_true _ hne, Bool.true_and, Bool.true_and, h1, h2]
      have g := good_l0 s hs s.size 0 0 (-1) (by omega) (St.zero 0)
      unfold good at g
      rw [List.drop_zero] at g
      have hw : wrap64 ((s.size : Int) - 1) = (s.size : Int) - 1 := wrap_small (by omega) (by omega)
      have fail : Ev (fun k => spec_l6Good.j0 k s true) false := Ev.step (f := fun _ => some false) (fun k => by simp only [spec_l6Good.j0]; simp) (Ev.now _)
      refine Ev.congr (fun k => by rw [if_pos (by omega), Option.bind_some, decide_eq_true (by omega : (s.size : Int) ≤ 100), if_pos rfl, if_pos (by omega), hw]) ?_
      by_cases c3 : bt s 0 = 32
      · rw [decide_eq_true c3]
        refine Ev.congr (fun k => if_pos c3) ?_
        simpa using fail
      · rw [decide_eq_false c3]
        refine Ev.congr (fun k => (if_neg c3).trans ((if_pos (by omega)).trans (if_pos (by omega)))) ?_
        cases bt s ((s.size : Int) - 1) == 32 with
        | true => simpa using fail
        | false =>
          have e : (s.data.toList.all okb && ((!false && (noD false s.data.toList && !false)) && decide (runB 0 s.data.toList = some 0))) = (s.data.toList.all okb && (noD (pv s 0) s.data.toList && decide (runB 0 s.data.toList = some 0))) := by
            show _ = (s.data.toList.all okb && (noD false s.data.toList && decide (runB 0 s.data.toList = some 0)))
            simp
          rw [e]
          refine Ev.step (fun k => ?_) g
          simp only [spec_l6Good.j0]
          rw [if_neg (by decide)]
          rfl
    · rw [decide_eq_false c2]
      refine Ev.congr (f := fun k => spec_l6Good.j0 k s true) (fun k => by rw [if_pos (by omega), Option.bind_some, decide_eq_false (by omega : ¬ (s.size : Int) ≤ 100), if_neg (by decide)]) ?_
      rw [Bool.false_and, Bool.and_false]
      exact Ev.step (f := fun _ => some false) (fun k => by simp only [spec_l6Good.j0]; simp) (Ev.now _)
  · rw [decide_eq_false c1]
    refine Ev.congr (f := fun k => spec_l6Good.j0 k s true) (fun k => by rw [if_neg (by omega), Option.bind_some, if_neg (by decide)]) ?_
    rw [Bool.false_and]
    exact Ev.step (f := fun _ => some false) (fun k => by simp only [spec_l6Good.j0]; simp) (Ev.now _)
theorem print_l0 (s : ByteArray) (hs : s.size ≤ 1099511627776) : ∀ (d i : Nat), i + d = s.size → Ev (fun k => impl_isPrintable.l0 k s (i : Int)) ((s.data.toList.drop i).all okb && decide (lL (lR s.data.toList) = s.data.toList))
  | 0, i, hi => by
    rw [end_nat s i (by omega)]
    have ht : Ev (fun k => strings_Trim.f k s ⟨#[32]⟩) (tidy s) := ⟨s.size + 1, fun k hk => Trim_k s hs k (by omega)⟩
    refine Ev.step (f := fun k => (strings_Trim.f k s (⟨#[32]⟩ : ByteArray)).bind fun t130 => some (t130.toList == s.toList)) (fun k => ?_) (Ev.bind ht ?_)
    · simp only [impl_isPrintable.l0]
      rw [if_neg (by omega)]
    · have : ((tidy s).toList == s.toList) = decide (lL (lR s.data.toList) = s.data.toList) := by
        rw [Lib.toList_data, Lib.toList_data]
        unfold tidy
        rw [ofL_toList, ← lLR]
        by_cases c : lL (lR s.data.toList) = s.data.toList
        · rw [c]; simp
        · rw [decide_eq_false c, beq_eq_false_iff_ne.2 c]
      rw [this]
      exact Ev.now _
  | d + 1, i, hi => by
    obtain ⟨b, hd, hb, _⟩ := at_nat s i (by omega)
    have hw : wrap64 ((i : Int) + 1) = ((i + 1 : Nat) : Int) := by rw [wrap_small (by omega) (by omega)]; rfl
    rw [hd, List.all_cons]
    unfold okb
    by_cases c1 : (b.toNat : Int) < 32
    · rw [decide_eq_true c1]
      refine Ev.step (f := fun _ => some false) (fun k => ?_) (Ev.now _)
      simp only [impl_isPrintable.l0]
      rw [if_pos (by omega), if_pos (by omega), hb, if_pos c1]
    · rw [decide_eq_false c1]
      by_cases c2 : (b.toNat : Int) > 126
      · rw [decide_eq_true c2]
        refine Ev.step (f := fun _ => some false) (fun k => ?_) (Ev.now _)
        simp only [impl_isPrintable.l0]
        rw [if_pos (by omega), if_pos (by omega), hb, if_neg c1, if_pos c2]
      · rw [decide_eq_false c2]
        refine Ev.step (fun k => ?_) (print_l0 s hs d (i + 1) (by omega))
        simp only [impl_isPrintable.l0]
        rw [if_pos (by omega), if_pos (by omega), hb, if_neg c1, if_neg c2, hw]
theorem implValid (s : ByteArray) (hs : s.size ≤ 1099511627776) : Ev (fun k => impl_IsValidTitle.f k s) (okTitle s.data.toList) := by
  have hl := data_length s
  unfold impl_IsValidTitle.f impl_inside.f okTitle
  rw [hl]
  by_cases c1 : 1 ≤ s.size
  · by_cases c2 : s.size ≤ 100
    · have hne : s.data.toList ≠ [] := fun e => by rw [e] at hl; simp at hl; omega
      have p := print_l0 s hs s.size 0 (by omega)
      rw [List.drop_zero] at p
      have p : Ev (fun k => impl_isPrintable.f k s) _ := p
      rw [decide_eq_true c1, decide_eq_true c2, spOK_true _ hne, Bool.true_and, Bool.true_and]
      have ht : decide (lL (lR s.data.toList) = s.data.toList) = (headOK s.data.toList && lastOK s.data.toList) := by
        have := trim_self s.data.toList hne
        cases hh : (headOK s.data.toList && lastOK s.data.toList) with
        | true => rw [hh] at this; exact decide_eq_true (this.2 rfl)
        | false => rw [hh] at this; exact decide_eq_false (fun e => absurd (this.1 e) (by decide))
      rw [ht] at p
      refine Ev.congr (fun k => by rw [if_pos (by omega), Option.bind_some, decide_eq_true (by omega : (s.size : Int) ≤ 100), if_pos rfl]) (Ev.bind p ?_)
      have hc : strings_Contains.f s (⟨#[32, 32]⟩ : ByteArray) = some (!(noD false s.data.toList)) := by
        unfold strings_Contains.f
        rw [if_pos (by omega), show (⟨#[32, 32]⟩ : ByteArray).data.toList = [32, 32] from rfl, contains_noD]
      cases h1 : s.data.toList.all okb with
      | false => exact Ev.congr (fun _ => if_neg (by simp)) (Ev.now _)
      | true =>
        cases h2 : (headOK s.data.toList && lastOK s.data.toList) with
        | false =>
          have e : (true && ((headOK s.data.toList && (noD false s.data.toList && lastOK s.data.toList)) && decide (runB 0 s.data.toList = some 0))) = false := by
            rw [Bool.and_eq_false_iff] at h2
            rcases h2 with h2 | h2 <;> rw [h2] <;> simp
          rw [e]
          exact Ev.congr (fun _ => if_neg (by decide)) (Ev.now _)
        | true =>
          rw [Bool.and_eq_true] at h2
          rw [h2.1, h2.2, hc]
          refine Ev.congr (fun _ => (if_pos (by rfl)).trans (Option.bind_some _ _)) ?_
          cases noD false s.data.toList with
          | false => exact Ev.congr (fun _ => if_pos (by rfl)) (Ev.now _)
          | true =>
            refine Ev.congr (fun _ => if_neg (by decide)) ?_
            have hp := prot_ev s hs
            have ho := resP_ok s.data.toList
            refine Ev.bind hp ?_
            rw [ho]
            simp
            exact Ev.now _
    · rw [decide_eq_false c2, Bool.false_and, Bool.and_false]
      exact Ev.congr (fun k => by rw [if_pos (by omega), Option.bind_some, decide_eq_false (by omega : ¬ (s.size : Int) ≤ 100), if_neg (by decide)]) (Ev.now _)
  · rw [decide_eq_false c1, Bool.false_and]
    exact Ev.congr (fun k => by rw [if_neg (by omega), Option.bind_some, if_neg (by decide)]) (Ev.now _)

end Go.Proofs.YtiofklnfpmphnaaDoor.Pure
