/- Lemmas on the printed functions, without Go and memory. -/
import Derived.Test.YtiofklnfpmphnaaDoorPx1
import Derived.Test.YtiofklnfpmphnaaDoorPx10
import Derived.Test.YtiofklnfpmphnaaDoorPx11
import Derived.Test.YtiofklnfpmphnaaDoorPx4
import Derived.Test.YtiofklnfpmphnaaDoorPx5
import Derived.Test.YtiofklnfpmphnaaDoorPx6
import Derived.Test.YtiofklnfpmphnaaDoorPx8
import Derived.Test.YtiofklnfpmphnaaDoorPx9
import Derived.Test.YtiofklnfpmphnaaDoorQTitG
namespace Go.Proofs.YtiofklnfpmphnaaDoor.Pure
open Go.RowKit Go.Proofs.YtiofklnfpmphnaaDoor.Px Go.Proofs.YtiofklnfpmphnaaDoorW.PrintWords Go.Proofs.YtiofklnfpmphnaaDoorW.PrintLast
set_option linter.unusedVariables false
set_option linter.unusedSimpArgs false

/-! the first colon and space that are not protected -/
/-- From a place on, in a state: where they stand. -/
def colon : Nat → Nat → List UInt8 → Option Nat
  | _, _, [] => none
  | _, _, [_] => none
  | q, i, b :: c :: l => if b = 58 ∧ c = 32 ∧ q = 0 then some i else colon ((stB q b).getD 0) (i + 1) (c :: l)
theorem colon_cons (q i : Nat) (b : UInt8) (l : List UInt8) (h : ¬ (b = 58 ∧ q = 0 ∧ l.head? = some 32)) : colon q i (b :: l) = colon ((stB q b).getD 0) (i + 1) l := by
  cases l with
  | nil => rfl
  | cons c l =>
    rw [colon, if_neg]
    rintro ⟨a, c2, d⟩
    exact h ⟨a, d, by rw [c2]; rfl⟩
def Part (l : List UInt8) : Bool := decide (l ≠ []) && (headOK l && lastOK l)
theorem specPart (w : ByteArray) (hs : w.size ≤ 1048576) : spec_l6Part.f w = some (Part w.data.toList) := by
  unfold spec_l6Part.f Part
  by_cases z : w.size = 0
  · have : w.data.toList = [] := List.eq_nil_of_length_eq_zero (by rw [data_length]; exact z)
    rw [if_pos ((toList_nil w).2 z), this]
    rfl
  · have hne : w.data.toList ≠ [] := fun e => z (by rw [← data_length, e]; rfl)
    obtain ⟨h1, h2⟩ := head_at w (by omega)
    rw [if_neg (fun e => z ((toList_nil w).1 e)), if_pos (by omega), h1, h2, decide_eq_true hne, Bool.true_and]
    by_cases c : bt w 0 = 32
    · rw [if_pos c, decide_eq_true c]; rfl
    · rw [if_neg c, decide_eq_false c, wrap_small (by omega) (by omega), if_pos (by omega), if_pos (by omega)]
      rfl
theorem split_spec (s : ByteArray) (hs : s.size ≤ 1048576) : ∀ (d i q : Nat), i + d = s.size → (runB q (s.data.toList.drop i)).isSome = true →
    Ev (fun k => spec_l6Split.l0 k s (decide (q ≠ 0)) (i : Int)) (match colon q i (s.data.toList.drop i) with | none => -1 | some j => (j : Int))
  | 0, i, q, hi, hr => by
    rw [end_nat s i (by omega)]
    refine Ev.step (f := fun _ => some (-1)) (fun k => ?_) (Ev.now _)
    simp only [spec_l6Split.l0]
    rw [if_neg (by rw [wrap_small (by omega) (by omega)]; omega)]
  | d + 1, i, q, hi, hr => by
    obtain ⟨b, hd, hb, hg⟩ := at_nat s i (by omega)
    have hw : wrap64 ((i : Int) + 1) = ((i + 1 : Nat) : Int) := by rw [wrap_small (by omega) (by omega)]; rfl
    rw [hd] at hr
    obtain ⟨p, hs2, hr2⟩ := runB_tail hr
    by_cases hlast : i + 1 < s.size
    · obtain ⟨c, hd2, hc, _⟩ := at_nat s (i + 1) hlast
      have ih := split_spec s hs d (i + 1) p (by omega) hr2
      have hw2 : (wrap64 ((i : Int) + 1) < (s.size : Int)) := by rw [hw]; omega
      have stay : ¬ (b = 58 ∧ q = 0 ∧ c = 32) → colon q i (s.data.toList.drop i) = colon p (i + 1) (s.data.toList.drop (i + 1)) := fun h => by
        rw [hd, colon_cons, hs2]
        · rfl
        · rintro ⟨a, e, f⟩
          rw [hd2] at f
          exact h ⟨a, e, Option.some.inj f⟩
      have hs3 := hs2
      unfold stB at hs3
      by_cases c1 : b = 123
      · rw [if_pos c1] at hs3
        by_cases z : q = 0
        · rw [if_pos z] at hs3
          obtain rfl := Option.some.inj hs3
          rw [stay (fun h => by rw [h.1] at c1; exact absurd c1 (by decide))]
          have hbb : ((b.toNat : Int) == 123) = true := beq_iff_eq.2 ((n123 b).2 c1)
          refine Ev.step (fun k => ?_) (Ev.step (g := fun k => spec_l6Split.j1 k s (decide (q ≠ 0)) (i : Int) true) (fun k => ?_) ih)
          · simp only [spec_l6Split.l0]
            rw [if_pos hw2, if_pos (by omega), if_pos (by omega), hb, if_pos ((n123 b).2 c1)]
          · simp only [spec_l6Split.j1]
            rw [if_pos trivial, if_pos (by omega), if_pos (by omega), hb, if_pos ((n123 b).2 c1), hbb, hw]
            rfl
        · rw [if_neg z] at hs3; cases hs3
      · rw [if_neg c1] at hs3
        have hb3 : ((b.toNat : Int) == 123) = false := beq_eq_false_iff_ne.2 (fun h => c1 ((n123 b).1 h))
        by_cases c2 : b = 125
        · rw [if_pos c2] at hs3
          by_cases z : q = 2
          · rw [if_pos z] at hs3
            obtain rfl := Option.some.inj hs3
            rw [stay (fun h => by rw [h.1] at c2; exact absurd c2 (by decide))]
            have h58 : ¬ (b.toNat : Int) = 58 := fun h => by rw [(n58 b).1 h] at c2; exact absurd c2 (by decide)
            refine Ev.step (fun k => ?_) (Ev.step (g := fun k => spec_l6Split.j1 k s (decide (q ≠ 0)) (i : Int) true) (fun k => ?_) ih)
            · simp only [spec_l6Split.l0]
              rw [if_pos hw2, if_pos (by omega), if_pos (by omega), hb, if_neg (fun h => c1 ((n123 b).1 h)), beq_iff_eq.2 ((n125 b).2 c2)]
            · simp only [spec_l6Split.j1]
              rw [if_pos trivial, if_pos (by omega), if_pos (by omega), hb, if_neg (fun h => c1 ((n123 b).1 h)), if_neg h58, hb3, hw]
              rfl
          · rw [if_neg z] at hs3; cases hs3
        · rw [if_neg c2] at hs3
          have hp := Option.some.inj hs3
          have hpq : decide (p ≠ 0) = decide (q ≠ 0) := by
            by_cases z : q = 0
            · rw [if_pos z] at hp; rw [← hp, z]
            · rw [if_neg z] at hp; rw [← hp]; simp [z]
          have first : ∀ R, Ev (fun k => spec_l6Split.j1 k s (decide (q ≠ 0)) (i : Int) false) R → Ev (fun k => spec_l6Split.l0 k s (decide (q ≠ 0)) (i : Int)) R := fun R e => by
            refine Ev.step (fun k => ?_) e
            simp only [spec_l6Split.l0]
            rw [if_pos hw2, if_pos (by omega), if_pos (by omega), hb, if_neg (fun h => c1 ((n123 b).1 h)), beq_eq_false_iff_ne.2 (fun h => c2 ((n125 b).1 h))]
          apply first
          by_cases z : q = 0
          · subst z
            by_cases h58 : b = 58
            · by_cases h32 : c = 32
              · have : colon 0 i (s.data.toList.drop i) = some i := by rw [hd, hd2, colon, if_pos ⟨h58, h32, rfl⟩]
                rw [this]
                refine Ev.step (f := fun _ => some (i : Int)) (fun k => ?_) (Ev.now _)
                simp only [spec_l6Split.j1]
                rw [if_neg (by decide), if_neg (by decide), if_pos (by omega), if_pos (by omega), hb, if_pos ((n58 b).2 h58), hw, if_pos (by omega), if_pos (by omega), hc, if_pos ((n32 c).2 h32)]
              · rw [stay (fun h => h32 h.2.2)]
                rw [hpq] at ih
                refine Ev.step (fun k => ?_) ih
                simp only [spec_l6Split.j1]
                rw [if_neg (by decide), if_neg (by decide), if_pos (by omega), if_pos (by omega), hb, if_pos ((n58 b).2 h58), hw, if_pos (by omega), if_pos (by omega), hc, if_neg (fun h => h32 ((n32 c).1 h))]
            · rw [stay (fun h => h58 h.1)]
              rw [hpq] at ih
              refine Ev.step (fun k => ?_) ih
              simp only [spec_l6Split.j1]
              rw [if_neg (by decide), if_neg (by decide), if_pos (by omega), if_pos (by omega), hb, if_neg (fun h => h58 ((n58 b).1 h)), hw]
          · rw [stay (fun h => z h.2.1)]
            rw [hpq] at ih
            refine Ev.step (fun k => ?_) ih
            simp only [spec_l6Split.j1]
            rw [if_neg (by decide), if_pos (by simp [z]), hw]
    · have e : s.data.toList.drop (i + 1) = [] := end_nat s (i + 1) (by omega)
      rw [hd, e, colon]
      refine Ev.step (f := fun _ => some (-1)) (fun k => ?_) (Ev.now _)
      simp only [spec_l6Split.l0]
      rw [if_neg (by rw [hw]; omega)]
/-- What both answer: the parts, and whether they are as they should be. -/
def cutS (s : ByteArray) : Option Nat → ByteArray × ByteArray × Bool
  | none => (s, ⟨#[]⟩, true)
  | some j => if (Part (s.data.toList.take j) && Part (s.data.toList.drop (j + 2))) = true then (ofL (s.data.toList.take j), ofL (s.data.toList.drop (j + 2)), true) else (⟨#[]⟩, ⟨#[]⟩, false)
theorem colon_lt (l : List UInt8) : ∀ q i j, colon q i l = some j → i ≤ j ∧ j + 1 < i + l.length ∧ (runB q l).isSome = true → ∃ l1 l2, l = l1 ++ 58 :: 32 :: l2 ∧ l1.length = j - i ∧ runB q l1 = some 0 := by
  induction l with
  | nil => intro q i j h; cases h
  | cons b l ih =>
    intro q i j h ⟨h1, h2, h3⟩
    by_cases c : b = 58 ∧ q = 0 ∧ l.head? = some 32
    · obtain ⟨rfl, rfl, hh⟩ := c
      cases l with
      | nil => cases hh
      | cons x l =>
        have hx := Option.some.inj hh
        subst hx
        rw [colon, if_pos ⟨rfl, rfl, rfl⟩] at h
        have := Option.some.inj h
        exact ⟨[], l, rfl, by simp; omega, rfl⟩
    · rw [colon_cons _ _ _ _ c] at h
      obtain ⟨p, hs2, hr2⟩ := runB_tail h3
      rw [hs2] at h
      have hge : i + 1 ≤ j ∧ j + 1 < (i + 1) + l.length := by
        have hb : ∀ (l : List UInt8) q i j, colon q i l = some j → i ≤ j ∧ j + 1 < i + l.length := fun l => by
          induction l with
          | nil => intro q i j h; cases h
          | cons y l ih2 =>
            intro q i j h
            cases l with
            | nil => cases h
            | cons z l =>
              rw [colon] at h
              split at h
              · have := Option.some.inj h
                simp only [List.length_cons]
                omega
              · have := ih2 _ _ _ h
                simp only [List.length_cons] at *
                omega
        exact hb _ _ _ _ h
      obtain ⟨l1, l2, e1, e2, e3⟩ := ih p (i + 1) j h ⟨hge.1, hge.2, hr2⟩
      refine ⟨b :: l1, l2, by rw [e1]; rfl, by simp [e2]; omega, ?_⟩
      rw [runB, hs2]
      exact e3
theorem colon_bound (l : List UInt8) : ∀ q i j, colon q i l = some j → i ≤ j ∧ j + 1 < i + l.length := by
  induction l with
  | nil => intro q i j h; cases h
  | cons y l ih2 =>
    intro q i j h
    cases l with
    | nil => cases h
    | cons z l =>
      rw [colon] at h
      split at h
      · have := Option.some.inj h
        simp only [List.length_cons]
        omega
      · have := ih2 _ _ _ h
        simp only [List.length_cons] at *
        omega
theorem implPart (w : ByteArray) (hs : w.size ≤ 1048576) (hz : w.size ≠ 0) : ∃ t, Ev (fun k => strings_Trim.f k w (⟨#[32]⟩ : ByteArray)) t ∧ (t.toList = w.toList ↔ Part w.data.toList = true) := by
  have hne : w.data.toList ≠ [] := fun e => hz (by rw [← data_length, e]; rfl)
  refine ⟨tidy w, ⟨w.size + 1, fun k hk => Trim_k w (by omega) k (by omega)⟩, ?_⟩
  unfold Part
  rw [decide_eq_true hne, Bool.true_and, ← trim_self _ hne, Lib.toList_data, Lib.toList_data]
  unfold tidy
  rw [ofL_toList, ← lLR]
theorem split_impl (s : ByteArray) (hs : s.size ≤ 1048576) (ps : List Bool) : ∀ (d i q : Nat) (pre : List Bool), i + d = s.size → (runB q (s.data.toList.drop i)).isSome = true → pre.length = i → ps = pre ++ protL q (s.data.toList.drop i) →
    Ev (fun k => impl_splitSubtitle.l0 k s ps (i : Int)) (cutS s (colon q i (s.data.toList.drop i)))
  | 0, i, q, pre, hi, hr, hp, hps => by
    rw [end_nat s i (by omega)]
    refine Ev.step (f := fun _ => some (s, ⟨#[]⟩, true)) (fun k => ?_) (Ev.now _)
    simp only [impl_splitSubtitle.l0]
    rw [if_neg (by rw [wrap_small (by omega) (by omega)]; omega)]
  | d + 1, i, q, pre, hi, hr, hp, hps => by
    obtain ⟨b, hd, hb, hg⟩ := at_nat s i (by omega)
    have hw : wrap64 ((i : Int) + 1) = ((i + 1 : Nat) : Int) := by rw [wrap_small (by omega) (by omega)]; rfl
    rw [hd] at hr hps
    obtain ⟨p, hs2, hr2⟩ := runB_tail hr
    rw [protL, hs2] at hps
    simp only at hps
    by_cases hlast : i + 1 < s.size
    · obtain ⟨c, hd2, hc, _⟩ := at_nat s (i + 1) hlast
      have hps2 : ps = (pre ++ [decide (p ≠ 0) || b == 125]) ++ protL p (s.data.toList.drop (i + 1)) := by rw [hps]; simp
      have ih := split_impl s hs ps d (i + 1) p _ (by omega) hr2 (by simp [hp]) hps2
      have hw2 : (wrap64 ((i : Int) + 1) < (s.size : Int)) := by rw [hw]; omega
      have stay : ¬ (b = 58 ∧ q = 0 ∧ c = 32) → colon q i (s.data.toList.drop i) = colon p (i + 1) (s.data.toList.drop (i + 1)) := fun h => by
        rw [hd, colon_cons, hs2]
        · rfl
        · rintro ⟨a, e, f⟩
          rw [hd2] at f
          exact h ⟨a, e, Option.some.inj f⟩
      have skip : Ev (fun k => impl_splitSubtitle.j1 k s ps (i : Int) true) (cutS s (colon p (i + 1) (s.data.toList.drop (i + 1)))) := by
        refine Ev.step (fun k => ?_) ih
        simp only [impl_splitSubtitle.j1]
        rw [if_pos trivial, hw]
      have hat : rdOf false ps (i : Int) = (decide (p ≠ 0) || b == 125) := by
        unfold rdOf
        rw [Int.toNat_natCast, hps, List.getD_eq_getElem?_getD, List.getElem?_append_right (by omega), hp, Nat.sub_self]
        rfl
      have hll : ps.length = s.size := by
        rw [hps]
        have := protL_len (s.data.toList.drop (i + 1)) p hr2
        rw [List.length_drop, data_length] at this
        simp only [List.length_append, List.length_cons]
        omega
      by_cases h58 : b = 58
      · have hp0 := stB_ne q b (by rw [h58]; decide) (by rw [h58]; decide)
        rw [hs2] at hp0
        have hp0 := Option.some.inj hp0
        have h125 : (b == 125) = false := by rw [h58]; rfl
        rw [h125, Bool.or_false] at hat
        by_cases h32 : c = 32
        · by_cases z : q = 0
          · subst z
            have hp1 : p = 0 := by rw [if_pos rfl] at hp0; exact hp0
            subst hp1
            -- the next byte is a space: no brace is open there either
            have hat2 : rdOf false ps ((i + 1 : Nat) : Int) = false := by
              unfold rdOf
              rw [Int.toNat_natCast, hps2, List.getD_eq_getElem?_getD, List.getElem?_append_right (by simp [hp]), hd2, protL, stB_ne 0 c (by rw [h32]; decide) (by rw [h32]; decide)]
              simp [hp, h32]
            have hcol : colon 0 i (s.data.toList.drop i) = some i := by rw [hd, hd2, colon, if_pos ⟨h58, h32, rfl⟩]
            rw [hcol]
            have hl := data_length s
            have tk : (s.extract 0 i) = ofL (s.data.toList.take i) := ex_pre s i
            have dk : (s.extract (i + 2) s.size) = ofL (s.data.toList.drop (i + 2)) := ex_end s (i + 2)
            have f1 : (0 : Int) ≤ (i : Int) := by omega
            have f2 : (i : Int) ≤ (s.size : Int) := by omega
            have f3 : (0 : Int) ≤ ((i + 2 : Nat) : Int) := by omega
            have f4 : ((i + 2 : Nat) : Int) ≤ (s.size : Int) := by omega
            have f5 : (i : Int) < (s.size : Int) := by omega
            have f6 : (0 : Int) ≤ ((i + 1 : Nat) : Int) := by omega
            have f7 : (i : Int) < (ps.length : Int) := by omega
            have f8 : ((i + 1 : Nat) : Int) < (ps.length : Int) := by omega
            have x1 : (s.extract 0 i).size ≤ 1048576 := by rw [ByteArray.size_extract]; omega
            have x2 : (s.extract (i + 2) s.size).size ≤ 1048576 := by rw [ByteArray.size_extract]; omega
            have h2 : wrap64 ((i : Int) + 2) = ((i + 2 : Nat) : Int) := by rw [wrap_small (by omega) (by omega)]; rfl
            have fin : Ev (fun k => impl_splitSubtitle.j1 k s ps (i : Int) false) (cutS s (some i)) := by
              unfold cutS
              simp only
              by_cases za : (s.data.toList.take i) = []
              · have : Part (s.data.toList.take i) = false := by rw [za]; rfl
                rw [this, Bool.false_and, if_neg (by decide)]
                refine Ev.step (f := fun _ => some (⟨#[]⟩, ⟨#[]⟩, false)) (fun k => ?_) (Ev.now _)
                simp only [impl_splitSubtitle.j1]
                rw [if_neg (by decide), if_pos f1, if_pos f2, h2, if_pos f3, if_pos f4, Int.toNat_natCast, if_pos (by rw [tk, Lib.toList_data, ofL_toList, za])]
              · by_cases zb : (s.data.toList.drop (i + 2)) = []
                · have : Part (s.data.toList.drop (i + 2)) = false := by rw [zb]; rfl
                  rw [this, Bool.and_false, if_neg (by decide)]
                  refine Ev.step (f := fun _ => some (⟨#[]⟩, ⟨#[]⟩, false)) (fun k => ?_) (Ev.now _)
                  simp only [impl_splitSubtitle.j1]
                  rw [if_neg (by decide), if_pos f1, if_pos f2, h2, if_pos f3, if_pos f4, Int.toNat_natCast, if_neg (by rw [tk, Lib.toList_data, ofL_toList]; exact za), Int.toNat_natCast, if_pos (by rw [dk, Lib.toList_data, ofL_toList, zb])]
                · obtain ⟨t1, ev1, q1⟩ := implPart (s.extract 0 i) x1 (by rw [tk, ofL_size]; exact fun e => za (List.eq_nil_of_length_eq_zero e))
                  obtain ⟨t2, ev2, q2⟩ := implPart (s.extract (i + 2) s.size) x2 (by rw [dk, ofL_size]; exact fun e => zb (List.eq_nil_of_length_eq_zero e))
                  have hd1 : (s.extract 0 i).data.toList = s.data.toList.take i := by rw [tk, ofL_toList]
                  have hd2' : (s.extract (i + 2) s.size).data.toList = s.data.toList.drop (i + 2) := by rw [dk, ofL_toList]
                  rw [hd1] at q1
                  rw [hd2'] at q2
                  refine Ev.step (f := fun k => (strings_Trim.f k (s.extract 0 i) (⟨#[32]⟩ : ByteArray)).bind fun t157 => (if t157.toList = (s.extract 0 i).toList then ((strings_Trim.f k (s.extract (i + 2) s.size) (⟨#[32]⟩ : ByteArray)).bind fun t158 => (if t158.toList = (s.extract (i + 2) s.size).toList then (some (s.extract 0 i, s.extract (i + 2) s.size, true)) else (some ((⟨#[]⟩ : ByteArray), (⟨#[]⟩ : ByteArray), false)))) else (some ((⟨#[]⟩ : ByteArray), (⟨#[]⟩ : ByteArray), false)))) (fun k => ?_) (Ev.bind ev1 ?_)
                  · simp only [impl_splitSubtitle.j1]
                    rw [if_neg (by decide), if_pos f1, if_pos f2, h2, if_pos f3, if_pos f4, Int.toNat_natCast, if_neg (by rw [tk, Lib.toList_data, ofL_toList]; exact za), Int.toNat_natCast, if_neg (by rw [dk, Lib.toList_data, ofL_toList]; exact zb)]
                  · cases hq1 : Part (s.data.toList.take i) with
                    | false =>
                      refine Ev.congr (fun _ => if_neg (fun e => by rw [q1.1 e] at hq1; cases hq1)) (Ev.now _)
                    | true =>
                      refine Ev.congr (fun _ => if_pos (q1.2 hq1)) (Ev.bind ev2 ?_)
                      cases hq2 : Part (s.data.toList.drop (i + 2)) with
                      | false => exact Ev.congr (fun _ => if_neg (fun e => by rw [q2.1 e] at hq2; cases hq2)) (Ev.now _)
                      | true =>
                        rw [Bool.and_self, if_pos rfl, ← tk, ← dk]
                        exact Ev.congr (fun _ => if_pos (q2.2 hq2)) (Ev.now _)
            refine Ev.step (fun k => ?_) fin
            simp only [impl_splitSubtitle.l0]
            rw [if_pos hw2, if_pos f1, if_pos f5, hb, if_pos ((n58 b).2 h58), hw, if_pos f6, hc, if_pos ((n32 c).2 h32), if_pos f7, hat, if_neg (by decide), if_pos f8, hat2]
          · rw [stay (fun h => z h.2.1)]
            have hp1 : decide (p ≠ 0) = true := by rw [if_neg z] at hp0; rw [hp0]; rfl
            rw [hp1] at hat
            refine Ev.step (fun k => ?_) skip
            simp only [impl_splitSubtitle.l0]
            rw [if_pos hw2, if_pos (by omega), if_pos (by omega), hb, if_pos ((n58 b).2 h58), hw, if_pos (by omega), hc, if_pos ((n32 c).2 h32), if_pos (by omega), hat, if_pos rfl]
        · rw [stay (fun h => h32 h.2.2)]
          refine Ev.step (fun k => ?_) skip
          simp only [impl_splitSubtitle.l0]
          rw [if_pos hw2, if_pos (by omega), if_pos (by omega), hb, if_pos ((n58 b).2 h58), hw, if_pos (by omega), hc, if_neg (fun h => h32 ((n32 c).1 h))]
      · rw [stay (fun h => h58 h.1)]
        refine Ev.step (fun k => ?_) skip
        simp only [impl_splitSubtitle.l0]
        rw [if_pos hw2, if_pos (by omega), if_pos (by omega), hb, if_neg (fun h => h58 ((n58 b).1 h))]
    · have e : s.data.toList.drop (i + 1) = [] := end_nat s (i + 1) (by omega)
      rw [hd, e, colon]
      refine Ev.step (f := fun _ => some (s, ⟨#[]⟩, true)) (fun k => ?_) (Ev.now _)
      simp only [impl_splitSubtitle.l0]
      rw [if_neg (by rw [hw]; omega)]
theorem implSplit (s : ByteArray) (hs : s.size ≤ 1048576) (h : (runB 0 s.data.toList).isSome = true) : Ev (fun k => impl_splitSubtitle.f k s) (cutS s (colon 0 0 s.data.toList)) := by
  have := split_impl s hs (protL 0 s.data.toList) s.size 0 0 [] (by omega) (by simpa using h) rfl (by simp)
  rw [List.drop_zero] at this
  unfold impl_splitSubtitle.f
  refine Ev.bind (prot_ev s (by omega)) ?_
  rw [resP_fst _ h]
  exact this
theorem specSplit (s : ByteArray) (hs : s.size ≤ 1048576) : Ev (fun k => spec_SplitSubtitle.f k s) (if okTitle s.data.toList = true then cutS s (colon 0 0 s.data.toList) else (⟨#[]⟩, ⟨#[]⟩, false)) := by
  have g1 := specGood s (by omega)
  unfold spec_SplitSubtitle.f
  cases h : okTitle s.data.toList with
  | false =>
    rw [h] at g1
    rw [if_neg (by decide)]
    exact Ev.bind g1 (Ev.congr (fun _ => if_neg (by decide)) (Ev.now _))
  | true =>
    rw [h] at g1
    rw [if_pos rfl]
    have sp := split_spec s hs s.size 0 0 (by omega) (by rw [List.drop_zero, (okT_of h).br]; rfl)
    rw [List.drop_zero] at sp
    refine Ev.bind g1 (Ev.congr (fun _ => if_pos rfl) (Ev.bind sp ?_))
    have hl := data_length s
    cases hc : colon 0 0 s.data.toList with
    | none => exact Ev.congr (fun _ => if_pos (by decide)) (Ev.now _)
    | some j =>
      have hb := colon_bound _ _ _ _ hc
      have h2 : wrap64 ((j : Int) + 2) = ((j + 2 : Nat) : Int) := by rw [wrap_small (by omega) (by omega)]; rfl
      have p1 := specPart (s.extract 0 j) (by rw [ByteArray.size_extract]; omega)
      have p2 := specPart (s.extract (j + 2) s.size) (by rw [ByteArray.size_extract]; omega)
      rw [ex_pre, ofL_toList] at p1
      rw [ex_end, ofL_toList] at p2
      unfold cutS
      simp only [h2, Int.toNat_natCast, ex_pre, ex_end, p1, p2, Option.bind_some]
      refine Ev.congr (fun _ => (if_neg (by omega)).trans ((if_pos (by omega)).trans (if_pos (by omega)))) ?_
      cases Part (s.data.toList.take j) with
      | false => exact Ev.congr (fun _ => if_neg (by decide)) (Ev.now _)
      | true =>
        refine Ev.congr (fun _ => (if_pos rfl).trans ((if_pos (by omega)).trans (if_pos (by omega)))) ?_
        cases Part (s.data.toList.drop (j + 2)) with
        | false => exact Ev.congr (fun _ => if_neg (by decide)) (Ev.now _)
        | true => exact Ev.congr (fun _ => if_pos rfl) (Ev.now _)
theorem cutS_ok (s : ByteArray) (h : okTitle s.data.toList = true) (hc : (cutS s (colon 0 0 s.data.toList)).2.2 = true) : (cutS s (colon 0 0 s.data.toList)).1.size ≤ 100 ∧ runB 0 (cutS s (colon 0 0 s.data.toList)).1.data.toList = some 0 := by
  have o := okT_of h
  have n2 := o.n2
  have hl := data_length s
  cases hj : colon 0 0 s.data.toList with
  | none => exact ⟨by show s.size ≤ 100; omega, o.br⟩
  | some j =>
    have hb := colon_bound _ _ _ _ hj
    obtain ⟨l1, l2, e1, e2, e3⟩ := colon_lt _ _ _ _ hj ⟨hb.1, hb.2, by rw [o.br]; rfl⟩
    rw [hj] at hc
    unfold cutS at hc ⊢
    simp only at hc ⊢
    split
    · have : s.data.toList.take j = l1 := by rw [e1, List.take_left' (by omega)]
      refine ⟨by show (ofL _).size ≤ 100; rw [ofL_size, List.length_take]; omega, ?_⟩
      show runB 0 (ofL _).data.toList = some 0
      rw [ofL_toList, this, e3]
    · rename_i hn
      simp only [if_neg hn] at hc
      cases hc
theorem Short_both (s : ByteArray) (n : Int) (hs : s.size ≤ 1048576) (hn : (Lit.int .i64 n).wf = true) : ∃ R : ByteArray × Bool, Ev (fun k => spec_ShortTitle.f k s n) R ∧ Ev (fun k => impl_ShortTitle.f k s n) R ∧ (okTitle s.data.toList = true → (cutS s (colon 0 0 s.data.toList)).2.2 = true → 1 ≤ n ∧ n ≤ 20 → R.2 = true) := by
  have g2 := implValid s (by omega)
  have sp := specSplit s hs
  have hin : impl_inside.f n 1 20 = spec_l1In.f n 1 20 := rfl
  obtain ⟨b, hb, hb2⟩ : ∃ b, spec_l1In.f n 1 20 = some b ∧ (b = true ↔ 1 ≤ n ∧ n ≤ 20) := by
    unfold spec_l1In.f
    by_cases c : n ≥ 1
    · exact ⟨_, if_pos c, ⟨fun h => ⟨c, of_decide_eq_true h⟩, fun h => decide_eq_true h.2⟩⟩
    · exact ⟨false, if_neg c, ⟨(fun h => by cases h), fun h => absurd h.1 c⟩⟩
  unfold spec_ShortTitle.f impl_ShortTitle.f
  rw [hin, hb]
  simp only [Option.bind_some]
  have sfail : ∀ (w : ByteArray) (k : Nat), spec_ShortTitle.j0 (k + 1) n w true = some (⟨#[]⟩, false) := fun w k => by simp only [spec_ShortTitle.j0]; rw [if_pos trivial]
  have ifail' : ∀ (k : Nat), impl_ShortTitle.j0 (k + 1) s n (!false) = some (⟨#[]⟩, false) := fun k => by simp only [impl_ShortTitle.j0]; rw [if_pos (by decide)]
  have ifail : ∀ (k : Nat), impl_ShortTitle.j0 (k + 1) s n true = some (⟨#[]⟩, false) := fun k => by simp only [impl_ShortTitle.j0]; rw [if_pos trivial]
  cases h : okTitle s.data.toList with
  | false =>
    rw [h] at g2 sp
    rw [if_neg (by decide)] at sp
    exact ⟨(⟨#[]⟩, false), Ev.bind sp (Ev.congr (fun _ => if_neg Bool.false_ne_true) (Ev.step (f := fun _ => some (⟨#[]⟩, false)) (fun k => sfail _ k) (Ev.now _))), Ev.bind g2 (Ev.congr (fun _ => if_neg (by decide)) (Ev.step (f := fun _ => some (⟨#[]⟩, false)) (fun k => ifail k) (Ev.now _))), fun h2 => by cases h2⟩
  | true =>
    rw [h] at g2 sp
    rw [if_pos rfl] at sp
    have is := implSplit s hs (by rw [(okT_of h).br]; rfl)
    have ck := cutS_ok s h
    generalize cutS s (colon 0 0 s.data.toList) = r at *
    cases b with
    | false =>
      refine ⟨(⟨#[]⟩, false), Ev.bind sp ?_, Ev.bind g2 (Ev.congr (fun _ => if_pos rfl) (Ev.step (f := fun _ => some (⟨#[]⟩, false)) (fun k => ifail' k) (Ev.now _))), fun _ _ h3 => by have h4 := hb2.2 h3; cases h4⟩
      cases hr : r.2.2 with
      | false => exact Ev.congr (fun _ => if_neg (by decide)) (Ev.step (f := fun _ => some (⟨#[]⟩, false)) (fun k => sfail _ k) (Ev.now _))
      | true => exact Ev.congr (fun _ => if_pos rfl) (Ev.step (f := fun _ => some (⟨#[]⟩, false)) (fun k => sfail _ k) (Ev.now _))
    | true =>
      obtain ⟨n1, n2⟩ := hb2.1 rfl
      cases hr : r.2.2 with
      | false =>
        refine ⟨(⟨#[]⟩, false), Ev.bind sp ?_, Ev.bind g2 (Ev.congr (fun _ => if_pos rfl) ?_), fun _ h2 => by first | cases h2 | (rw [hr] at h2; cases h2)⟩
        · rw [hr]
          exact Ev.congr (fun _ => if_neg (by decide)) (Ev.step (f := fun _ => some (⟨#[]⟩, false)) (fun k => sfail _ k) (Ev.now _))
        · refine Ev.step (fun k => ?_) (Ev.bind is (f := fun k bt175 => if bt175.2.2 = true then ((impl_titleWords.f k bt175.1).bind fun t178 => (if 0 ≤ (mn n (t178.length : Int)) then (if (mn n (t178.length : Int)) ≤ (t178.length : Int) then ((strings_Join.f (t178.take ((mn n (t178.length : Int)) : Int).toNat) (⟨#[32]⟩ : ByteArray)).bind fun t185 => (some (t185, true))) else (none)) else (none))) else (some ((⟨#[]⟩ : ByteArray), false))) (Ev.congr (fun _ => if_neg (by rw [hr]; decide)) (Ev.now _)))
          simp only [impl_ShortTitle.j0]
          rw [if_neg (by decide)]
      | true =>
        obtain ⟨z1, z2⟩ := ck hr
        obtain ⟨w1, w2⟩ := words_both r.1 (by omega) (by rw [z2]; rfl)
        have hwl := wordsL_len r.1.data.toList 0 []
        have hrl := data_length r.1
        have hws : (wordsOf r.1).length ≤ 101 := by unfold wordsOf; rw [List.length_map]; omega
        have hwz : ∀ w ∈ wordsOf r.1, w.size ≤ 100 := fun w hw => by
          unfold wordsOf at hw
          obtain ⟨l, hl, rfl⟩ := List.mem_map.1 hw
          have := (hwl.2 l hl).1
          rw [ofL_size]
          simp only [List.length_nil] at this
          omega
        generalize wordsOf r.1 = ws at *
        have hm : mn n (ws.length : Int) = if n < (ws.length : Int) then n else (ws.length : Int) := by
          unfold mn
          split <;> split <;> omega
        obtain ⟨m, hm1, hm2⟩ : ∃ m : Nat, (if n < (ws.length : Int) then n else (ws.length : Int)) = (m : Int) ∧ m ≤ ws.length := by
          split
          · exact ⟨n.toNat, by omega, by omega⟩
          · exact ⟨ws.length, rfl, Nat.le_refl _⟩
        have hl1 : spec_l1Least.f n (ws.length : Int) = some (m : Int) := by
          unfold spec_l1Least.f
          rw [← hm1]
          split <;> rfl
        have htk : ∀ x ∈ ws.take m, x.size ≤ 100 := fun x hx => hwz x (List.mem_of_mem_take hx)
        have ht := tot_le (ws.take m) 100 htk
        rw [List.length_take] at ht
        have hlt : (ws.take m).length ≤ 1048576 := by rw [List.length_take]; omega
        refine ⟨(JN (ws.take m), true), Ev.bind sp ?_, Ev.bind g2 (Ev.congr (fun _ => if_pos rfl) ?_), fun _ _ _ => rfl⟩
        · rw [hr]
          refine Ev.congr (fun _ => if_pos rfl) (Ev.step (fun k => ?_) (Ev.bind w1 (f := fun k t121 => (spec_l1Least.f n (t121.length : Int)).bind fun t124 => (if 0 ≤ t124 then (if t124 ≤ (t121.length : Int) then ((spec_l6Join.f k (t121.take (t124 : Int).toNat)).bind fun t129 => (some (t129, true))) else (none)) else (none))) ?_))
          · simp only [spec_ShortTitle.j0]
            rw [if_neg (by decide)]
          · rw [hl1]
            simp only [Option.bind_some, Int.toNat_natCast]
            exact Ev.congr (fun _ => (if_pos (by omega)).trans (if_pos (by omega))) (Ev.bind (specJoin (ws.take m) (by omega) hlt) (f := fun _ t => some (t, true)) (Ev.now _))
        · refine Ev.step (fun k => ?_) (Ev.bind is (f := fun k bt175 => if bt175.2.2 = true then ((impl_titleWords.f k bt175.1).bind fun t178 => (if 0 ≤ (mn n (t178.length : Int)) then (if (mn n (t178.length : Int)) ≤ (t178.length : Int) then ((strings_Join.f (t178.take ((mn n (t178.length : Int)) : Int).toNat) (⟨#[32]⟩ : ByteArray)).bind fun t185 => (some (t185, true))) else (none)) else (none))) else (some ((⟨#[]⟩ : ByteArray), false))) (Ev.congr (fun _ => if_pos hr) (Ev.bind w2 ?_)))
          · simp only [impl_ShortTitle.j0]
            rw [if_neg (by decide)]
          · rw [hm, hm1]
            simp only [Int.toNat_natCast, implJoin (ws.take m) (by omega) hlt, Option.bind_some]
            exact Ev.congr (fun _ => (if_pos (by omega)).trans (if_pos (by omega))) (Ev.now _)

end Go.Proofs.YtiofklnfpmphnaaDoor.Pure
