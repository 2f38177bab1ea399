/- Lemmas on the printed functions, without Go and memory. -/
import Derived.Lib.Join
import Derived.Test.YtilchcponlgmjaaDoorPx1
import Derived.Test.YtilchcponlgmjaaDoorPx10
import Derived.Test.YtilchcponlgmjaaDoorPx11
import Derived.Test.YtilchcponlgmjaaDoorPx3
import Derived.Test.YtilchcponlgmjaaDoorPx4
import Derived.Test.YtilchcponlgmjaaDoorPx8
import Derived.Test.YtilchcponlgmjaaDoorPx9
import Derived.Test.YtilchcponlgmjaaDoorQTitJ
namespace Go.Proofs.YtilchcponlgmjaaDoor.Pure
open Go.RowKit Go.Proofs.YtilchcponlgmjaaDoor.Px Go.Proofs.YtilchcponlgmjaaDoorW.PrintWords Go.Proofs.YtilchcponlgmjaaDoorW.PrintLast
set_option linter.unusedVariables false
set_option linter.unusedSimpArgs false

/-! the words of a title -/
theorem ex_mid (s : ByteArray) (a b : Nat) (h : a ≤ b) : s.extract a b = ofL ((s.data.toList.take b).drop a) := ext_list _ _ (by
  rw [ofL_toList, ByteArray.data_extract, Array.toList_extract, List.extract_eq_take_drop, List.drop_take])
theorem ex_end (s : ByteArray) (a : Nat) : s.extract a s.size = ofL (s.data.toList.drop a) := ext_list _ _ (by
  rw [ofL_toList, ByteArray.data_extract, Array.toList_extract, List.extract_eq_take_drop, List.take_of_length_le (by rw [List.length_drop, data_length]; omega)])
theorem ex_pre (s : ByteArray) (a : Nat) : s.extract 0 a = ofL (s.data.toList.take a) := ext_list _ _ (by
  rw [ofL_toList, ByteArray.data_extract, Array.toList_extract, List.extract_eq_take_drop, List.drop_zero, Nat.sub_zero])
theorem cur_snoc (s : ByteArray) (frm i : Nat) (b : UInt8) (h : frm ≤ i) (hi : i < s.size) (hg : s.data.toList[i]? = some b) : (s.data.toList.take (i + 1)).drop frm = (s.data.toList.take i).drop frm ++ [b] := by
  have hl := data_length s
  obtain ⟨h1, h2⟩ := List.getElem?_eq_some_iff.1 hg
  rw [List.take_succ_eq_append_getElem h1, h2, List.drop_append_of_le_length (by rw [List.length_take]; omega)]
def wordsOf (s : ByteArray) : List ByteArray := (wordsL 0 [] s.data.toList).map ofL
theorem words_impl (s : ByteArray) (hs : s.size ≤ 1099511627776) (ps : List Bool) : ∀ (d i frm q : Nat) (out : List ByteArray) (pre : List Bool), i + d = s.size → frm ≤ i → out.length ≤ i → (runB q (s.data.toList.drop i)).isSome = true → pre.length = i → ps = pre ++ protL q (s.data.toList.drop i) →
    Ev (fun k => impl_titleWords.l0 k s ps out (frm : Int) (i : Int)) (out ++ (wordsL q ((s.data.toList.take i).drop frm) (s.data.toList.drop i)).map ofL)
  | 0, i, frm, q, out, pre, hi, hf, ho, hr, hp, hps => by
    rw [end_nat s i (by omega), List.take_of_length_le (by rw [data_length]; omega), wordsL]
    refine Ev.step (f := fun _ => some (out ++ [s.extract frm s.size])) (fun k => ?_) ?_
    · simp only [impl_titleWords.l0]
      rw [if_neg (by omega), if_pos (by omega), if_pos (by omega), if_pos (by omega), Int.toNat_natCast]
    · rw [ex_end]
      exact Ev.now _
  | d + 1, i, frm, q, out, pre, hi, hf, ho, hr, hp, hps => by
    obtain ⟨b, hd, hb, hg⟩ := at_nat s i (by omega)
    have hw : wrap64 ((i : Int) + 1) = ((i + 1 : Nat) : Int) := by rw [wrap_small (by omega) (by omega)]; rfl
    rw [hd] at hr hps
    obtain ⟨p, hs2, hr2⟩ := runB_tail hr
    rw [protL, hs2] at hps
    simp only at hps
    have hat : rdOf false ps (i : Int) = (decide (p ≠ 0) || b == 125) := by
      unfold rdOf
      rw [Int.toNat_natCast, hps, List.getD_eq_getElem?_getD, List.getElem?_append_right (by omega), hp, Nat.sub_self]
      rfl
    have hlt : (i : Int) < (ps.length : Int) := by
      rw [hps]
      simp only [List.length_append, List.length_cons]
      omega
    have hps2 : ps = (pre ++ [decide (p ≠ 0) || b == 125]) ++ protL p (s.data.toList.drop (i + 1)) := by rw [hps]; simp
    have cur := cur_snoc s frm i b hf (by omega) hg
    have stay : ¬ (b = 32 ∧ q = 0) → Ev (fun k => impl_titleWords.l0 k s ps out (frm : Int) ((i + 1 : Nat) : Int)) (out ++ (wordsL q ((s.data.toList.take i).drop frm) (s.data.toList.drop i)).map ofL) := fun c => by
      have := words_impl s hs ps d (i + 1) frm p out _ (by omega) (by omega) (by omega) hr2 (by simp [hp]) hps2
      rw [hd, wordsL, if_neg c, hs2, ← cur]
      exact this
    by_cases c : b = 32
    · have hp2 : p = if q = 0 then 0 else 2 := by
        have := stB_ne q b (by rw [c]; decide) (by rw [c]; decide)
        rw [hs2] at this
        exact Option.some.inj this
      have h125 : (b == 125) = false := by rw [c]; rfl
      rw [h125, Bool.or_false] at hat
      by_cases z : q = 0
      · rw [if_pos z] at hp2
        have nx := words_impl s hs ps d (i + 1) (i + 1) p (out ++ [s.extract frm i]) _ (by omega) (by omega) (by simp; omega) hr2 (by simp [hp]) hps2
        rw [hd, wordsL, if_pos ⟨c, z⟩]
        have e : (s.data.toList.take (i + 1)).drop (i + 1) = [] := List.drop_of_length_le (by rw [List.length_take]; omega)
        rw [e, hp2, ← z, List.append_assoc] at nx
        rw [List.map_cons, ← ex_mid s frm i hf]
        refine Ev.step (fun k => ?_) nx
        simp only [impl_titleWords.l0]
        rw [if_pos (by omega), if_pos (by omega), hb, if_pos ((n32 b).2 c), if_pos hlt, hat, hp2, if_neg (by decide), if_pos (by omega), if_pos (by omega), if_pos (by omega), if_pos (by omega), Int.toNat_natCast, Int.toNat_natCast, hw]
      · rw [if_neg z] at hp2
        refine Ev.step (fun k => ?_) (stay (fun h => z h.2))
        simp only [impl_titleWords.l0]
        rw [if_pos (by omega), if_pos (by omega), hb, if_pos ((n32 b).2 c), if_pos hlt, hat, hp2, if_pos (by decide), hw]
    · refine Ev.step (fun k => ?_) (stay (fun h => c h.1))
      simp only [impl_titleWords.l0]
      rw [if_pos (by omega), if_pos (by omega), hb, if_neg (fun h => c ((n32 b).1 h)), hw]
theorem words_spec (s : ByteArray) (hs : s.size ≤ 1099511627776) : ∀ (d i frm q : Nat) (out : List ByteArray), i + d = s.size → frm ≤ i → out.length ≤ i → (runB q (s.data.toList.drop i)).isSome = true →
    Ev (fun k => spec_l6Words.l0 k s out (frm : Int) (decide (q ≠ 0)) (i : Int)) (out ++ (wordsL q ((s.data.toList.take i).drop frm) (s.data.toList.drop i)).map ofL)
  | 0, i, frm, q, out, hi, hf, ho, hr => by
    rw [end_nat s i (by omega), List.take_of_length_le (by rw [data_length]; omega), wordsL]
    refine Ev.step (f := fun _ => some (out ++ [s.extract frm s.size])) (fun k => ?_) ?_
    · simp only [spec_l6Words.l0]
      rw [if_neg (by omega), if_pos (by omega), if_pos (by omega), if_pos (by omega), Int.toNat_natCast]
    · rw [ex_end]
      exact Ev.now _
  | d + 1, i, frm, q, out, hi, hf, ho, hr => by
    obtain ⟨b, hd, hb, hg⟩ := at_nat s i (by omega)
    have hw : wrap64 ((i : Int) + 1) = ((i + 1 : Nat) : Int) := by rw [wrap_small (by omega) (by omega)]; rfl
    rw [hd] at hr
    obtain ⟨p, hs2, hr2⟩ := runB_tail hr
    have cur := cur_snoc s frm i b hf (by omega) hg
    have stay : ¬ (b = 32 ∧ q = 0) → Ev (fun k => spec_l6Words.l0 k s out (frm : Int) (decide (p ≠ 0)) ((i + 1 : Nat) : Int)) (out ++ (wordsL q ((s.data.toList.take i).drop frm) (s.data.toList.drop i)).map ofL) := fun c => by
      have := words_spec s hs d (i + 1) frm p out (by omega) (by omega) (by omega) hr2
      rw [hd, wordsL, if_neg c, hs2, ← cur]
      exact this
    have hs3 := hs2
    unfold stB at hs3
    by_cases c1 : b = 123
    · rw [if_pos c1] at hs3
      by_cases z : q = 0
      · rw [if_pos z] at hs3
        obtain rfl := Option.some.inj hs3
        refine Ev.step (fun k => ?_) (stay (fun h => by rw [h.1] at c1; exact absurd c1 (by decide)))
        simp only [spec_l6Words.l0]
        rw [if_pos (by omega), if_pos (by omega), hb, if_pos ((n123 b).2 c1), hw]
        rfl
      · rw [if_neg z] at hs3; cases hs3
    · rw [if_neg c1] at hs3
      by_cases c2 : b = 125
      · rw [if_pos c2] at hs3
        by_cases z : q = 2
        · rw [if_pos z] at hs3
          obtain rfl := Option.some.inj hs3
          refine Ev.step (fun k => ?_) (stay (fun h => by rw [h.1] at c2; exact absurd c2 (by decide)))
          simp only [spec_l6Words.l0]
          rw [if_pos (by omega), if_pos (by omega), hb, if_neg (fun h => c1 ((n123 b).1 h)), if_pos ((n125 b).2 c2), hw]
          rfl
        · rw [if_neg z] at hs3; cases hs3
      · rw [if_neg c2] at hs3
        have hpq : decide (p ≠ 0) = decide (q ≠ 0) := by
          have := Option.some.inj hs3
          by_cases z : q = 0
          · rw [if_pos z] at this; rw [← this, z]
          · rw [if_neg z] at this; rw [← this]; simp [z]
        by_cases c : b = 32
        · by_cases z : q = 0
          · have hp0 : p = 0 := by have := Option.some.inj hs3; rw [if_pos z] at this; exact this.symm
            subst z
            subst hp0
            have nx := words_spec s hs d (i + 1) (i + 1) 0 (out ++ [s.extract frm i]) (by omega) (by omega) (by simp; omega) hr2
            rw [hd, wordsL, if_pos ⟨c, rfl⟩]
            have e : (s.data.toList.take (i + 1)).drop (i + 1) = [] := List.drop_of_length_le (by rw [List.length_take]; omega)
            rw [e, List.append_assoc] at nx
            rw [List.map_cons, ← ex_mid s frm i hf]
            refine Ev.step (fun k => ?_) nx
            simp only [spec_l6Words.l0]
            rw [if_pos (by omega), if_pos (by omega), hb, if_neg (fun h => c1 ((n123 b).1 h)), if_neg (fun h => c2 ((n125 b).1 h)), if_pos ((n32 b).2 c), if_neg (by decide), if_pos (by omega), if_pos (by omega), if_pos (by omega), if_pos (by omega), Int.toNat_natCast, Int.toNat_natCast, hw]
          · have st := stay (fun h => z h.2)
            rw [hpq] at st
            refine Ev.step (fun k => ?_) st
            simp only [spec_l6Words.l0]
            rw [if_pos (by omega), if_pos (by omega), hb, if_neg (fun h => c1 ((n123 b).1 h)), if_neg (fun h => c2 ((n125 b).1 h)), if_pos ((n32 b).2 c), if_pos (by simp [z]), hw]
        · have st := stay (fun h => c h.1)
          rw [hpq] at st
          refine Ev.step (fun k => ?_) st
          simp only [spec_l6Words.l0]
          rw [if_pos (by omega), if_pos (by omega), hb, if_neg (fun h => c1 ((n123 b).1 h)), if_neg (fun h => c2 ((n125 b).1 h)), if_neg (fun h => c ((n32 b).1 h)), hw]
theorem words_both (s : ByteArray) (hs : s.size ≤ 1099511627776) (h : (runB 0 s.data.toList).isSome = true) : Ev (fun k => spec_l6Words.f k s) (wordsOf s) ∧ Ev (fun k => impl_titleWords.f k s) (wordsOf s) := by
  constructor
  · have := words_spec s hs s.size 0 0 0 [] (by omega) (by omega) (by simp) (by simpa using h)
    simp only [List.take_zero, List.drop_zero, List.drop_nil, List.nil_append] at this
    exact this
  · have := words_impl s hs (protL 0 s.data.toList) s.size 0 0 0 [] [] (by omega) (by omega) (by simp) (by simpa using h) rfl (by simp)
    simp only [List.take_zero, List.drop_zero, List.drop_nil, List.nil_append] at this
    unfold impl_titleWords.f
    refine Ev.bind (prot_ev s hs) ?_
    rw [resP_fst _ h]
    exact this
theorem wordsL_len (l : List UInt8) : ∀ q c, (wordsL q c l).length ≤ l.length + 1 ∧ ∀ w ∈ wordsL q c l, w.length ≤ c.length + l.length ∧ ∀ b ∈ w, b ∈ c ∨ b ∈ l := by
  induction l with
  | nil =>
    intro q c
    simp only [wordsL, List.length_singleton, List.length_nil, List.mem_singleton]
    exact ⟨by omega, fun w hw => by subst hw; exact ⟨by omega, fun b hb => .inl hb⟩⟩
  | cons x l ih =>
    intro q c
    unfold wordsL
    split
    · obtain ⟨h1, h2⟩ := ih q []
      refine ⟨by simp only [List.length_cons]; omega, fun w hw => ?_⟩
      rcases List.mem_cons.1 hw with rfl | hw
      · exact ⟨by omega, fun b hb => .inl hb⟩
      · obtain ⟨a, b2⟩ := h2 w hw
        refine ⟨by simp only [List.length_cons, List.length_nil] at *; omega, fun b hb => ?_⟩
        rcases b2 b hb with h | h
        · cases h
        · exact .inr (List.mem_cons_of_mem _ h)
    · obtain ⟨h1, h2⟩ := ih ((stB q x).getD 0) (c ++ [x])
      refine ⟨by simp only [List.length_cons]; omega, fun w hw => ?_⟩
      obtain ⟨a, b2⟩ := h2 w hw
      refine ⟨by simp only [List.length_append, List.length_cons, List.length_nil] at *; omega, fun b hb => ?_⟩
      rcases b2 b hb with h | h
      · rcases List.mem_append.1 h with h | h
        · exact .inl h
        · rw [List.mem_singleton] at h; exact .inr (by rw [h]; exact List.mem_cons_self)
      · exact .inr (List.mem_cons_of_mem _ h)
/-- What a word of a title is. -/
structure OkW (w : ByteArray) : Prop where
  n1 : 0 < w.size
  n2 : w.size ≤ 100
  br : runB 0 w.data.toList = some 0
  asc : ∀ b ∈ w.data.toList, b.toNat < 128
theorem okb_asc (b : UInt8) (h : okb b = true) : b.toNat < 128 := by
  unfold okb at h
  simp only [Bool.and_eq_true, Bool.not_eq_true', decide_eq_false_iff_not] at h
  omega
theorem words_okw (s : ByteArray) (h : okTitle s.data.toList = true) : (wordsOf s).length ≤ 101 ∧ 1 ≤ (wordsOf s).length ∧ ∀ w ∈ wordsOf s, OkW w := by
  have o := okT_of h
  have n2 := o.n2
  obtain ⟨h1, h2⟩ := wordsL_len s.data.toList 0 []
  have h3 := words_ok s.data.toList 0 [] true o.br rfl o.sp (fun _ => rfl)
  refine ⟨by unfold wordsOf; rw [List.length_map]; omega, ?_, fun w hw => ?_⟩
  · unfold wordsOf
    rw [List.length_map]
    exact List.length_pos_iff.2 (words_pos _ _ _)
  · unfold wordsOf at hw
    obtain ⟨l, hl, rfl⟩ := List.mem_map.1 hw
    obtain ⟨a, b⟩ := h3 l hl
    obtain ⟨c, d⟩ := h2 l hl
    simp only [List.length_nil] at c
    refine ⟨by rw [ofL_size]; exact List.length_pos_iff.2 b, by rw [ofL_size]; omega, by rw [ofL_toList]; exact a, fun x hx => ?_⟩
    rw [ofL_toList] at hx
    rcases d x hx with h | h
    · cases h
    · exact okb_asc x (List.all_eq_true.1 o.pr x h)
/-! joined -/

/-! braces in a word -/
def brB (l : List UInt8) : Bool := l.any fun b => b == 123 || b == 125
theorem any_brB (l : List UInt8) : Lib.containsAny l [123, 125] = brB l := by
  have hc : ∀ b : UInt8, ([123, 125] : List UInt8).contains b = (b == 123 || b == 125) := fun b => by
    show (match b == 123 with | true => true | false => (match b == 125 with | true => true | false => false)) = _
    cases b == 123 <;> cases b == 125 <;> rfl
  have hg := Lib.indexAny_ge [123, 125]
  unfold Lib.containsAny brB
  induction l with
  | nil => rfl
  | cons b l ih =>
    have e : Lib.indexAny (b :: l) [123, 125] = if ([123, 125] : List UInt8).contains b then 0 else if Lib.indexAny l [123, 125] == -1 then -1 else Lib.indexAny l [123, 125] + 1 := rfl
    rw [List.any_cons, ← ih, ← hc, e]
    cases hb : ([123, 125] : List UInt8).contains b with
    | true => simp
    | false =>
      have := hg l
      simp only [Bool.false_eq_true, if_false, Bool.false_or]
      by_cases c : Lib.indexAny l [123, 125] = -1
      · rw [if_pos (by rw [c]; rfl), c]
      · rw [if_neg (by simpa using c), decide_eq_decide]
        omega
theorem brace_l0 (w : ByteArray) (hs : w.size ≤ 1048576) : ∀ (d i : Nat), i + d = w.size → Ev (fun k => spec_l6Brace.l0 k w (i : Int)) (brB (w.data.toList.drop i))
  | 0, i, hi => by
    rw [end_nat w i (by omega)]
    refine Ev.step (f := fun _ => some false) (fun k => ?_) (Ev.now _)
    simp only [spec_l6Brace.l0]
    rw [if_neg (by omega)]
  | d + 1, i, hi => by
    obtain ⟨b, hd, hb, _⟩ := at_nat w i (by omega)
    have hw : wrap64 ((i : Int) + 1) = ((i + 1 : Nat) : Int) := by rw [wrap_small (by omega) (by omega)]; rfl
    have ih := brace_l0 w hs d (i + 1) (by omega)
    unfold brB at *
    rw [hd, List.any_cons]
    by_cases c1 : b = 123
    · rw [c1]
      refine Ev.step (f := fun _ => some true) (fun k => ?_) (Ev.now _)
      simp only [spec_l6Brace.l0]
      rw [if_pos (by omega), if_pos (by omega), hb, if_pos ((n123 b).2 c1)]
    · by_cases c2 : b = 125
      · rw [c2]
        refine Ev.step (f := fun _ => some true) (fun k => ?_) (Ev.now _)
        simp only [spec_l6Brace.l0]
        rw [if_pos (by omega), if_pos (by omega), hb, if_neg (fun h => c1 ((n123 b).1 h)), if_pos ((n125 b).2 c2)]
      · rw [beq_eq_false_iff_ne.2 c1, beq_eq_false_iff_ne.2 c2, Bool.or_false, Bool.false_or]
        refine Ev.step (fun k => ?_) ih
        simp only [spec_l6Brace.l0]
        rw [if_pos (by omega), if_pos (by omega), hb, if_neg (fun h => c1 ((n123 b).1 h)), if_neg (fun h => c2 ((n125 b).1 h)), hw]
theorem specBrace (w : ByteArray) (hs : w.size ≤ 1048576) : Ev (fun k => spec_l6Brace.f k w) (brB w.data.toList) := by
  have := brace_l0 w hs w.size 0 (by omega)
  rw [List.drop_zero] at this
  exact this
/-! lower case -/

theorem implBrace (w : ByteArray) (hs : w.size ≤ 1048576) (h : ∀ b ∈ w.data.toList, b.toNat < 128) : impl_hasBrace.f w = some (brB w.data.toList) := by
  unfold impl_hasBrace.f strings_ContainsAny.f
  rw [if_pos (by omega), if_pos (by decide), if_pos (show (strings_ContainsAny.asc w || decide ((⟨#[123, 125]⟩ : ByteArray) = strings_ContainsAny.spb)) = true from by rw [Bool.or_eq_true]; left; unfold strings_ContainsAny.asc; exact List.all_eq_true.2 fun b hb => decide_eq_true (h b hb)), if_pos (by decide), show (⟨#[123, 125]⟩ : ByteArray).data.toList = [123, 125] from rfl, any_brB]
  rfl
theorem low_l0 (w : ByteArray) (hs : w.size ≤ 1048576) : ∀ (d i : Nat) (out : List UInt8), i + d = w.size → out.length = i → Ev (fun k => spec_l6Lower.l0 k w (nums out) (i : Int)) (ofL (out ++ (w.data.toList.drop i).map loB))
  | 0, i, out, hi, ho => by
    rw [end_nat w i (by omega), List.map_nil, List.append_nil, ← strOf_nums]
    refine Ev.step (f := fun _ => some (strOfNums (nums out))) (fun k => ?_) (Ev.now _)
    simp only [spec_l6Lower.l0]
    rw [if_neg (by omega)]
  | d + 1, i, out, hi, ho => by
    obtain ⟨b, hd, hb, _⟩ := at_nat w i (by omega)
    have hw : wrap64 ((i : Int) + 1) = ((i + 1 : Nat) : Int) := by rw [wrap_small (by omega) (by omega)]; rfl
    have ih := low_l0 w hs d (i + 1) (out ++ [loB b]) (by omega) (by simp [ho])
    rw [hd, List.map_cons]
    rw [List.append_assoc, List.singleton_append] at ih
    refine Ev.step (fun k => ?_) ih
    have hn : nums (out ++ [loB b]) = nums out ++ [((loB b).toNat : Int)] := by simp [nums]
    simp only [spec_l6Lower.l0]
    rw [if_pos (by omega), if_pos (by omega), hb, loByte, Option.bind_some, if_pos (by simp [nums]; omega), hw, hn]
theorem specLower (w : ByteArray) (hs : w.size ≤ 1048576) : Ev (fun k => spec_l6Lower.f k w) (ofL (w.data.toList.map loB)) := by
  have := low_l0 w hs w.size 0 [] (by omega) rfl
  rw [List.drop_zero] at this
  exact this
theorem specMinor (w : ByteArray) (hs : w.size ≤ 1048576) (m : Bool) (h : impl_isMinor.f (ofL (w.data.toList.map loB)) = some m) : Ev (fun k => spec_l6Minor.f k w) m := by
  unfold spec_l6Minor.f
  refine Ev.bind (specLower w hs) ?_
  unfold impl_isMinor.f at h
  rw [h]
  exact Ev.now _
theorem ite_ex {c : Prop} [Decidable c] {x y : Option Bool} (hx : ∃ m, x = some m) (hy : ∃ m, y = some m) : ∃ m, (if c then x else y) = some m := by
  split
  · exact hx
  · exact hy
theorem implMinor (t : ByteArray) : ∃ m, impl_isMinor.f t = some m := by
  unfold impl_isMinor.f
  repeat' first
    | exact ⟨_, rfl⟩
    | apply ite_ex
/-! the first letter raised -/
theorem upByte (b : UInt8) : spec_l6UpperByte.f (b.toNat : Int) = some ((upB b).toNat : Int) := by
  have h := upB_nat b
  unfold spec_l6UpperByte.f
  unfold isLoB at h
  by_cases c1 : (b.toNat : Int) ≥ 97
  · rw [if_pos c1]
    by_cases c2 : (b.toNat : Int) ≤ 122
    · rw [if_pos c2]
      rw [decide_eq_true c1, decide_eq_true c2] at h
      simp only [Bool.and_self, if_true] at h
      rw [h]
      congr 1
      omega
    · rw [if_neg c2]
      rw [decide_eq_false c2, Bool.and_false] at h
      simp only [Bool.false_eq_true, if_false] at h
      rw [h]
  · rw [if_neg c1]
    rw [decide_eq_false c1] at h
    simp only [Bool.false_and, Bool.false_eq_true, if_false] at h
    rw [h]
theorem raise_app (l m : List UInt8) (h : ∀ b ∈ l, isLetB b = false) : raiseL (l ++ m) = l ++ raiseL m := by
  induction l with
  | nil => rfl
  | cons b l ih =>
    rw [List.cons_append, raiseL, h b (by simp), if_neg (by decide), ih (fun x hx => h x (List.mem_cons_of_mem _ hx))]
    rfl
theorem raise_l0 (w : ByteArray) (hs : w.size ≤ 1048576) : ∀ (d i : Nat), i + d = w.size → (∀ b ∈ w.data.toList.take i, isLetB b = false) → Ev (fun k => spec_l6Raise.l0 k w (i : Int)) (ofL (raiseL w.data.toList))
  | 0, i, hi, hn => by
    have e : raiseL w.data.toList = w.data.toList := by
      have := raise_app w.data.toList [] (by rw [List.take_of_length_le (by rw [data_length]; omega)] at hn; exact hn)
      simpa [raiseL] using this
    rw [e, ofL_data]
    refine Ev.step (f := fun _ => some w) (fun k => ?_) (Ev.now _)
    simp only [spec_l6Raise.l0]
    rw [if_neg (by omega)]
  | d + 1, i, hi, hn => by
    obtain ⟨b, hd, hb, hg⟩ := at_nat w i (by omega)
    have hw : wrap64 ((i : Int) + 1) = ((i + 1 : Nat) : Int) := by rw [wrap_small (by omega) (by omega)]; rfl
    cases hL : isLetB b with
    | true =>
      have e : raiseL w.data.toList = w.data.toList.take i ++ (upB b :: w.data.toList.drop (i + 1)) := by
        have h1 := (List.take_append_drop i w.data.toList).symm
        have h2 := raise_app (w.data.toList.take i) (w.data.toList.drop i) hn
        rw [← h1, hd] at h2
        rw [h2, raiseL, hL, if_pos rfl]
      have z1 : (w.extract 0 i).size ≤ w.size := by rw [ByteArray.size_extract]; omega
      have z3 : (w.extract (i + 1) w.size).size ≤ w.size := by rw [ByteArray.size_extract]; omega
      have z2 : (strOfNums [((upB b).toNat : Int)]).size = 1 := by rw [strOfNums_size]; rfl
      have hv : (w.extract 0 i ++ strOfNums [((upB b).toNat : Int)]) ++ w.extract (i + 1) w.size = ofL (raiseL w.data.toList) := by
        rw [e, ex_pre, ex_end]
        have : strOfNums [((upB b).toNat : Int)] = ofL [upB b] := strOf_nums [upB b]
        rw [this]
        apply ofL_ext
        simp [ofL]
      rw [← hv]
      refine Ev.step (f := fun _ => some ((w.extract 0 i ++ strOfNums [((upB b).toNat : Int)]) ++ w.extract (i + 1) w.size)) (fun k => ?_) (Ev.now _)
      simp only [spec_l6Raise.l0]
      rw [if_pos (by omega), if_pos (by omega), hb, let_eq, Option.bind_some, hL, if_pos rfl, if_pos (by omega), upByte, Option.bind_some, Option.bind_some, Int.toNat_natCast, if_pos (by omega), hw, if_pos (by omega), if_pos (by omega), Int.toNat_natCast, if_pos (by rw [ByteArray.size_append]; omega)]
    | false =>
      refine Ev.step (fun k => ?_) (raise_l0 w hs d (i + 1) (by omega) (fun x hx => by
        obtain ⟨h1, h2⟩ := List.getElem?_eq_some_iff.1 hg
        rw [List.take_succ_eq_append_getElem h1, h2] at hx
        rcases List.mem_append.1 hx with hx | hx
        · exact hn x hx
        · rw [List.mem_singleton] at hx; subst hx; exact hL))
      simp only [spec_l6Raise.l0]
      rw [if_pos (by omega), if_pos (by omega), hb, let_eq, Option.bind_some, hL, if_neg (by decide), hw]
theorem specRaise (w : ByteArray) (hs : w.size ≤ 1048576) : Ev (fun k => spec_l6Raise.f k w) (ofL (raiseL w.data.toList)) := raise_l0 w hs w.size 0 (by omega) (fun b hb => by simp at hb)
theorem raise_nums (l : List UInt8) : impl_raised.raise (nums l) = nums (raiseL l) := by
  induction l with
  | nil => rfl
  | cons b l ih =>
    have e : impl_raised.let (b.toNat : Int) = isLetB b := rfl
    have e2 : impl_raised.up (b.toNat : Int) = ((upB b).toNat : Int) := (upB_nat b).symm
    show impl_raised.raise ((b.toNat : Int) :: nums l) = _
    rw [impl_raised.raise, raiseL, e, e2, ih]
    cases isLetB b <;> rfl
theorem implRaise (w : ByteArray) (hs : w.size ≤ 1048576) : impl_raised.f w = some (ofL (raiseL w.data.toList)) := by
  unfold impl_raised.f
  rw [if_pos (by omega), ← strOf_nums, ← raise_nums]
  rfl
theorem raise_len (l : List UInt8) : (raiseL l).length = l.length := by
  induction l with
  | nil => rfl
  | cons b l ih => rw [raiseL]; split <;> simp [ih]
/-! calm -/
theorem calm_nums (l : List UInt8) : ∀ ps, impl_lowered.calm (nums l) ps = nums (calmP l ps) := by
  induction l with
  | nil => intro ps; cases ps <;> rfl
  | cons b l ih =>
    intro ps
    cases ps with
    | nil => rfl
    | cons p ps =>
      have e : impl_lowered.g (b.toNat : Int) p = (((if p = true then b else loB b).toNat : Nat) : Int) := by
        unfold impl_lowered.g
        cases p with
        | true => rfl
        | false => exact (loB_nat b).symm
      show impl_lowered.calm ((b.toNat : Int) :: nums l) (p :: ps) = _
      rw [impl_lowered.calm, calmP, ih, e]
      rfl
theorem implCalm (w : ByteArray) (hs : w.size ≤ 1048576) (h : (runB 0 w.data.toList).isSome = true) : Ev (fun k => impl_lowered.f k w) (ofL (calmL false w.data.toList)) := by
  unfold impl_lowered.f
  refine Ev.bind (prot_ev w (by omega)) ?_
  have hl := protL_len w.data.toList 0 h
  rw [data_length] at hl
  rw [resP_fst _ h, if_pos (by omega), if_pos (by omega)]
  have : impl_lowered.calm (bytesOf w) (protL 0 w.data.toList) = nums (calmL false w.data.toList) := by
    rw [show bytesOf w = nums w.data.toList from rfl, calm_nums, calm_same _ 0 h]
    rfl
  rw [this, strOf_nums]
  exact Ev.now _
theorem calm_l0 (w : ByteArray) (hs : w.size ≤ 1048576) : ∀ (d i : Nat) (out : List UInt8) (p : Bool), i + d = w.size → out.length = i → Ev (fun k => spec_l6Calm.l0 k w (nums out) p (i : Int)) (ofL (out ++ calmL p (w.data.toList.drop i)))
  | 0, i, out, p, hi, ho => by
    rw [end_nat w i (by omega), calmL, List.append_nil, ← strOf_nums]
    refine Ev.step (f := fun _ => some (strOfNums (nums out))) (fun k => ?_) (Ev.now _)
    simp only [spec_l6Calm.l0]
    rw [if_neg (by omega)]
  | d + 1, i, out, p, hi, ho => by
    obtain ⟨b, hd, hb, _⟩ := at_nat w i (by omega)
    have hw : wrap64 ((i : Int) + 1) = ((i + 1 : Nat) : Int) := by rw [wrap_small (by omega) (by omega)]; rfl
    have hn : ∀ x : UInt8, nums (out ++ [x]) = nums out ++ [(x.toNat : Int)] := fun x => by simp [nums]
    have hlen : (nums out).length < 140737488355328 := by simp [nums]; omega
    rw [hd, calmL]
    by_cases c1 : b = 123
    · have ih := calm_l0 w hs d (i + 1) (out ++ [b]) true (by omega) (by simp [ho])
      rw [List.append_assoc, List.singleton_append] at ih
      have hq : (if b = 123 ∨ b = 125 then decide (b = 123) else p) = true := by rw [if_pos (.inl c1), decide_eq_true c1]
      rw [hq, if_pos rfl]
      refine Ev.step (fun k => ?_) (Ev.step (g := fun k => spec_l6Calm.j1 k w (nums out) p (i : Int) true) (fun k => ?_) ih)
      · simp only [spec_l6Calm.l0]
        rw [if_pos (by omega), if_pos (by omega), hb, if_pos ((n123 b).2 c1)]
      · have hbb : ((b.toNat : Int) == 123) = true := beq_iff_eq.2 ((n123 b).2 c1)
        simp only [spec_l6Calm.j1]
        rw [if_pos trivial, if_pos (by omega), if_pos (by omega), hb, if_pos ((n123 b).2 c1), if_pos hlen, hbb, hw, hn]
    · by_cases c2 : b = 125
      · have ih := calm_l0 w hs d (i + 1) (out ++ [loB b]) false (by omega) (by simp [ho])
        rw [List.append_assoc, List.singleton_append] at ih
        have hq : (if b = 123 ∨ b = 125 then decide (b = 123) else p) = false := by rw [if_pos (.inr c2), decide_eq_false c1]
        rw [hq, if_neg (by decide)]
        refine Ev.step (fun k => ?_) (Ev.step (g := fun k => spec_l6Calm.j1 k w (nums out) p (i : Int) true) (fun k => ?_) ih)
        · simp only [spec_l6Calm.l0]
          rw [if_pos (by omega), if_pos (by omega), hb, if_neg (fun h => c1 ((n123 b).1 h)), beq_iff_eq.2 ((n125 b).2 c2)]
        · have hbb : ((b.toNat : Int) == 123) = false := beq_eq_false_iff_ne.2 (fun h => c1 ((n123 b).1 h))
          simp only [spec_l6Calm.j1]
          rw [if_pos trivial, if_pos (by omega), if_pos (by omega), hb, if_neg (fun h => c1 ((n123 b).1 h)), loByte, Option.bind_some, if_pos hlen, hbb, hw, hn]
      · have hq : (if b = 123 ∨ b = 125 then decide (b = 123) else p) = p := if_neg (fun h => h.elim c1 c2)
        rw [hq]
        have e0 : Ev (fun k => spec_l6Calm.j1 k w (nums out) p (i : Int) false) (ofL (out ++ (if p = true then b else loB b) :: calmL p (w.data.toList.drop (i + 1)))) := by
          cases p with
          | true =>
            have ih := calm_l0 w hs d (i + 1) (out ++ [b]) true (by omega) (by simp [ho])
            rw [List.append_assoc, List.singleton_append] at ih
            refine Ev.step (fun k => ?_) ih
            simp only [spec_l6Calm.j1]
            rw [if_neg (by decide), if_pos trivial, if_pos (by omega), if_pos (by omega), hb, if_pos hlen, hw, hn]
          | false =>
            have ih := calm_l0 w hs d (i + 1) (out ++ [loB b]) false (by omega) (by simp [ho])
            rw [List.append_assoc, List.singleton_append] at ih
            refine Ev.step (fun k => ?_) ih
            simp only [spec_l6Calm.j1]
            rw [if_neg (by decide), if_neg (by decide), if_pos (by omega), if_pos (by omega), hb, loByte, Option.bind_some, if_pos hlen, hw, hn]
        refine Ev.step (fun k => ?_) e0
        simp only [spec_l6Calm.l0]
        rw [if_pos (by omega), if_pos (by omega), hb, if_neg (fun h => c1 ((n123 b).1 h)), beq_eq_false_iff_ne.2 (fun h => c2 ((n125 b).1 h))]
theorem specCalm (w : ByteArray) (hs : w.size ≤ 1048576) : Ev (fun k => spec_l6Calm.f k w) (ofL (calmL false w.data.toList)) := by
  have := calm_l0 w hs w.size 0 [] false (by omega) rfl
  rw [List.drop_zero] at this
  exact this
theorem calm_len (l : List UInt8) : ∀ p, (calmL p l).length = l.length := by
  induction l with
  | nil => intro p; rfl
  | cons b l ih => intro p; rw [calmL, List.length_cons, List.length_cons, ih]
theorem lo_br (b : UInt8) : (loB b == 123 || loB b == 125) = (b == 123 || b == 125) := by
  have h := loB_nat b
  have e : ∀ c : UInt8, (c.toNat : Int) = 123 ∨ (c.toNat : Int) = 125 → (loB b == c) = (b == c) := fun c hc => by
    rw [← beq_n, ← beq_n, h]
    unfold isUpB
    split
    · rename_i hu
      simp only [Bool.and_eq_true, decide_eq_true_eq] at hu
      rw [beq_eq_false_iff_ne.2 (by omega), beq_eq_false_iff_ne.2 (by omega)]
    · rfl
  rw [e 123 (.inl rfl), e 125 (.inr rfl)]
theorem calm_brB (l : List UInt8) : ∀ p, brB (calmL p l) = brB l := by
  induction l with
  | nil => intro p; rfl
  | cons b l ih =>
    intro p
    have := ih (if b = 123 ∨ b = 125 then decide (b = 123) else p)
    unfold brB at *
    rw [calmL, List.any_cons, List.any_cons, this]
    generalize (if b = 123 ∨ b = 125 then decide (b = 123) else p) = P
    cases P with
    | true => rfl
    | false => rw [show (if false = true then b else loB b) = loB b from rfl, lo_br]
/-! which words begin -/
def begW (ws : List ByteArray) (i : Nat) : Bool := match i with | 0 => true | j + 1 => bt (ws.getD j ByteArray.empty) (((ws.getD j ByteArray.empty).size : Int) - 1) == 58
theorem specStarts (ws : List ByteArray) (i : Nat) (hi : i < ws.length) (hl : ws.length ≤ 1048576) (hw : ∀ w ∈ ws, OkW w) : spec_l6Starts.f ws (i : Int) = some (begW ws i) := by
  unfold spec_l6Starts.f
  cases i with
  | zero => rw [if_pos (by rfl)]; rfl
  | succ j =>
    have hj : j < ws.length := by omega
    have e : wrap64 (((j + 1 : Nat) : Int) - 1) = (j : Int) := by rw [wrap_small (by omega) (by omega)]; omega
    have er : rdOf ByteArray.empty ws (j : Int) = ws.getD j ByteArray.empty := by unfold rdOf; rw [Int.toNat_natCast]
    have hm : ws.getD j ByteArray.empty ∈ ws := by rw [List.getD_eq_getElem?_getD, List.getElem?_eq_getElem hj]; exact List.getElem_mem hj
    have o := hw _ hm
    have n1 := o.n1
    have n2 := o.n2
    rw [if_neg (by omega), e, if_pos (by omega), if_pos (by omega), er, wrap_small (by omega) (by omega), if_pos (by omega), if_pos (by omega)]
    rfl
theorem implBegins (ws : List ByteArray) (i : Nat) (hi : i < ws.length) (hl : ws.length ≤ 1048576) (hw : ∀ w ∈ ws, OkW w) : impl_begins.f ws (i : Int) = some (begW ws i) := by
  unfold impl_begins.f strings_HasSuffix.f stringslite_HasSuffix.f
  cases i with
  | zero => rw [if_pos (by rfl)]; rfl
  | succ j =>
    have hj : j < ws.length := by omega
    have e : wrap64 (((j + 1 : Nat) : Int) - 1) = (j : Int) := by rw [wrap_small (by omega) (by omega)]; omega
    have er : rdOf ByteArray.empty ws (j : Int) = ws.getD j ByteArray.empty := by unfold rdOf; rw [Int.toNat_natCast]
    have hm : ws.getD j ByteArray.empty ∈ ws := by rw [List.getD_eq_getElem?_getD, List.getElem?_eq_getElem hj]; exact List.getElem_mem hj
    have o := hw _ hm
    have n1 := o.n1
    have n2 := o.n2
    have hsz : (⟨#[58]⟩ : ByteArray).size = 1 := rfl
    rw [if_neg (by omega), e, if_pos (by omega), if_pos (by omega), er, hsz]
    have hbw : begW ws (j + 1) = (bt (ws.getD j ByteArray.empty) (((ws.getD j ByteArray.empty).size : Int) - 1) == 58) := rfl
    rw [hbw]
    clear hbw
    generalize ws.getD j ByteArray.empty = w at *
    rw [if_pos (by omega), wrap_small (by omega) (by omega), if_pos (by omega), if_pos (by omega), Option.bind_some, Option.bind_some]
    congr 1
    obtain ⟨l, b, h1, h2, _⟩ := last_at w n1
    have hl2 := data_length w
    rw [h1, List.length_append, List.length_singleton] at hl2
    rw [h2, show ((w.size : Int) - ((1 : Nat) : Int)).toNat = l.length from by omega, ex_end, Lib.toList_data, ofL_toList, h1, List.drop_left' rfl, Lib.toList_data, show ((58 : Int)) = ((58 : UInt8).toNat : Int) from rfl, beq_n]
    simp

end Go.Proofs.YtilchcponlgmjaaDoor.Pure
