/- Lemmas on the printed functions, without Go and memory. -/
import Derived.Lib.Join
import Derived.Lib.Join
import Derived.Test.YtiofklnfpmphnaaDoorPx11
import Derived.Test.YtiofklnfpmphnaaDoorPx13
import Derived.Test.YtiofklnfpmphnaaDoorPx15
import Derived.Test.YtiofklnfpmphnaaDoorPx3
import Derived.Test.YtiofklnfpmphnaaDoorPx4
import Derived.Test.YtiofklnfpmphnaaDoorPx8
import Derived.Test.YtiofklnfpmphnaaDoorQTitF
namespace Go.Proofs.YtiofklnfpmphnaaDoor.Pure
open Go.RowKit Go.Proofs.YtiofklnfpmphnaaDoor.Px Go.Proofs.YtiofklnfpmphnaaDoorW.PrintWords Go.Proofs.YtiofklnfpmphnaaDoorW.PrintLast
set_option linter.unusedVariables false
set_option linter.unusedSimpArgs false

def JN (ws : List ByteArray) : ByteArray := ofL (Lib.join (ws.map (·.data.toList)) [32])
def tot (ws : List ByteArray) : Nat := (ws.map (·.size)).sum
theorem join_len (ws : List ByteArray) : (Lib.join (ws.map (·.data.toList)) [32]).length ≤ tot ws + ws.length := by
  cases ws with
  | nil => simp [Lib.join_nil, tot]
  | cons w ws =>
    rw [List.map_cons, Lib.join_cons]
    have : ∀ r : List ByteArray, (Lib.joinTail [32] (r.map (·.data.toList))).length = tot r + r.length := fun r => by
      induction r with
      | nil => rfl
      | cons x r ih =>
        have hx := data_length x
        unfold Lib.joinTail tot at *
        simp only [List.map_cons, List.flatten_cons, List.length_append, List.length_cons, List.length_nil, List.sum_cons, ih]
        omega
    have hx := data_length w
    rw [List.length_append, this ws]
    unfold tot
    simp only [List.map_cons, List.sum_cons, List.length_cons]
    omega
theorem tot_le (ws : List ByteArray) (n : Nat) (h : ∀ w ∈ ws, w.size ≤ n) : tot ws ≤ n * ws.length := by
  induction ws with
  | nil => simp [tot]
  | cons w ws ih =>
    have a := h w (by simp)
    have b := ih (fun x hx => h x (List.mem_cons_of_mem _ hx))
    unfold tot at *
    simp only [List.map_cons, List.sum_cons, List.length_cons]
    rw [Nat.mul_succ]
    omega
theorem join_snoc (ps : List (List UInt8)) (p : List UInt8) (h : ps ≠ []) : Lib.join (ps ++ [p]) [32] = Lib.join ps [32] ++ ([32] ++ p) := by
  obtain ⟨x, r, rfl⟩ : ∃ x r, ps = x :: r := by cases ps with
    | nil => exact absurd rfl h
    | cons x r => exact ⟨x, r, rfl⟩
  rw [List.cons_append, Lib.join_cons, Lib.join_cons]
  simp [Lib.joinTail]
theorem implJoin (ws : List ByteArray) (h : tot ws ≤ 1048576) (h2 : ws.length ≤ 1048576) : strings_Join.f ws (⟨#[32]⟩ : ByteArray) = some (JN ws) := by
  have := join_len ws
  unfold strings_Join.f JN ofL
  rw [show (⟨#[32]⟩ : ByteArray).data.toList = [32] from rfl, if_pos ⟨by omega, by omega⟩]
theorem tot_take (ws : List ByteArray) (i : Nat) (h : i < ws.length) : tot (ws.take (i + 1)) = tot (ws.take i) + (ws[i]).size := by
  unfold tot
  rw [List.take_succ_eq_append_getElem h, List.map_append, List.sum_append, List.map_singleton, List.sum_singleton]
theorem tot_pre (ws : List ByteArray) (i : Nat) : tot (ws.take i) ≤ tot ws := by
  have h : tot ws = tot (ws.take i) + tot (ws.drop i) := by
    unfold tot
    rw [← List.sum_append, ← List.map_append, List.take_append_drop]
  omega
theorem join_loop (ws : List ByteArray) (h : tot ws ≤ 1048576) (h2 : ws.length ≤ 1048576) : ∀ (d i : Nat) (acc : ByteArray), i + d = ws.length → acc.data.toList = Lib.join ((ws.take i).map (·.data.toList)) [32] → Ev (fun k => spec_l6Join.l0 k ws acc (i : Int)) (JN ws)
  | 0, i, acc, hi, ha => by
    have e : acc = JN ws := ofL_ext _ _ (by rw [ha, List.take_of_length_le (by omega)])
    refine Ev.step (f := fun _ => some acc) (fun k => ?_) (by rw [e]; exact Ev.now _)
    simp only [spec_l6Join.l0]
    rw [if_neg (by omega)]
  | d + 1, i, acc, hi, ha => by
    have hlt : i < ws.length := by omega
    have hw : wrap64 ((i : Int) + 1) = ((i + 1 : Nat) : Int) := by rw [wrap_small (by omega) (by omega)]; rfl
    have e : rdOf ByteArray.empty ws (i : Int) = ws[i] := by
      unfold rdOf
      rw [Int.toNat_natCast, List.getD_eq_getElem?_getD, List.getElem?_eq_getElem hlt]
      rfl
    have ht := tot_take ws i hlt
    have hp := tot_pre ws (i + 1)
    have hj := join_len (ws.take i)
    have hal := data_length acc
    rw [← ha, List.length_take, hal] at hj
    have hm : (ws.take (i + 1)).map (·.data.toList) = (ws.take i).map (·.data.toList) ++ [(ws[i]).data.toList] := by
      rw [List.take_succ_eq_append_getElem hlt, List.map_append]
      rfl
    have hsz : (⟨#[32]⟩ : ByteArray).size = 1 := rfl
    by_cases c : 0 < i
    · refine Ev.step (fun k => ?_) (join_loop ws h h2 d (i + 1) ((acc ++ (⟨#[32]⟩ : ByteArray)) ++ ws[i]) (by omega) (by
        rw [hm, join_snoc _ _ (fun e0 => by have := congrArg List.length e0; rw [List.length_map, List.length_take, List.length_nil] at this; omega), ← ha]
        simp))
      simp only [spec_l6Join.l0]
      rw [if_pos (by omega), if_pos (by omega), if_pos (by omega), if_pos (by omega), e, if_pos (by simp only [ByteArray.size_append, hsz]; omega), hw]
    · obtain rfl : i = 0 := by omega
      refine Ev.step (fun k => ?_) (join_loop ws h h2 d (0 + 1) (acc ++ ws[0]) (by omega) (by
        rw [hm, List.take_zero, List.map_nil, List.nil_append, Lib.join_one]
        rw [List.take_zero, List.map_nil, Lib.join_nil] at ha
        simp [ha]))
      simp only [spec_l6Join.l0]
      rw [if_pos (by omega), if_neg (by omega), if_pos (by omega), e, if_pos (by omega), hw]
theorem specJoin (ws : List ByteArray) (h : tot ws ≤ 1048576) (h2 : ws.length ≤ 1048576) : Ev (fun k => spec_l6Join.f k ws) (JN ws) := join_loop ws h h2 ws.length 0 (⟨#[]⟩ : ByteArray) (by omega) (by rw [List.take_zero, List.map_nil, Lib.join_nil])

def nums (l : List UInt8) : List Int := l.map fun b => (b.toNat : Int)
theorem strOf_nums (l : List UInt8) : strOfNums (nums l) = ofL l := by
  apply ofL_ext
  simp only [strOfNums, nums, List.map_map]
  have : ∀ l : List UInt8, l.map ((fun z : Int => UInt8.ofNat z.toNat) ∘ fun b : UInt8 => (b.toNat : Int)) = l := fun l => by
    induction l with
    | nil => rfl
    | cons b l ih => rw [List.map_cons, ih]; simp
  simpa using this l
theorem implLower (w : ByteArray) (hs : w.size ≤ 1048576) : impl_lower.f w = some (ofL (w.data.toList.map loB)) := by
  unfold impl_lower.f
  rw [if_pos (by omega), ← strOf_nums]
  congr 2
  unfold bytesOf nums
  rw [List.map_map, List.map_map]
  apply List.map_congr_left
  intro b _
  have := loB_nat b
  show impl_lower.low (b.toNat : Int) = ((loB b).toNat : Int)
  rw [this]
  rfl
/-! the words of a title -/
theorem ex_mid (s : ByteArray) (a b : Nat) (h : a ≤ b) : s.extract a b = ofL ((s.data.toList.take b).drop a) := ext_list _ _ (by
  rw [ofL_toList, ByteArray.data_extract, Array.toList_extract, List.extract_eq_take_drop, List.drop_take])
theorem ex_end (s : ByteArray) (a : Nat) : s.extract a s.size = ofL (s.data.toList.drop a) := ext_list _ _ (by
  rw [ofL_toList, ByteArray.data_extract, Array.toList_extract, List.extract_eq_take_drop, List.take_of_length_le (by rw [List.length_drop, data_length]; omega)])
theorem ex_pre (s : ByteArray) (a : Nat) : s.extract 0 a = ofL (s.data.toList.take a) := ext_list _ _ (by
  rw [ofL_toList, ByteArray.data_extract, Array.toList_extract, List.extract_eq_take_drop, List.drop_zero, Nat.sub_zero])
theorem cur_snoc (s : ByteArray) (frm i : Nat) (b : UInt8) (h : frm ≤ i) (hi : i < s.size) (hg : s.data.toList[i]? = some b) : (s.data.toList.take (i + 1)).drop frm = (s.data.toList.take i).drop frm ++ [b] := by
  have hl := data_length s
  obtain ⟨h1, h2⟩ := List.getElem?_eq_some_iff.1 hg
  rw [List.take_succ_eq_append_getElem h1, h2, List.drop_append_of_le_length (by rw [List.length_take]; omega)]
def wordsOf (s : ByteArray) : List ByteArray := (wordsL 0 [] s.data.toList).map ofL
theorem words_impl (s : ByteArray) (hs : s.size ≤ 1099511627776) (ps : List Bool) : ∀ (d i frm q : Nat) (out : List ByteArray) (pre : List Bool), i + d = s.size → frm ≤ i → out.length ≤ i → (runB q (s.data.toList.drop i)).isSome = true → pre.length = i → ps = pre ++ protL q (s.data.toList.drop i) →
    Ev (fun k => impl_titleWords.l0 k s ps out (frm : Int) (i : Int)) (out ++ (wordsL q ((s.data.toList.take i).drop frm) (s.data.toList.drop i)).map ofL)
  | 0, i, frm, q, out, pre, hi, hf, ho, hr, hp, hps => by
    rw [end_nat s i (by omega), List.take_of_length_le (by rw [data_length]; omega), wordsL]
    refine Ev.step (f := fun _ => some (out ++ [s.extract frm s.size])) (fun k => ?_) ?_
    · simp only [impl_titleWords.l0]
      rw [if_neg (by omega), if_pos (by omega), if_pos (by omega), if_pos (by omega), Int.toNat_natCast]
    · rw [ex_end]
      exact Ev.now _
  | d + 1, i, frm, q, out, pre, hi, hf, ho, hr, hp, hps => by
    obtain ⟨b, hd, hb, hg⟩ := at_nat s i (by omega)
    have hw : wrap64 ((i : Int) + 1) = ((i + 1 : Nat) : Int) := by rw [wrap_small (by omega) (by omega)]; rfl
    rw [hd] at hr hps
    obtain ⟨p, hs2, hr2⟩ := runB_tail hr
    rw [protL, hs2] at hps
    simp only at hps
    have hat : rdOf false ps (i : Int) = (decide (p ≠ 0) || b == 125) := by
      unfold rdOf
      rw [Int.toNat_natCast, hps, List.getD_eq_getElem?_getD, List.getElem?_append_right (by omega), hp, Nat.sub_self]
      rfl
    have hlt : (i : Int) < (ps.length : Int) := by
      rw [hps]
      simp only [List.length_append, List.length_cons]
      omega
    have hps2 : ps = (pre ++ [decide (p ≠ 0) || b == 125]) ++ protL p (s.data.toList.drop (i + 1)) := by rw [hps]; simp
    have cur := cur_snoc s frm i b hf (by omega) hg
    have stay : ¬ (b = 32 ∧ q = 0) → Ev (fun k => impl_titleWords.l0 k s ps out (frm : Int) ((i + 1 : Nat) : Int)) (out ++ (wordsL q ((s.data.toList.take i).drop frm) (s.data.toList.drop i)).map ofL) := fun c => by
      have := words_impl s hs ps d (i + 1) frm p out _ (by omega) (by omega) (by omega) hr2 (by simp [hp]) hps2
      rw [hd, wordsL, if_neg c, hs2, ← cur]
      exact this
    by_cases c : b = 32
    · have hp2 : p = if q = 0 then 0 else 2 := by
        have := stB_ne q b (by rw [c]; decide) (by rw [c]; decide)
        rw [hs2] at this
        exact Option.some.inj this
      have h125 : (b == 125) = false := by rw [c]; rfl
      rw [h125, Bool.or_false] at hat
      by_cases z : q = 0
      · rw [if_pos z] at hp2
        have nx := words_impl s hs ps d (i + 1) (i + 1) p (out ++ [s.extract frm i]) _ (by omega) (by omega) (by simp; omega) hr2 (by simp [hp]) hps2
        rw [hd, wordsL, if_pos ⟨c, z⟩]
        have e : (s.data.toList.take (i + 1)).drop (i + 1) = [] := List.drop_of_length_le (by rw [List.length_take]; omega)
        rw [e, hp2, ← z, List.append_assoc] at nx
        rw [List.map_cons, ← ex_mid s frm i hf]
        refine Ev.step (fun k => ?_) nx
        simp only [impl_titleWords.l0]
        rw [if_pos (by omega), if_pos (by omega), hb, if_pos ((n32 b).2 c), if_pos hlt, hat, hp2, if_neg (by decide), if_pos (by omega), if_pos (by omega), if_pos (by omega), if_pos (by omega), Int.toNat_natCast, Int.toNat_natCast, hw]
      · rw [if_neg z] at hp2
        refine Ev.step (fun k => ?_) (stay (fun h => z h.2))
        simp only [impl_titleWords.l0]
        rw [if_pos (by omega), if_pos (by omega), hb, if_pos ((n32 b).2 c), if_pos hlt, hat, hp2, if_pos (by decide), hw]
    · refine Ev.step (fun k => ?_) (stay (fun h => c h.1))
      simp only [impl_titleWords.l0]
      rw [if_pos (by omega), if_pos (by omega), hb, if_neg (fun h => c ((n32 b).1 h)), hw]
theorem words_spec (s : ByteArray) (hs : s.size ≤ 1099511627776) : ∀ (d i frm q : Nat) (out : List ByteArray), i + d = s.size → frm ≤ i → out.length ≤ i → (runB q (s.data.toList.drop i)).isSome = true →
    Ev (fun k => spec_l6Words.l0 k s out (frm : Int) (decide (q ≠ 0)) (i : Int)) (out ++ (wordsL q ((s.data.toList.take i).drop frm) (s.data.toList.drop i)).map ofL)
  | 0, i, frm, q, out, hi, hf, ho, hr => by
    rw [end_nat s i (by omega), List.take_of_length_le (by rw [data_length]; omega), wordsL]
    refine Ev.step (f := fun _ => some (out ++ [s.extract frm s.size])) (fun k => ?_) ?_
    · simp only [spec_l6Words.l0]
      rw [if_neg (by omega), if_pos (by omega), if_pos (by omega), if_pos (by omega), Int.toNat_natCast]
    · rw [ex_end]
      exact Ev.now _
  | d + 1, i, frm, q, out, hi, hf, ho, hr => by
    obtain ⟨b, hd, hb, hg⟩ := at_nat s i (by omega)
    have hw : wrap64 ((i : Int) + 1) = ((i + 1 : Nat) : Int) := by rw [wrap_small (by omega) (by omega)]; rfl
    rw [hd] at hr
    obtain ⟨p, hs2, hr2⟩ := runB_tail hr
    have cur := cur_snoc s frm i b hf (by omega) hg
    have stay : ¬ (b = 32 ∧ q = 0) → Ev (fun k => spec_l6Words.l0 k s out (frm : Int) (decide (p ≠ 0)) ((i + 1 : Nat) : Int)) (out ++ (wordsL q ((s.data.toList.take i).drop frm) (s.data.toList.drop i)).map ofL) := fun c => by
      have := words_spec s hs d (i + 1) frm p out (by omega) (by omega) (by omega) hr2
      rw [hd, wordsL, if_neg c, hs2, ← cur]
      exact this
    have hs3 := hs2
    unfold stB at hs3
    by_cases c1 : b = 123
    · rw [if_pos c1] at hs3
      by_cases z : q = 0
      · rw [if_pos z] at hs3
        obtain rfl := Option.some.inj hs3
        refine Ev.step (fun k => ?_) (stay (fun h => by rw [h.1] at c1; exact absurd c1 (by decide)))
        simp only [spec_l6Words.l0]
        rw [if_pos (by omega), if_pos (by omega), hb, if_pos ((n123 b).2 c1), hw]
        rfl
      · rw [if_neg z] at hs3; cases hs3
    · rw [if_neg c1] at hs3
      by_cases c2 : b = 125
      · rw [if_pos c2] at hs3
        by_cases z : q = 2
        · rw [if_pos z] at hs3
          obtain rfl := Option.some.inj hs3
          refine Ev.step (fun k => ?_) (stay (fun h => by rw [h.1] at c2; exact absurd c2 (by decide)))
          simp only [spec_l6Words.l0]
          rw [if_pos (by omega), if_pos (by omega), hb, if_neg (fun h => c1 ((n123 b).1 h)), if_pos ((n125 b).2 c2), hw]
          rfl
        · rw [if_neg z] at hs3; cases hs3
      · rw [if_neg c2] at hs3
        have hpq : decide (p ≠ 0) = decide (q ≠ 0) := by
          have := Option.some.inj hs3
          by_cases z : q = 0
          · rw [if_pos z] at this; rw [← this, z]
          · rw [if_neg z] at this; rw [← this]; simp [z]
        by_cases c : b = 32
        · by_cases z : q = 0
          · have hp0 : p = 0 := by have := Option.some.inj hs3; rw [if_pos z] at this; exact this.symm
            subst z
            subst hp0
            have nx := words_spec s hs d (i + 1) (i + 1) 0 (out ++ [s.extract frm i]) (by omega) (by omega) (by simp; omega) hr2
            rw [hd, wordsL, if_pos ⟨c, rfl⟩]
            have e : (s.data.toList.take (i + 1)).drop (i + 1) = [] := List.drop_of_length_le (by rw [List.length_take]; omega)
            rw [e, List.append_assoc] at nx
            rw [List.map_cons, ← ex_mid s frm i hf]
            refine Ev.step (fun k => ?_) nx
            simp only [spec_l6Words.l0]
            rw [if_pos (by omega), if_pos (by omega), hb, if_neg (fun h => c1 ((n123 b).1 h)), if_neg (fun h => c2 ((n125 b).1 h)), if_pos ((n32 b).2 c), if_neg (by decide), if_pos (by omega), if_pos (by omega), if_pos (by omega), if_pos (by omega), Int.toNat_natCast, Int.toNat_natCast, hw]
          · have st := stay (fun h => z h.2)
            rw [hpq] at st
            refine Ev.step (fun k => ?_) st
            simp only [spec_l6Words.l0]
            rw [if_pos (by omega), if_pos (by omega), hb, if_neg (fun h => c1 ((n123 b).1 h)), if_neg (fun h => c2 ((n125 b).1 h)), if_pos ((n32 b).2 c), if_pos (by simp [z]), hw]
        · have st := stay (fun h => c h.1)
          rw [hpq] at st
          refine Ev.step (fun k => ?_) st
          simp only [spec_l6Words.l0]
          rw [if_pos (by omega), if_pos (by omega), hb, if_neg (fun h => c1 ((n123 b).1 h)), if_neg (fun h => c2 ((n125 b).1 h)), if_neg (fun h => c ((n32 b).1 h)), hw]
theorem words_both (s : ByteArray) (hs : s.size ≤ 1099511627776) (h : (runB 0 s.data.toList).isSome = true) : Ev (fun k => spec_l6Words.f k s) (wordsOf s) ∧ Ev (fun k => impl_titleWords.f k s) (wordsOf s) := by
  constructor
  · have := words_spec s hs s.size 0 0 0 [] (by omega) (by omega) (by simp) (by simpa using h)
    simp only [List.take_zero, List.drop_zero, List.drop_nil, List.nil_append] at this
    exact this
  · have := words_impl s hs (protL 0 s.data.toList) s.size 0 0 0 [] [] (by omega) (by omega) (by simp) (by simpa using h) rfl (by simp)
    simp only [List.take_zero, List.drop_zero, List.drop_nil, List.nil_append] at this
    unfold impl_titleWords.f
    refine Ev.bind (prot_ev s hs) ?_
    rw [resP_fst _ h]
    exact this
theorem wordsL_len (l : List UInt8) : ∀ q c, (wordsL q c l).length ≤ l.length + 1 ∧ ∀ w ∈ wordsL q c l, w.length ≤ c.length + l.length ∧ ∀ b ∈ w, b ∈ c ∨ b ∈ l := by
  induction l with
  | nil =>
    intro q c
    simp only [wordsL, List.length_singleton, List.length_nil, List.mem_singleton]
    exact ⟨by omega, fun w hw => by subst hw; exact ⟨by omega, fun b hb => .inl hb⟩⟩
  | cons x l ih =>
    intro q c
    unfold wordsL
    split
    · obtain ⟨h1, h2⟩ := ih q []
      refine ⟨by simp only [List.length_cons]; omega, fun w hw => ?_⟩
      rcases List.mem_cons.1 hw with rfl | hw
      · exact ⟨by omega, fun b hb => .inl hb⟩
      · obtain ⟨a, b2⟩ := h2 w hw
        refine ⟨by simp only [List.length_cons, List.length_nil] at *; omega, fun b hb => ?_⟩
        rcases b2 b hb with h | h
        · cases h
        · exact .inr (List.mem_cons_of_mem _ h)
    · obtain ⟨h1, h2⟩ := ih ((stB q x).getD 0) (c ++ [x])
      refine ⟨by simp only [List.length_cons]; omega, fun w hw => ?_⟩
      obtain ⟨a, b2⟩ := h2 w hw
      refine ⟨by simp only [List.length_append, List.length_cons, List.length_nil] at *; omega, fun b hb => ?_⟩
      rcases b2 b hb with h | h
      · rcases List.mem_append.1 h with h | h
        · exact .inl h
        · rw [List.mem_singleton] at h; exact .inr (by rw [h]; exact List.mem_cons_self)
      · exact .inr (List.mem_cons_of_mem _ h)
/-- What a word of a title is. -/
structure OkW (w : ByteArray) : Prop where
  n1 : 0 < w.size
  n2 : w.size ≤ 100
  br : runB 0 w.data.toList = some 0
  asc : ∀ b ∈ w.data.toList, b.toNat < 128
theorem okb_asc (b : UInt8) (h : okb b = true) : b.toNat < 128 := by
  unfold okb at h
  simp only [Bool.and_eq_true, Bool.not_eq_true', decide_eq_false_iff_not] at h
  omega
theorem words_okw (s : ByteArray) (h : okTitle s.data.toList = true) : (wordsOf s).length ≤ 101 ∧ 1 ≤ (wordsOf s).length ∧ ∀ w ∈ wordsOf s, OkW w := by
  have o := okT_of h
  have n2 := o.n2
  obtain ⟨h1, h2⟩ := wordsL_len s.data.toList 0 []
  have h3 := words_ok s.data.toList 0 [] true o.br rfl o.sp (fun _ => rfl)
  refine ⟨by unfold wordsOf; rw [List.length_map]; omega, ?_, fun w hw => ?_⟩
  · unfold wordsOf
    rw [List.length_map]
    exact List.length_pos_iff.2 (words_pos _ _ _)
  · unfold wordsOf at hw
    obtain ⟨l, hl, rfl⟩ := List.mem_map.1 hw
    obtain ⟨a, b⟩ := h3 l hl
    obtain ⟨c, d⟩ := h2 l hl
    simp only [List.length_nil] at c
    refine ⟨by rw [ofL_size]; exact List.length_pos_iff.2 b, by rw [ofL_size]; omega, by rw [ofL_toList]; exact a, fun x hx => ?_⟩
    rw [ofL_toList] at hx
    rcases d x hx with h | h
    · cases h
    · exact okb_asc x (List.all_eq_true.1 o.pr x h)
/-! joined -/

/-! braces in a word -/
def brB (l : List UInt8) : Bool := l.any fun b => b == 123 || b == 125
theorem any_brB (l : List UInt8) : Lib.containsAny l [123, 125] = brB l := by
  have hc : ∀ b : UInt8, ([123, 125] : List UInt8).contains b = (b == 123 || b == 125) := fun b => by
    show (match b == 123 with | true => true | false => (match b == 125 with | true => true | false => false)) = _
    cases b == 123 <;> cases b == 125 <;> rfl
  have hg := Lib.indexAny_ge [123, 125]
  unfold Lib.containsAny brB
  induction l with
  | nil => rfl
  | cons b l ih =>
    have e : Lib.indexAny (b :: l) [123, 125] = if ([123, 125] : List UInt8).contains b then 0 else if Lib.indexAny l [123, 125] == -1 then -1 else Lib.indexAny l [123, 125] + 1 := rfl
    rw [List.any_cons, ← ih, ← hc, e]
    cases hb : ([123, 125] : List UInt8).contains b with
    | true => simp
    | false =>
      have := hg l
      simp only [Bool.false_eq_true, if_false, Bool.false_or]
      by_cases c : Lib.indexAny l [123, 125] = -1
      · rw [if_pos (by rw [c]; rfl), c]
      · rw [if_neg (by simpa using c), decide_eq_decide]
        omega
theorem brace_l0 (w : ByteArray) (hs : w.size ≤ 1048576) : ∀ (d i : Nat), i + d = w.size → Ev (fun k => spec_l6Brace.l0 k w (i : Int)) (brB (w.data.toList.drop i))
  | 0, i, hi => by
    rw [end_nat w i (by omega)]
    refine Ev.step (f := fun _ => some false) (fun k => ?_) (Ev.now _)
    simp only [spec_l6Brace.l0]
    rw [if_neg (by omega)]
  | d + 1, i, hi => by
    obtain ⟨b, hd, hb, _⟩ := at_nat w i (by omega)
    have hw : wrap64 ((i : Int) + 1) = ((i + 1 : Nat) : Int) := by rw [wrap_small (by omega) (by omega)]; rfl
    have ih := brace_l0 w hs d (i + 1) (by omega)
    unfold brB at *
    rw [hd, List.any_cons]
    by_cases c1 : b = 123
    · rw [c1]
      refine Ev.step (f := fun _ => some true) (fun k => ?_) (Ev.now _)
      simp only [spec_l6Brace.l0]
      rw [if_pos (by omega), if_pos (by omega), hb, if_pos ((n123 b).2 c1)]
    · by_cases c2 : b = 125
      · rw [c2]
        refine Ev.step (f := fun _ => some true) (fun k => ?_) (Ev.now _)
        simp only [spec_l6Brace.l0]
        rw [if_pos (by omega), if_pos (by omega), hb, if_neg (fun h => c1 ((n123 b).1 h)), if_pos ((n125 b).2 c2)]
      · rw [beq_eq_false_iff_ne.2 c1, beq_eq_false_iff_ne.2 c2, Bool.or_false, Bool.false_or]
        refine Ev.step (fun k => ?_) ih
        simp only [spec_l6Brace.l0]
        rw [if_pos (by omega), if_pos (by omega), hb, if_neg (fun h => c1 ((n123 b).1 h)), if_neg (fun h => c2 ((n125 b).1 h)), hw]
theorem specBrace (w : ByteArray) (hs : w.size ≤ 1048576) : Ev (fun k => spec_l6Brace.f k w) (brB w.data.toList) := by
  have := brace_l0 w hs w.size 0 (by omega)
  rw [List.drop_zero] at this
  exact this
/-! lower case -/

end Go.Proofs.YtiofklnfpmphnaaDoor.Pure
