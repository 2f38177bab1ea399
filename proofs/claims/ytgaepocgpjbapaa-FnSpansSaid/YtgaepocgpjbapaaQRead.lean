/- Lemmas on the printed functions, without Go and memory. -/
import Derived.Test.YtgaepocgpjbapaaPx10
import Derived.Test.YtgaepocgpjbapaaPx11
import Derived.Test.YtgaepocgpjbapaaPx12
import Derived.Test.YtgaepocgpjbapaaPx2
import Derived.Test.YtgaepocgpjbapaaPx7
import Derived.Test.YtgaepocgpjbapaaPx8
import Derived.Test.YtgaepocgpjbapaaPx9
import Derived.Test.YtgaepocgpjbapaaQParse
namespace Go.Proofs.Ytgaepocgpjbapaa.Pure
open Go.RowKit Go.Proofs.Ytgaepocgpjbapaa.Px Go.Proofs.YtgaepocgpjbapaaW.PrintWords Go.Proofs.YtgaepocgpjbapaaW.PrintLast
set_option linter.unusedVariables false
set_option linter.unusedSimpArgs false

/-! the reference's reader, as printed -/
theorem at_nat (s : ByteArray) (i : Nat) (h : i < s.size) : ∃ b : UInt8, s.data.toList.drop i = b :: s.data.toList.drop (i + 1) ∧ bt s (i : Int) = (b.toNat : Int) := by
  obtain ⟨b, h1, h2⟩ := drop_at s (i : Int) (by omega) (by omega)
  rw [Int.toNat_natCast, show ((i : Int) + 1).toNat = i + 1 from by omega] at h1
  exact ⟨b, h1, h2⟩
theorem end_nat (s : ByteArray) (i : Nat) (h : s.size ≤ i) : s.data.toList.drop i = [] := List.drop_of_length_le (by rw [data_length]; exact h)
theorem nat_eq (b c : UInt8) : ((b.toNat : Int) = (c.toNat : Int)) ↔ b = c := ⟨fun h => UInt8.toNat_inj.1 (by omega), fun h => by rw [h]⟩
theorem n42 (b : UInt8) : ((b.toNat : Int) = 42) ↔ b = 42 := nat_eq b 42
theorem n95 (b : UInt8) : ((b.toNat : Int) = 95) ↔ b = 95 := nat_eq b 95
theorem n92 (b : UInt8) : ((b.toNat : Int) = 92) ↔ b = 92 := nat_eq b 92
theorem ext_list (a b : ByteArray) (h : a.data.toList = b.data.toList) : a = b := ByteArray.ext (Array.toList_inj.1 h)
theorem str_eq (a b : ByteArray) : a.toList = b.toList ↔ a = b := ⟨fun h => ext_list _ _ (by rw [Lib.toList_data, Lib.toList_data] at h; exact h), fun h => by rw [h]⟩
/-! the program's reader, as printed -/
def ofL (l : List UInt8) : ByteArray := ⟨l.toArray⟩
theorem ofL_list (l : List UInt8) : (ofL l).data.toList = l := by simp [ofL]
theorem ofL_size (l : List UInt8) : (ofL l).size = l.length := by show l.toArray.size = _; simp
theorem ofL_data (s : ByteArray) : ofL s.data.toList = s := by unfold ofL; rw [Array.toArray_toList]
theorem tail1 (s : ByteArray) (b : UInt8) (r : List UInt8) (h : s.data.toList = b :: r) : s.extract 1 s.size = ofL r := ext_list _ _ (by
  have hl := data_length s
  rw [ofL_list, ByteArray.data_extract, Array.toList_extract, List.extract_eq_take_drop, h]
  rw [h] at hl
  simp only [List.drop_succ_cons, List.drop_zero]
  rw [List.take_of_length_le (by simp at hl; omega)])
theorem head1 (s : ByteArray) (b : UInt8) (r : List UInt8) (h : s.data.toList = b :: r) : s.extract 0 1 = ofL [b] := ext_list _ _ (by
  rw [ofL_list, ByteArray.data_extract, Array.toList_extract, List.extract_eq_take_drop, h]
  rfl)
theorem bt0 (s : ByteArray) (b : UInt8) (r : List UInt8) (h : s.data.toList = b :: r) : 0 < s.size ∧ bt s 0 = (b.toNat : Int) := by
  have hl := data_length s
  rw [h] at hl
  have h0 : 0 < s.size := by simp at hl; omega
  obtain ⟨x, h1, h2⟩ := at_nat s 0 h0
  rw [List.drop_zero, h] at h1
  have := (List.cons.inj h1).1
  exact ⟨h0, by rw [this]; exact h2⟩
theorem cut_ev (s : ByteArray) (hs : s.size ≤ 1048576) (b : UInt8) : strings_CutPrefix.f s (⟨#[b]⟩ : ByteArray) = some (ofL (cutP b s.data.toList).1, (cutP b s.data.toList).2) := by
  have hz : (⟨#[b]⟩ : ByteArray).size = 1 := rfl
  unfold strings_CutPrefix.f stringslite_CutPrefix.f stringslite_HasPrefix.f
  rw [hz]
  cases h : s.data.toList with
  | nil =>
    have : s.size = 0 := by rw [← data_length, h]; rfl
    rw [if_neg (by omega), Option.bind_some, if_neg (by decide), Option.bind_some]
    have e : s = ofL [] := by rw [← h, ofL_data]
    show some (s, false) = some (ofL [], false)
    rw [← e]
  | cons x r =>
    obtain ⟨h0, _⟩ := bt0 s x r h
    have e1 : (s.extract 0 (((1 : Nat) : Int) : Int).toNat).toList = [x] := by
      rw [show (((1 : Nat) : Int) : Int).toNat = 1 from rfl, head1 s x r h, Lib.toList_data, ofL_list]
    have e2 : (⟨#[b]⟩ : ByteArray).toList = [b] := by rw [Lib.toList_data]
    rw [if_pos (by omega), if_pos (by omega), if_pos (by omega), Option.bind_some, e1, e2, show cutP b (x :: r) = if x = b then (r, true) else (x :: r, false) from rfl]
    by_cases c : x = b
    · rw [if_pos c, if_pos (by rw [c]; simp), if_pos (by omega), if_pos (by omega), Option.bind_some, show (((1 : Nat) : Int) : Int).toNat = 1 from rfl, tail1 s x r h]
    · rw [if_neg c, if_neg (by simpa using c), Option.bind_some, ← h, ofL_data]
abbrev Rd := ByteArray × Bool × Bool × ByteArray × Bool
def zeroR : Rd := (⟨#[]⟩, false, false, ⟨#[]⟩, false)
def rdE (it bo : Bool) (c : List Int) (r : List UInt8) : Rd :=
  let u : List UInt8 × Bool := if it = true then cutP 95 r else (r, true)
  if u.2 = true then
    let v : List UInt8 × Bool := if bo = true then cutP 42 u.1 else (u.1, true)
    if v.2 = true then (strOfNums c, it, bo, ofL v.1, decide (c ≠ [])) else zeroR
  else zeroR
theorem text_ne (c : List Int) : ((strOfNums c).toList != ([] : List UInt8)) = decide (c ≠ []) := by
  have h := toList_nil (strOfNums c)
  rw [strOfNums_size] at h
  by_cases e : c = []
  · rw [decide_eq_false (by simpa using e), h.2 (by rw [e]; rfl)]
    rfl
  · rw [decide_eq_true e]
    exact bne_iff_ne.2 (fun x => e (List.eq_nil_of_length_eq_zero (h.1 x)))
theorem j2_ev (r : List UInt8) (hr : r.length ≤ 1048576) (c : List Int) (it bo : Bool) : Ev (fun k => impl_readSpan.j2 k (ofL r) (strOfNums c) it bo) (let v : List UInt8 × Bool := if bo = true then cutP 42 r else (r, true); if v.2 = true then (strOfNums c, it, bo, ofL v.1, decide (c ≠ [])) else zeroR) := by
  cases bo with
  | false =>
    refine Ev.step (f := fun _ => some (strOfNums c, it, false, ofL r, decide (c ≠ []))) (fun k => ?_) (Ev.now _)
    simp only [impl_readSpan.j2]
    rw [if_neg (by decide), text_ne]
  | true =>
    have e := cut_ev (ofL r) (by rw [ofL_size]; exact hr) 42
    rw [ofL_list] at e
    cases h2 : (cutP 42 r).2 with
    | true =>
      simp only [if_true, h2]
      refine Ev.step (f := fun _ => some (strOfNums c, it, true, ofL (cutP 42 r).1, decide (c ≠ []))) (fun k => ?_) (Ev.now _)
      simp only [impl_readSpan.j2]
      rw [if_pos trivial, e, Option.bind_some, h2, if_pos rfl, text_ne]
    | false =>
      simp only [if_true, h2, Bool.false_eq_true, if_false]
      refine Ev.step (f := fun _ => some zeroR) (fun k => ?_) (Ev.now _)
      simp only [impl_readSpan.j2]
      rw [if_pos trivial, e, Option.bind_some, h2, if_neg (by decide)]
      rfl
theorem stop_ev (r : List UInt8) (hr : r.length ≤ 1048576) (c : List Int) (t : ByteArray) (it bo : Bool) : Ev (fun k => impl_readSpan.j1 k (ofL r) c false t it bo) (rdE it bo c r) := by
  unfold rdE
  cases it with
  | false =>
    refine Ev.step (fun k => ?_) (j2_ev r hr c false bo)
    simp only [impl_readSpan.j1]
    rw [if_neg (by decide), if_neg (by decide)]
  | true =>
    have e := cut_ev (ofL r) (by rw [ofL_size]; exact hr) 95
    rw [ofL_list] at e
    have hle := cut_le 95 r
    cases h2 : (cutP 95 r).2 with
    | true =>
      simp only [if_true, h2]
      refine Ev.step (fun k => ?_) (j2_ev (cutP 95 r).1 (by omega) c true bo)
      simp only [impl_readSpan.j1]
      rw [if_neg (by decide), if_pos trivial, e, Option.bind_some, h2, if_pos rfl]
    | false =>
      simp only [if_true, h2, Bool.false_eq_true, if_false]
      refine Ev.step (f := fun _ => some zeroR) (fun k => ?_) (Ev.now _)
      simp only [impl_readSpan.j1]
      rw [if_neg (by decide), if_pos trivial, e, Option.bind_some, h2, if_neg (by decide)]
      rfl
theorem text_ev (it bo : Bool) (t : ByteArray) : ∀ (n : Nat) (l : List UInt8) (c : List Int), l.length ≤ n → n ≤ 1048576 → c.length + l.length ≤ 1048576 →
    Ev (fun k => impl_readSpan.l0 k (ofL l) c t it bo) (match rdT l c with | none => zeroR | some (c', r) => rdE it bo c' r) := fun n => by
  induction n with
  | zero =>
    intro l c hl hn hc
    obtain rfl : l = [] := List.eq_nil_of_length_eq_zero (by omega)
    rw [rdT]
    refine Ev.step (fun k => ?_) (stop_ev [] (by simp) c t it bo)
    simp only [impl_readSpan.l0]
    rw [if_pos ((toList_nil _).2 rfl)]
  | succ n ih =>
    intro l c hl hn hc
    cases l with
    | nil =>
      rw [rdT]
      refine Ev.step (fun k => ?_) (stop_ev [] (by simp) c t it bo)
      simp only [impl_readSpan.l0]
      rw [if_pos ((toList_nil _).2 rfl)]
    | cons x l =>
      obtain ⟨h0, hb⟩ := bt0 (ofL (x :: l)) x l (ofL_list _)
      have hne : ¬ (ofL (x :: l)).toList = ([] : List UInt8) := fun e => by have := (toList_nil _).1 e; omega
      have ht1 := tail1 (ofL (x :: l)) x l (ofL_list _)
      simp only [List.length_cons] at hl hc
      by_cases hs : x = 42 ∨ x = 95
      · have hr : rdT (x :: l) c = some (c, x :: l) := rdT_end _ _ (.inr ⟨l, hs.elim (fun h => .inl (by rw [h])) (fun h => .inr (by rw [h]))⟩)
        rw [hr]
        refine Ev.step (fun k => ?_) (stop_ev (x :: l) (by simp; omega) c t it bo)
        simp only [impl_readSpan.l0]
        rw [if_neg hne, if_pos (by omega), hb]
        by_cases c42 : x = 42
        · rw [if_pos ((n42 x).2 c42)]
        · have c95 : x = 95 := hs.resolve_left c42
          rw [if_neg (fun h => c42 ((n42 x).1 h)), c95]
          rfl
      · have go : ∀ R, Ev (fun k => impl_readSpan.j1 k (ofL (x :: l)) c true t it bo) R → Ev (fun k => impl_readSpan.l0 k (ofL (x :: l)) c t it bo) R := fun R e => by
          refine Ev.step (fun k => ?_) e
          simp only [impl_readSpan.l0]
          rw [if_neg hne, if_pos (by omega), hb, if_neg (fun h => hs (.inl ((n42 x).1 h))), show ((x.toNat : Int) != 95) = true from bne_iff_ne.2 (fun h => hs (.inr ((n95 x).1 h)))]
        by_cases c92 : x = 92
        · cases l with
          | nil =>
            have hr : rdT [x] c = none := by rw [rdT_one, if_neg hs, if_pos c92]
            rw [hr]
            refine go _ (Ev.step (f := fun _ => some zeroR) (fun k => ?_) (Ev.now _))
            simp only [impl_readSpan.j1]
            rw [if_pos trivial, if_pos (by omega), hb, if_pos ((n92 x).2 c92), if_pos (by omega), ht1, if_pos ((toList_nil _).2 rfl)]
            rfl
          | cons y l =>
            obtain ⟨g0, gb⟩ := bt0 (ofL (y :: l)) y l (ofL_list _)
            have gne : ¬ (ofL (y :: l)).toList = ([] : List UInt8) := fun e => by have := (toList_nil _).1 e; omega
            have gt1 := tail1 (ofL (y :: l)) y l (ofL_list _)
            rw [rdT, if_neg hs, if_pos c92]
            have hm : impl_isMarkup.f (y.toNat : Int) = some (isB y) := isMarkup_eq _
            cases hy : isB y with
            | true =>
              rw [if_pos rfl]
              refine go _ (Ev.step (fun k => ?_) (ih l (c ++ [nB y]) (by simp only [List.length_cons] at hl; omega) (by omega) (by simp at hc ⊢; omega)))
              simp only [impl_readSpan.j1]
              rw [if_pos trivial, if_pos (by omega), hb, if_pos ((n92 x).2 c92), if_pos (by omega), ht1, if_neg gne, if_pos (by omega), gb, hm, Option.bind_some, hy, if_pos rfl, if_pos (by omega), if_pos (by omega), gt1]
              rfl
            | false =>
              rw [if_neg (by decide)]
              refine go _ (Ev.step (f := fun _ => some zeroR) (fun k => ?_) (Ev.now _))
              simp only [impl_readSpan.j1]
              rw [if_pos trivial, if_pos (by omega), hb, if_pos ((n92 x).2 c92), if_pos (by omega), ht1, if_neg gne, if_pos (by omega), gb, hm, Option.bind_some, hy, if_neg (by decide)]
              rfl
        · have hr : rdT (x :: l) c = rdT l (c ++ [nB x]) := by
            cases l with
            | nil => rw [rdT_one, if_neg hs, if_neg c92]; rfl
            | cons y l => rw [rdT, if_neg hs, if_neg c92]
          rw [hr]
          refine go _ (Ev.step (fun k => ?_) (ih l (c ++ [nB x]) (by omega) (by omega) (by simp; omega)))
          simp only [impl_readSpan.j1]
          rw [if_pos trivial, if_pos (by omega), hb, if_neg (fun h => c92 ((n92 x).1 h)), if_pos (by omega), if_pos (by omega), ht1]
          rfl
def readR (l : List UInt8) : Rd := match rdT (cutP 95 (cutP 42 l).1).1 [] with
  | none => zeroR
  | some (c', r) => rdE (cutP 95 (cutP 42 l).1).2 (cutP 42 l).2 c' r
theorem read_ev (s : ByteArray) (hs : s.size ≤ 1048576) : ∃ R : Rd, Ev (fun k => impl_readSpan.f k s) R ∧ (R.2.2.2.2 = true → rdS s.data.toList = some (⟨R.1, R.2.1, R.2.2.1⟩, R.2.2.2.1.data.toList)) ∧ (R.2.2.2.2 = false → rdS s.data.toList = none) := by
  have a1 := cut_le 42 s.data.toList
  have a2 := cut_le 95 (cutP 42 s.data.toList).1
  have hl := data_length s
  have e1 := cut_ev s hs 42
  have e2 := cut_ev (ofL (cutP 42 s.data.toList).1) (by rw [ofL_size]; omega) 95
  rw [ofL_list] at e2
  have e3 := text_ev (cutP 95 (cutP 42 s.data.toList).1).2 (cutP 42 s.data.toList).2 (⟨#[]⟩ : ByteArray) _ (cutP 95 (cutP 42 s.data.toList).1).1 [] (Nat.le_refl _) (by omega) (by simp; omega)
  refine ⟨readR s.data.toList, ?_, ?_⟩
  · unfold impl_readSpan.f readR
    rw [e1]
    simp only [Option.bind_some]
    rw [e2]
    simp only [Option.bind_some]
    exact e3
  · unfold rdS readR
    simp only
    generalize cutP 42 s.data.toList = p at *
    generalize cutP 95 p.1 = q at *
    cases rdT q.1 [] with
    | none => exact ⟨fun h => (by cases h), fun _ => by trivial⟩
    | some cr =>
      obtain ⟨c, r⟩ := cr
      simp only [rdE]
      generalize (if q.2 = true then cutP 95 r else (r, true)) = u
      cases hu : u.2 with
      | false => simp only [Bool.false_eq_true, if_false]; exact ⟨fun h => (by cases h), fun _ => by trivial⟩
      | true =>
        simp only [if_true]
        generalize (if p.2 = true then cutP 42 u.1 else (u.1, true)) = v
        cases hv : v.2 with
        | false => simp only [Bool.false_eq_true, if_false]; exact ⟨fun h => (by cases h), fun _ => by trivial⟩
        | true =>
          simp only [if_true]
          by_cases hc : c = []
          · simp only [hc, if_true, ne_eq, not_true_eq_false, decide_false]
            exact ⟨fun h => (by cases h), fun _ => by trivial⟩
          · simp only [hc, if_false, ne_eq, not_false_eq_true, decide_true]
            exact ⟨fun _ => by rw [ofL_list]; rfl, fun h => by cases h⟩
theorem impl_loop (s : ByteArray) (hs : s.size ≤ 1048576) : ∀ (n : Nat) (out : List Sp) (left : ByteArray), out.length + n = 82 → out.length ≤ 80 → tot out + left.size ≤ s.size →
    Ev (fun k => impl_ParseSpans.l0 k s out left) (match rdAll n left.data.toList out with | none => ([], false) | some o => if fitI o s then (o, true) else ([], false)) := fun n => by
  induction n with
  | zero => intro out left h1 h2; omega
  | succ n ih =>
    intro out left h1 h2 h3
    have hll := data_length left
    rw [rdAll]
    by_cases z : left.size = 0
    · have e : left.data.toList = [] := List.eq_nil_of_length_eq_zero (by omega)
      rw [if_pos e]
      have g1 : Ev (fun k => impl_areSpans.f k out) (goodS out) := ⟨4000001, fun k hk => areSpans_k out (by omega) (by omega) k (by omega)⟩
      have g2 : Ev (fun k => impl_normalized.f k out) (norm [] out) := ⟨out.length + 1, fun k hk => normalized_k out (by omega) (by omega) k (by omega)⟩
      have g3 : Ev (fun k => impl_formatSpans.f k out) (strOfNums (mkups (norm [] out))) := ⟨6500001, fun k hk => formatSpans_k out (by omega) (by omega) k (by omega)⟩
      refine Ev.step (f := fun k => (impl_areSpans.f k out).bind fun t281 => (if t281 = true then ((impl_normalized.f k out).bind fun t282 => (if (t282.length : Int) = (out.length : Int) then ((impl_formatSpans.f k out).bind fun t285 => (if t285.toList = s.toList then (some (out, true)) else (some (([] : List Sp), false)))) else (some (([] : List Sp), false)))) else (some (([] : List Sp), false)))) (fun k => ?_) (Ev.bind g1 ?_)
      · simp only [impl_ParseSpans.l0]
        rw [if_pos ((toList_nil left).2 z)]
      · simp only
        cases hg : goodS out with
        | false =>
          rw [if_neg (fun h : fitI out s => by have := h.1; rw [hg] at this; cases this)]
          exact Ev.congr (fun _ => if_neg (by decide)) (Ev.now _)
        | true =>
          refine Ev.congr (fun _ => if_pos rfl) (Ev.bind g2 ?_)
          by_cases c1 : (norm [] out).length = out.length
          · refine Ev.congr (fun _ => if_pos (by omega)) (Ev.bind g3 ?_)
            by_cases c2 : strOfNums (mkups (norm [] out)) = s
            · rw [if_pos (show fitI out s from ⟨hg, c1, c2⟩)]
              exact Ev.congr (fun _ => if_pos ((str_eq _ _).2 c2)) (Ev.now _)
            · rw [if_neg (fun h : fitI out s => c2 h.2.2)]
              exact Ev.congr (fun _ => if_neg (fun h => c2 ((str_eq _ _).1 h))) (Ev.now _)
          · rw [if_neg (fun h : fitI out s => c1 h.2.1)]
            exact Ev.congr (fun _ => if_neg (by omega)) (Ev.now _)
    · have hne : left.data.toList ≠ [] := fun e => z (by rw [← hll, e]; rfl)
      rw [if_neg hne]
      obtain ⟨R, er, r1, r2⟩ := read_ev left (by omega)
      have hgo : ∀ Q, Ev (fun k => if R.2.2.2.2 = true then (if (out.length : Int) = 80 then (some (([] : List Sp), false)) else (if out.length < 5864062014805 then (impl_ParseSpans.l0 k s (out ++ [(⟨R.1, R.2.1, R.2.2.1⟩ : Sp)]) R.2.2.2.1) else (none))) else (some (([] : List Sp), false))) Q → Ev (fun k => impl_ParseSpans.l0 k s out left) Q := fun Q e => by
        refine Ev.step (fun k => ?_) (Ev.bind er (f := fun k bt272 => if bt272.2.2.2.2 = true then (if (out.length : Int) = 80 then (some (([] : List Sp), false)) else (if out.length < 5864062014805 then (impl_ParseSpans.l0 k s (out ++ [(⟨bt272.1, bt272.2.1, bt272.2.2.1⟩ : Sp)]) bt272.2.2.2.1) else (none))) else (some (([] : List Sp), false))) e)
        simp only [impl_ParseSpans.l0]
        rw [if_neg (fun e => z ((toList_nil left).1 e))]
      apply hgo
      cases hR : R.2.2.2.2 with
      | false =>
        rw [r2 hR]
        exact Ev.congr (fun _ => if_neg (by decide)) (Ev.now _)
      | true =>
        have h4 := r1 hR
        rw [h4]
        have hle := rdS_le _ _ _ h4
        refine Ev.congr (fun _ => if_pos rfl) ?_
        simp only
        by_cases c80 : out.length = 80
        · rw [if_pos c80]
          exact Ev.congr (fun _ => if_pos (by omega)) (Ev.now _)
        · rw [if_neg c80]
          have h5 := data_length R.2.2.2.1
          have := ih (out ++ [⟨R.1, R.2.1, R.2.2.1⟩]) R.2.2.2.1 (by simp; omega) (by simp; omega) (by rw [tot_append, tot_cons, tot_nil]; show tot out + (R.1.size + 0) + R.2.2.2.1.size ≤ s.size; have hle2 : R.1.size + R.2.2.2.1.data.toList.length ≤ left.data.toList.length := hle.1; omega)
          exact Ev.congr (fun _ => (if_neg (by omega)).trans (if_pos (by omega))) this
theorem good_size (o : List Sp) (h : goodS o = true) : (strOfNums (mkups o)).size ≤ 8320 := by
  unfold goodS at h
  simp only [Bool.and_eq_true, decide_eq_true_eq] at h
  have := mkups_len o
  rw [strOfNums_size]
  omega

end Go.Proofs.Ytgaepocgpjbapaa.Pure
