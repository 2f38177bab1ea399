/- The law FnExactProtectTitle, as a statement over numbers and lists: the program's function and the reference's answer alike, for every input; no further condition. -/
import Derived.Test.YtilchcponlgmjaaDoorPx1
import Derived.Test.YtilchcponlgmjaaDoorPx2
import Derived.Test.YtilchcponlgmjaaDoorPx3
import Derived.Test.YtilchcponlgmjaaDoorPx5
import Derived.Test.YtilchcponlgmjaaDoorPx6
import Derived.Test.YtilchcponlgmjaaDoorPx7
import Derived.Test.YtilchcponlgmjaaDoorQTitW
namespace Go.Proofs.YtilchcponlgmjaaDoor.Pure
open Go.RowKit Go.Proofs.YtilchcponlgmjaaDoor.Px Go.Proofs.YtilchcponlgmjaaDoorW.PrintWords Go.Proofs.YtilchcponlgmjaaDoorW.PrintLast
set_option linter.unusedVariables false
set_option linter.unusedSimpArgs false

/-! a word that is protected -/
def pr (word w : ByteArray) : ByteArray := if w.toList = word.toList then ((⟨#[123]⟩ : ByteArray) ++ word) ++ (⟨#[125]⟩ : ByteArray) else w
theorem mid_get {α : Type} (z : α) (f : α → α) (l : List α) (i : Nat) (h : i < l.length) : ((l.take i).map f ++ l.drop i).getD i z = l[i] := by
  rw [List.getD_eq_getElem?_getD, List.getElem?_append_right (by rw [List.length_map, List.length_take]; omega), List.length_map, List.length_take, Nat.min_eq_left (by omega), Nat.sub_self, List.getElem?_drop, Nat.add_zero, List.getElem?_eq_getElem h]
  rfl
theorem mid_len {α : Type} (f : α → α) (l : List α) (i : Nat) : ((l.take i).map f ++ l.drop i).length = l.length := by
  rw [List.length_append, List.length_map, List.length_take, List.length_drop]; omega
theorem mid_next {α : Type} (f : α → α) (l : List α) (i : Nat) (h : i < l.length) : (l.take (i + 1)).map f ++ l.drop (i + 1) = ((l.take i).map f ++ [f l[i]]) ++ l.drop (i + 1) := by
  rw [List.take_succ_eq_append_getElem h, List.map_append]; rfl
theorem mid_set {α : Type} (f : α → α) (l : List α) (i : Nat) (h : i < l.length) (v : α) (hv : v = f l[i]) : ((l.take i).map f ++ l.drop i).set i v = (l.take (i + 1)).map f ++ l.drop (i + 1) := by
  subst hv
  rw [mid_next f l i h, List.set_append_right _ _ (by rw [List.length_map, List.length_take]; omega), List.length_map, List.length_take, Nat.min_eq_left (by omega), Nat.sub_self, List.drop_eq_getElem_cons h, List.set_cons_zero, List.append_assoc]
  rfl
theorem mid_keep {α : Type} (f : α → α) (l : List α) (i : Nat) (h : i < l.length) (hv : f l[i] = l[i]) : (l.take i).map f ++ l.drop i = (l.take (i + 1)).map f ++ l.drop (i + 1) := by
  rw [mid_next f l i h, hv, List.drop_eq_getElem_cons h, List.append_assoc]
  rfl
theorem loopI (word : ByteArray) (ws : List ByteArray) (R : ByteArray × Bool) (hl : ws.length ≤ 1000) (hw : word.size ≤ 1048576)
    (hfin : Ev (fun k => (strings_Join.f (ws.map (pr word)) (⟨#[32]⟩ : ByteArray)).bind fun t => ((impl_IsValidTitle.f k t).bind fun t2 => (if t2 = true then (some (t, true)) else (some ((⟨#[]⟩ : ByteArray), false))))) R) :
    ∀ (d i : Nat), i + d = ws.length → Ev (fun k => impl_ProtectTitle.l0 k word ((ws.take i).map (pr word) ++ ws.drop i) (ws.length : Int) (i : Int)) R
  | 0, i, hi => by
    have e : (ws.take i).map (pr word) ++ ws.drop i = ws.map (pr word) := by rw [List.take_of_length_le (by omega), List.drop_of_length_le (by omega), List.append_nil]
    rw [e]
    refine Ev.step (fun k => ?_) hfin
    simp only [impl_ProtectTitle.l0]
    rw [if_neg (by omega)]
  | d + 1, i, hi => by
    have h : i < ws.length := by omega
    have ih := loopI word ws R hl hw hfin d (i + 1) (by omega)
    have hx : wrap64 ((i : Int) + 1) = ((i + 1 : Nat) : Int) := by rw [wrap_small (by omega) (by omega)]; rfl
    have hg : rdOf ByteArray.empty ((ws.take i).map (pr word) ++ ws.drop i) (i : Int) = ws[i] := mid_get ByteArray.empty (pr word) ws i h
    have hz : 1 + word.size ≤ 9223372036854775807 := by omega
    have hz2 : ((⟨#[123]⟩ : ByteArray) ++ word).size + 1 ≤ 9223372036854775807 := by rw [ByteArray.size_append]; show (1 + word.size) + 1 ≤ _; omega
    refine Ev.step (fun k => ?_) ih
    simp only [impl_ProtectTitle.l0, hg, hx, mid_len, Int.toNat_natCast]
    rw [if_pos (by omega), if_pos (by omega), if_pos (by omega), if_pos hz, if_pos hz2]
    by_cases c : (ws[i]).toList = word.toList
    · rw [if_pos c, mid_set (pr word) ws i h _ (by unfold pr; rw [if_pos c])]
    · rw [if_neg c, mid_keep (pr word) ws i h (by unfold pr; rw [if_neg c])]
theorem loopS (word : ByteArray) (ws : List ByteArray) (R : ByteArray × Bool) (hl : ws.length ≤ 1000) (hw : word.size ≤ 1048576)
    (hfin : Ev (fun k => (spec_l6Join.f k (ws.map (pr word))).bind fun t => ((spec_l6Good.f k t).bind fun t2 => (if t2 = true then (some (t, true)) else (some ((⟨#[]⟩ : ByteArray), false))))) R) :
    ∀ (d i : Nat), i + d = ws.length → Ev (fun k => spec_ProtectTitle.l1 k word ((ws.take i).map (pr word) ++ ws.drop i) (i : Int)) R
  | 0, i, hi => by
    have e : (ws.take i).map (pr word) ++ ws.drop i = ws.map (pr word) := by rw [List.take_of_length_le (by omega), List.drop_of_length_le (by omega), List.append_nil]
    rw [e]
    refine Ev.step (fun k => ?_) hfin
    simp only [spec_ProtectTitle.l1, List.length_map]
    rw [if_neg (by omega)]
  | d + 1, i, hi => by
    have h : i < ws.length := by omega
    have ih := loopS word ws R hl hw hfin d (i + 1) (by omega)
    have hx : wrap64 ((i : Int) + 1) = ((i + 1 : Nat) : Int) := by rw [wrap_small (by omega) (by omega)]; rfl
    have hg : rdOf ByteArray.empty ((ws.take i).map (pr word) ++ ws.drop i) (i : Int) = ws[i] := mid_get ByteArray.empty (pr word) ws i h
    have hz : 1 + word.size ≤ 9223372036854775807 := by omega
    have hz2 : ((⟨#[123]⟩ : ByteArray) ++ word).size + 1 ≤ 9223372036854775807 := by rw [ByteArray.size_append]; show (1 + word.size) + 1 ≤ _; omega
    refine Ev.step (fun k => ?_) ih
    simp only [spec_ProtectTitle.l1, hg, hx, mid_len, Int.toNat_natCast]
    rw [if_pos (by omega), if_pos (by omega), if_pos hz, if_pos hz2]
    by_cases c : (ws[i]).toList = word.toList
    · rw [if_pos c, mid_set (pr word) ws i h _ (by unfold pr; rw [if_pos c])]
    · rw [if_neg c, mid_keep (pr word) ws i h (by unfold pr; rw [if_neg c])]
def spB (l : List UInt8) : Bool := l.any fun b => b == 32
theorem any_spb (l : List UInt8) : Lib.containsAny l [32, 123, 125] = (brB l || spB l) := by
  have hc : ∀ b : UInt8, ([32, 123, 125] : List UInt8).contains b = (b == 32 || (b == 123 || b == 125)) := fun b => by
    show (match b == 32 with | true => true | false => (match b == 123 with | true => true | false => (match b == 125 with | true => true | false => false))) = _
    cases b == 32 <;> cases b == 123 <;> cases b == 125 <;> rfl
  have hg := Lib.indexAny_ge [32, 123, 125]
  unfold Lib.containsAny brB spB
  induction l with
  | nil => rfl
  | cons b l ih =>
    have e : Lib.indexAny (b :: l) [32, 123, 125] = if ([32, 123, 125] : List UInt8).contains b then 0 else if Lib.indexAny l [32, 123, 125] == -1 then -1 else Lib.indexAny l [32, 123, 125] + 1 := rfl
    have r : (((b == 123 || b == 125) || l.any fun b => b == 123 || b == 125) || ((b == 32) || l.any fun b => b == 32)) = ((b == 32 || (b == 123 || b == 125)) || ((l.any fun b => b == 123 || b == 125) || l.any fun b => b == 32)) := by
      cases b == 32 <;> cases b == 123 <;> cases b == 125 <;> cases (l.any fun b => b == 123 || b == 125) <;> cases (l.any fun b => b == 32) <;> rfl
    rw [List.any_cons, List.any_cons, r, ← ih, ← hc, e]
    cases hb : ([32, 123, 125] : List UInt8).contains b with
    | true => simp
    | false =>
      have := hg l
      simp only [Bool.false_eq_true, if_false, Bool.false_or]
      by_cases c : Lib.indexAny l [32, 123, 125] = -1
      · rw [if_pos (by rw [c]; rfl), c]
      · rw [if_neg (by simpa using c), decide_eq_decide]
        omega
theorem space_l0 (s w : ByteArray) (hs : w.size ≤ 1048576) (R : ByteArray × Bool) (hfin : Ev (fun k => (spec_l6Words.f k s).bind fun t => (spec_ProtectTitle.l1 k w t 0)) R) : ∀ (d i : Nat), i + d = w.size →
    Ev (fun k => spec_ProtectTitle.l0 k s w (i : Int)) (if spB (w.data.toList.drop i) = true then ((⟨#[]⟩ : ByteArray), false) else R)
  | 0, i, hi => by
    rw [end_nat w i (by omega)]
    refine Ev.step (fun k => ?_) hfin
    simp only [spec_ProtectTitle.l0]
    rw [if_neg (by omega)]
  | d + 1, i, hi => by
    obtain ⟨b, hd, hb, _⟩ := at_nat w i (by omega)
    have hw : wrap64 ((i : Int) + 1) = ((i + 1 : Nat) : Int) := by rw [wrap_small (by omega) (by omega)]; rfl
    have ih := space_l0 s w hs R hfin d (i + 1) (by omega)
    rw [hd]
    unfold spB at ih ⊢
    rw [List.any_cons]
    by_cases c : b = 32
    · rw [show (b == 32) = true from beq_iff_eq.2 c, Bool.true_or, if_pos rfl]
      refine Ev.step (f := fun _ => some ((⟨#[]⟩ : ByteArray), false)) (fun k => ?_) (Ev.now _)
      simp only [spec_ProtectTitle.l0, hb]
      rw [if_pos (by omega), if_pos (by omega), if_pos ((n32 b).2 c)]
    · rw [show (b == 32) = false from beq_eq_false_iff_ne.2 c, Bool.false_or]
      refine Ev.step (fun k => ?_) ih
      simp only [spec_ProtectTitle.l0, hb, hw]
      rw [if_pos (by omega), if_pos (by omega), if_neg (fun h => c ((n32 b).1 h))]
theorem FnExactProtectTitle : laws_FnExactProtectTitle.Pure := by
  intro s word hs0 hw0
  refine Ev.rounds (g := fun k => laws_FnExactProtectTitle.f k s word) ?_
  unfold laws_FnExactProtectTitle.f
  by_cases b1 : (s.size : Int) > 1048576
  · exact Ev.congr (fun _ => if_pos b1) (Ev.now true)
  by_cases b2 : (word.size : Int) > 1048576
  · exact Ev.congr (fun _ => (if_neg b1).trans (if_pos b2)) (Ev.now true)
  refine Ev.congr (fun _ => (if_neg b1).trans (if_neg b2)) ?_
  have key : ∃ R : ByteArray × Bool, Ev (fun k => spec_ProtectTitle.f k s word) R ∧ Ev (fun k => impl_ProtectTitle.f k s word) R := by
    have g1 := specGood s (by omega)
    have g2 := implValid s (by omega)
    unfold spec_ProtectTitle.f impl_ProtectTitle.f
    have noS : Ev (fun k => spec_ProtectTitle.j0 k s word true) ((⟨#[]⟩ : ByteArray), false) := by
      refine Ev.step (f := fun _ => some ((⟨#[]⟩ : ByteArray), false)) (fun k => ?_) (Ev.now _)
      simp only [spec_ProtectTitle.j0]; rw [if_pos trivial]
    have noI : Ev (fun k => impl_ProtectTitle.j0 k s word true) ((⟨#[]⟩ : ByteArray), false) := by
      refine Ev.step (f := fun _ => some ((⟨#[]⟩ : ByteArray), false)) (fun k => ?_) (Ev.now _)
      simp only [impl_ProtectTitle.j0]; rw [if_pos trivial]
    cases hg : okTitle s.data.toList with
    | false =>
      rw [hg] at g1 g2
      exact ⟨_, Ev.bind g1 (Ev.congr (fun _ => if_neg (by decide)) noS), Ev.bind g2 (Ev.congr (fun _ => if_neg (by decide)) noI)⟩
    | true =>
      rw [hg] at g1 g2
      by_cases e : word.toList = ([] : List UInt8)
      · exact ⟨_, Ev.bind g1 (Ev.congr (fun _ => (if_pos rfl).trans (if_pos e)) noS), Ev.bind g2 (Ev.congr (fun _ => (if_pos rfl).trans (if_pos e)) noI)⟩
      have hb := specBrace word (by omega)
      have hc : strings_ContainsAny.f word (⟨#[32, 123, 125]⟩ : ByteArray) = some (brB word.data.toList || spB word.data.toList) := by
        unfold strings_ContainsAny.f
        rw [if_pos (by omega), if_pos (by decide), if_pos (by rw [Bool.or_eq_true]; right; exact decide_eq_true rfl), if_pos (by decide)]
        exact congrArg some (any_spb _)
      obtain ⟨o1, o2, o3⟩ := words_okw s hg
      have ot := okT_of hg
      obtain ⟨wS, wI⟩ := words_both s (by omega) (by rw [ot.br]; rfl)
      have hin : ∀ x ∈ (wordsOf s).map (pr word), x.size ≤ 102 := fun x hx => by
        obtain ⟨y, hy, rfl⟩ := List.mem_map.1 hx
        have := (o3 y hy).n2
        unfold pr
        split
        · rename_i c
          have : y = word := str_inj _ _ c
          subst this
          rw [ByteArray.size_append, ByteArray.size_append]
          show (1 + y.size) + 1 ≤ 102
          omega
        · omega
      have ht := tot_le ((wordsOf s).map (pr word)) 102 hin
      rw [List.length_map] at ht
      have ht2 : tot ((wordsOf s).map (pr word)) ≤ 10302 := Nat.le_trans ht (Nat.mul_le_mul_left 102 o1)
      have jI := implJoin ((wordsOf s).map (pr word)) (by omega) (by rw [List.length_map]; omega)
      have jS := specJoin ((wordsOf s).map (pr word)) (by omega) (by rw [List.length_map]; omega)
      have jz : (JN ((wordsOf s).map (pr word))).size ≤ 20000 := by
        unfold JN
        rw [ofL_size]
        have := join_len ((wordsOf s).map (pr word))
        rw [List.length_map] at this
        omega
      generalize hJ : JN ((wordsOf s).map (pr word)) = J at *
      have v1 := specGood J (by omega)
      have v2 := implValid J (by omega)
      have fI : Ev (fun k => (strings_Join.f ((wordsOf s).map (pr word)) (⟨#[32]⟩ : ByteArray)).bind fun t => ((impl_IsValidTitle.f k t).bind fun t2 => (if t2 = true then (some (t, true)) else (some ((⟨#[]⟩ : ByteArray), false))))) (if okTitle J.data.toList = true then (J, true) else ((⟨#[]⟩ : ByteArray), false)) := by
        rw [jI]
        simp only [Option.bind_some]
        refine Ev.bind v2 ?_
        cases okTitle J.data.toList with
        | true => exact Ev.congr (fun _ => if_pos rfl) (Ev.now _)
        | false => exact Ev.congr (fun _ => if_neg (by decide)) (Ev.now _)
      have fS : Ev (fun k => (spec_l6Join.f k ((wordsOf s).map (pr word))).bind fun t => ((spec_l6Good.f k t).bind fun t2 => (if t2 = true then (some (t, true)) else (some ((⟨#[]⟩ : ByteArray), false))))) (if okTitle J.data.toList = true then (J, true) else ((⟨#[]⟩ : ByteArray), false)) := by
        refine Ev.bind jS (Ev.bind v1 ?_)
        cases okTitle J.data.toList with
        | true => exact Ev.congr (fun _ => if_pos rfl) (Ev.now _)
        | false => exact Ev.congr (fun _ => if_neg (by decide)) (Ev.now _)
      have lI := loopI word (wordsOf s) _ (by omega) (by omega) fI (wordsOf s).length 0 (by omega)
      have lS := loopS word (wordsOf s) _ (by omega) (by omega) fS (wordsOf s).length 0 (by omega)
      simp only [List.take_zero, List.map_nil, List.nil_append, List.drop_zero] at lI lS
      cases hbr : brB word.data.toList with
      | true =>
        rw [hbr] at hb hc
        refine ⟨_, Ev.bind g1 (Ev.congr (fun _ => (if_pos rfl).trans (if_neg e)) (Ev.bind hb noS)), Ev.bind g2 (Ev.congr (fun _ => (if_pos rfl).trans (if_neg e)) ?_)⟩
        rw [hc]
        exact noI
      | false =>
        rw [hbr, Bool.false_or] at hc
        rw [hbr] at hb
        have sp := space_l0 s word (by omega) _ (Ev.bind wS lS) word.size 0 (by omega)
        rw [List.drop_zero] at sp
        refine ⟨_, Ev.bind g1 (Ev.congr (fun _ => (if_pos rfl).trans (if_neg e)) (Ev.bind hb (Ev.step (fun k => ?_) sp))), Ev.bind g2 (Ev.congr (fun _ => (if_pos rfl).trans (if_neg e)) ?_)⟩
        · simp only [spec_ProtectTitle.j0]
          rw [if_neg (by decide)]
          rfl
        · rw [hc]
          cases hsp : spB word.data.toList with
          | true => exact noI
          | false =>
            rw [if_neg Bool.false_ne_true]
            refine Ev.step (fun k => ?_) (Ev.bind wI (f := fun k t => impl_ProtectTitle.l0 k word t (t.length : Int) 0) lI)
            simp only [impl_ProtectTitle.j0, Option.bind_some]
            rw [if_neg (by decide)]
  obtain ⟨R, r1, r2⟩ := key
  refine Ev.bind r1 (Ev.bind r2 ?_)
  refine Ev.congr (fun _ => (if_pos rfl).trans (if_neg (by simp))) (Ev.now true)

end Go.Proofs.YtilchcponlgmjaaDoor.Pure
