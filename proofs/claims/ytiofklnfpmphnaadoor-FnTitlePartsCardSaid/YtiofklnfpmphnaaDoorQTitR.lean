/- Lemmas on the printed functions, without Go and memory. -/
import Derived.Lib.Replace
import Derived.Lib.SplitLaws
import Derived.Test.YtiofklnfpmphnaaDoorPx11
import Derived.Test.YtiofklnfpmphnaaDoorPx12
import Derived.Test.YtiofklnfpmphnaaDoorPx13
import Derived.Test.YtiofklnfpmphnaaDoorPx14
import Derived.Test.YtiofklnfpmphnaaDoorPx15
import Derived.Test.YtiofklnfpmphnaaDoorPx2
import Derived.Test.YtiofklnfpmphnaaDoorPx3
import Derived.Test.YtiofklnfpmphnaaDoorPx4
import Derived.Test.YtiofklnfpmphnaaDoorPx7
import Derived.Test.YtiofklnfpmphnaaDoorQTitG
namespace Go.Proofs.YtiofklnfpmphnaaDoor.Pure
open Go.RowKit Go.Proofs.YtiofklnfpmphnaaDoor.Px Go.Proofs.YtiofklnfpmphnaaDoorW.PrintWords Go.Proofs.YtiofklnfpmphnaaDoorW.PrintLast
set_option linter.unusedVariables false
set_option linter.unusedSimpArgs false

theorem index_one0 (c : UInt8) (l : List UInt8) : Lib.index (c :: l) [c] = 0 := by
  unfold Lib.index
  rw [if_pos (by simp [List.isPrefixOf])]
theorem index_oneS (c b : UInt8) (l : List UInt8) (h : b ≠ c) (i : Nat) (hi : Lib.index l [c] = (i : Int)) : Lib.index (b :: l) [c] = ((i + 1 : Nat) : Int) := by
  unfold Lib.index
  rw [if_neg (by simp [List.isPrefixOf, Ne.symm h]), hi, if_neg (by first | (simp; done) | (simp; omega))]
  rfl
theorem replaceK_one (c : UInt8) (l : List UInt8) : Lib.replaceK [c] [] (l.count c) l = l.filter fun b => !(b == c) := by
  induction l with
  | nil => rfl
  | cons b l ih =>
    by_cases h : b = c
    · subst h
      rw [List.count_cons_self, Lib.replaceK_hit _ _ _ _ 0 (index_one0 b l)]
      simp [ih]
    · rw [List.count_cons_of_ne h, List.filter_cons, if_pos (by simpa using h), ← ih]
      cases hk : l.count c with
      | zero => rfl
      | succ m =>
        obtain ⟨i, hi⟩ := Lib.index_of_count (s := l) (old := [c]) (by rw [Lib.count_one, hk]; omega)
        rw [Lib.replaceK_hit _ _ _ _ _ (index_oneS c b l h i hi), Lib.replaceK_hit _ _ _ _ _ hi]
        simp
theorem replaceAll_one (c : UInt8) (l : List UInt8) : Lib.replaceAll l [c] [] = l.filter fun b => !(b == c) := by
  unfold Lib.replaceAll Lib.replace Lib.replaceNum
  rw [if_neg (by simp), if_pos (.inl (by decide)), Lib.count_one, replaceK_one]
theorem implPlain (s : ByteArray) (hs : s.size ≤ 1048576) : impl_plainTitle.f s = some (ofL (noBr s.data.toList)) := by
  unfold impl_plainTitle.f strings_ReplaceAll.f
  have z0 : (⟨#[]⟩ : ByteArray).size = 0 := rfl
  have e1 : (⟨(Lib.replaceAll s.data.toList (⟨#[123]⟩ : ByteArray).data.toList (⟨#[]⟩ : ByteArray).data.toList).toArray⟩ : ByteArray) = ofL (s.data.toList.filter fun b => !(b == 123)) := congrArg (fun l : List UInt8 => (⟨l.toArray⟩ : ByteArray)) (replaceAll_one 123 s.data.toList)
  have hl := data_length s
  have hlt : (ofL (s.data.toList.filter fun b => !(b == 123))).size ≤ 1048576 := by
    rw [ofL_size]
    have := List.length_filter_le (fun b : UInt8 => !(b == 123)) s.data.toList
    omega
  rw [if_pos (by omega), if_pos (by decide), if_pos (by rw [z0]; omega), Option.bind_some, e1, if_pos (by omega), if_pos (by decide), if_pos (by rw [z0]; omega), Option.bind_some]
  congr 1
  have e2 : Lib.replaceAll (ofL (s.data.toList.filter fun b => !(b == 123))).data.toList (⟨#[125]⟩ : ByteArray).data.toList (⟨#[]⟩ : ByteArray).data.toList = noBr s.data.toList := by
    rw [ofL_toList]
    refine (replaceAll_one 125 _).trans ?_
    unfold noBr
    rw [List.filter_filter]
    congr 1
    funext b
    cases b == 123 <;> cases b == 125 <;> rfl
  exact congrArg (fun l : List UInt8 => (⟨l.toArray⟩ : ByteArray)) e2
theorem simple_len (l : List UInt8) : ∀ c, (simpleL c l).length ≤ l.length + 1 ∧ ∀ w ∈ simpleL c l, w.length ≤ c.length + l.length := by
  induction l with
  | nil =>
    intro c
    unfold simpleL
    split
    · exact ⟨by simp, fun w hw => by cases hw⟩
    · exact ⟨by simp, fun w hw => by rw [List.mem_singleton] at hw; subst hw; simp⟩
  | cons b l ih =>
    intro c
    unfold simpleL
    split
    · obtain ⟨h1, h2⟩ := ih []
      split
      · exact ⟨by simp; omega, fun w hw => by have := h2 w hw; simp at this ⊢; omega⟩
      · refine ⟨by simp; omega, fun w hw => ?_⟩
        rcases List.mem_cons.1 hw with rfl | hw
        · omega
        · have := h2 w hw; simp at this ⊢; omega
    · split
      · obtain ⟨h1, h2⟩ := ih (c ++ [loB b])
        exact ⟨by simp; omega, fun w hw => by have := h2 w hw; simp at this ⊢; omega⟩
      · obtain ⟨h1, h2⟩ := ih c
        exact ⟨by simp; omega, fun w hw => by have := h2 w hw; simp at this ⊢; omega⟩
theorem splitK_one (l : List UInt8) : ∃ w ws, Lib.splitK [32] 0 (l.count 32) l = w :: ws ∧ ∀ c, splitL c l = (c ++ w) :: ws := by
  induction l with
  | nil => exact ⟨[], [], rfl, fun c => by simp [splitL]⟩
  | cons b l ih =>
    obtain ⟨w, ws, h1, h2⟩ := ih
    by_cases h : b = 32
    · subst h
      refine ⟨[], w :: ws, ?_, fun c => ?_⟩
      · rw [List.count_cons_self, Lib.splitK, index_one0]
        simp [h1]
      · rw [splitL, if_pos rfl, h2 []]
        simp
    · refine ⟨b :: w, ws, ?_, fun c => ?_⟩
      · rw [List.count_cons_of_ne h]
        cases hk : l.count 32 with
        | zero =>
          rw [hk] at h1
          have h1 : [l] = w :: ws := h1
          injection h1 with a b2
          rw [← a, ← b2]
          rfl
        | succ m =>
          rw [hk] at h1
          obtain ⟨i, hi⟩ := Lib.index_of_count (s := l) (old := [32]) (by rw [Lib.count_one, hk]; omega)
          rw [Lib.splitK, hi] at h1
          rw [Lib.splitK, index_oneS 32 b l h i hi]
          have g1 : ¬ (((i : Nat) : Int) == -1) = true := by first | (simp; done) | (simp; omega)
          have g2 : ¬ (((i + 1 : Nat) : Int) == -1) = true := by first | (simp; done) | (simp; omega)
          rw [if_neg g1] at h1
          rw [if_neg g2]
          injection h1 with a b2
          rw [← a, ← b2]
          simp
      · rw [splitL, if_neg h, h2]
        simp
theorem split_ps (u : ByteArray) : (Lib.splitB u 0 0 u = Lib.splitB u 0 0 u) ∧ Lib.splitB (⟨#[32]⟩ : ByteArray) 0 (Lib.countB u (⟨#[32]⟩ : ByteArray)) u = (splitL [] u.data.toList).map ofL := by
  refine ⟨rfl, ?_⟩
  have h := Lib.splitB_data (⟨#[32]⟩ : ByteArray) 0 (Lib.countB u (⟨#[32]⟩ : ByteArray)) u
  have hc : Lib.countB u (⟨#[32]⟩ : ByteArray) = u.data.toList.count 32 := Lib.count_one 32 _
  rw [hc] at h ⊢
  obtain ⟨w, ws, h1, h2⟩ := splitK_one u.data.toList
  rw [show (⟨#[32]⟩ : ByteArray).data.toList = [32] from rfl, h1] at h
  have h3 := h2 []
  rw [List.nil_append] at h3
  rw [h3, ← h, List.map_map]
  have : (ofL ∘ fun x : ByteArray => x.data.toList) = id := by funext x; exact ofL_data x
  rw [this, List.map_id]
theorem keep_nat (b : UInt8) : impl_sortTitle.keep (b.toNat : Int) = keepB b := by
  unfold impl_sortTitle.keep keepB
  rw [show impl_sortTitle.isL (b.toNat : Int) = isLoB b from rfl, show impl_sortTitle.isD (b.toNat : Int) = isDiB b from rfl, ← beq_n b 32]
  rfl
theorem keep_nums (l : List UInt8) : (nums l).filter impl_sortTitle.keep = nums (l.filter keepB) := by
  unfold nums
  rw [List.filter_map]
  congr 2
  funext b
  exact keep_nat b
theorem emp_ofL (w : List UInt8) : impl_sortTitle.emp (ofL w) = w.isEmpty := by
  unfold impl_sortTitle.emp
  rw [Lib.toList_data, ofL_toList]
  cases w <;> rfl
theorem implWords (s : ByteArray) (hs : s.size ≤ 100) : impl_sortTitle.words s = some ((simpleL [] (noBr s.data.toList)).map ofL) := by
  have hl := data_length s
  have hle : (noBr s.data.toList).length ≤ 100 := by
    unfold noBr
    exact Nat.le_trans (List.length_filter_le _ _) (by omega)
  unfold impl_sortTitle.words
  rw [implPlain s (by omega), Option.bind_some, implLower _ (by rw [ofL_size]; omega), Option.bind_some, ofL_toList, if_pos (by rw [ofL_size, List.length_map]; omega)]
  have e1 : (bytesOf (ofL ((noBr s.data.toList).map loB))).filter impl_sortTitle.keep = nums (((noBr s.data.toList).map loB).filter keepB) := by
    rw [← keep_nums]
    congr 1
  rw [e1, strOf_nums]
  have hf : (((noBr s.data.toList).map loB).filter keepB).length ≤ 100 := Nat.le_trans (List.length_filter_le _ _) (by rw [List.length_map]; exact hle)
  have hsp : strings_Split.f (ofL (((noBr s.data.toList).map loB).filter keepB)) (⟨#[32]⟩ : ByteArray) = some ((splitL [] (((noBr s.data.toList).map loB).filter keepB)).map ofL) := by
    unfold strings_Split.f
    rw [if_pos (by rw [ofL_size]; omega), if_pos (by decide)]
    unfold strings_Split.parts
    rw [(split_ps _).2, ofL_toList]
  rw [hsp, Option.bind_some]
  have hlen : ∀ (l : List UInt8) c, (splitL c l).length ≤ l.length + 1 ∧ splitL c l ≠ [] := fun l => by
    induction l with
    | nil => intro c; simp [splitL]
    | cons b l ih =>
      intro c
      unfold splitL
      split
      · exact ⟨by have := (ih []).1; simp; omega, by simp⟩
      · exact ⟨by have := (ih (c ++ [b])).1; simp; omega, (ih _).2⟩
  have hl2 := hlen (((noBr s.data.toList).map loB).filter keepB) []
  rw [if_pos ⟨by simpa using hl2.2, by rw [List.length_map]; omega⟩]
  congr 1
  rw [List.filter_map, ← simple_split]
  congr 2
  funext w
  show (!impl_sortTitle.emp (ofL w)) = _
  rw [emp_ofL]
theorem art_eq (x : ByteArray) : impl_sortTitle.art x = true ↔ x.toList = [97] ∨ x.toList = [97, 110] ∨ x.toList = [116, 104, 101] := by
  unfold impl_sortTitle.art
  simp
/-- The sorting form, by the words. -/
def sortF (W : List ByteArray) : ByteArray := if 2 ≤ W.length ∧ impl_sortTitle.art (rdOf ByteArray.empty W 0) = true then JN (W.drop 1) else JN W
theorem Sort_impl (s : ByteArray) (h : okTitle s.data.toList = true) : Ev (fun k => impl_SortTitle.f k s) (sortF ((simpleL [] (noBr s.data.toList)).map ofL), true) := by
  have n2 := (okT_of h).n2
  have hl := data_length s
  have g2 := implValid s (by omega)
  rw [h] at g2
  have iw := implWords s (by omega)
  have hle : (noBr s.data.toList).length ≤ 100 := by
    unfold noBr
    exact Nat.le_trans (List.length_filter_le _ _) (by omega)
  obtain ⟨b1, b2⟩ := simple_len (noBr s.data.toList) []
  have hW1 : ((simpleL [] (noBr s.data.toList)).map ofL).length ≤ 101 := by rw [List.length_map]; omega
  have hW2 : ∀ w ∈ (simpleL [] (noBr s.data.toList)).map ofL, w.size ≤ 100 := fun w hw => by
    obtain ⟨l, hl2, rfl⟩ := List.mem_map.1 hw
    have := b2 l hl2
    rw [ofL_size]
    simp only [List.length_nil] at this
    omega
  generalize (simpleL [] (noBr s.data.toList)).map ofL = W at *
  have ht := tot_le W 100 hW2
  have htd := tot_le (W.drop 1) 100 (fun w hw => hW2 w (List.mem_of_mem_drop hw))
  have hdl : (W.drop 1).length ≤ 101 := by rw [List.length_drop]; omega
  have j1 := implJoin W (by omega) (by omega)
  have j2 := implJoin (W.drop 1) (by omega) (by omega)
  have isort : impl_sortTitle.f s = some (sortF W) := by
    unfold impl_sortTitle.f sortF
    rw [iw, Option.bind_some]
    split
    · exact j2
    · exact j1
  unfold impl_SortTitle.f
  refine Ev.bind g2 (Ev.congr (fun _ => if_pos rfl) ?_)
  rw [isort]
  exact Ev.now _

/-! a word that is protected -/
def pr (word w : ByteArray) : ByteArray := if w.toList = word.toList then ((⟨#[123]⟩ : ByteArray) ++ word) ++ (⟨#[125]⟩ : ByteArray) else w
theorem mid_get {α : Type} (z : α) (f : α → α) (l : List α) (i : Nat) (h : i < l.length) : ((l.take i).map f ++ l.drop i).getD i z = l[i] := by
  rw [List.getD_eq_getElem?_getD, List.getElem?_append_right (by rw [List.length_map, List.length_take]; omega), List.length_map, List.length_take, Nat.min_eq_left (by omega), Nat.sub_self, List.getElem?_drop, Nat.add_zero, List.getElem?_eq_getElem h]
  rfl
theorem mid_len {α : Type} (f : α → α) (l : List α) (i : Nat) : ((l.take i).map f ++ l.drop i).length = l.length := by
  rw [List.length_append, List.length_map, List.length_take, List.length_drop]; omega
theorem mid_next {α : Type} (f : α → α) (l : List α) (i : Nat) (h : i < l.length) : (l.take (i + 1)).map f ++ l.drop (i + 1) = ((l.take i).map f ++ [f l[i]]) ++ l.drop (i + 1) := by
  rw [List.take_succ_eq_append_getElem h, List.map_append]; rfl
theorem mid_set {α : Type} (f : α → α) (l : List α) (i : Nat) (h : i < l.length) (v : α) (hv : v = f l[i]) : ((l.take i).map f ++ l.drop i).set i v = (l.take (i + 1)).map f ++ l.drop (i + 1) := by
  subst hv
  rw [mid_next f l i h, List.set_append_right _ _ (by rw [List.length_map, List.length_take]; omega), List.length_map, List.length_take, Nat.min_eq_left (by omega), Nat.sub_self, List.drop_eq_getElem_cons h, List.set_cons_zero, List.append_assoc]
  rfl
theorem mid_keep {α : Type} (f : α → α) (l : List α) (i : Nat) (h : i < l.length) (hv : f l[i] = l[i]) : (l.take i).map f ++ l.drop i = (l.take (i + 1)).map f ++ l.drop (i + 1) := by
  rw [mid_next f l i h, hv, List.drop_eq_getElem_cons h, List.append_assoc]
  rfl
theorem loopI (word : ByteArray) (ws : List ByteArray) (R : ByteArray × Bool) (hl : ws.length ≤ 1000) (hw : word.size ≤ 1048576)
    (hfin : Ev (fun k => (strings_Join.f (ws.map (pr word)) (⟨#[32]⟩ : ByteArray)).bind fun t => ((impl_IsValidTitle.f k t).bind fun t2 => (if t2 = true then (some (t, true)) else (some ((⟨#[]⟩ : ByteArray), false))))) R) :
    ∀ (d i : Nat), i + d = ws.length → Ev (fun k => impl_ProtectTitle.l0 k word ((ws.take i).map (pr word) ++ ws.drop i) (ws.length : Int) (i : Int)) R
  | 0, i, hi => by
    have e : (ws.take i).map (pr word) ++ ws.drop i = ws.map (pr word) := by rw [List.take_of_length_le (by omega), List.drop_of_length_le (by omega), List.append_nil]
    rw [e]
    refine Ev.step (fun k => ?_) hfin
    simp only [impl_ProtectTitle.l0]
    rw [if_neg (by omega)]
  | d + 1, i, hi => by
    have h : i < ws.length := by omega
    have ih := loopI word ws R hl hw hfin d (i + 1) (by omega)
    have hx : wrap64 ((i : Int) + 1) = ((i + 1 : Nat) : Int) := by rw [wrap_small (by omega) (by omega)]; rfl
    have hg : rdOf ByteArray.empty ((ws.take i).map (pr word) ++ ws.drop i) (i : Int) = ws[i] := mid_get ByteArray.empty (pr word) ws i h
    have hz : 1 + word.size ≤ 9223372036854775807 := by omega
    have hz2 : ((⟨#[123]⟩ : ByteArray) ++ word).size + 1 ≤ 9223372036854775807 := by rw [ByteArray.size_append]; show (1 + word.size) + 1 ≤ _; omega
    refine Ev.step (fun k => ?_) ih
    simp only [impl_ProtectTitle.l0, hg, hx, mid_len, Int.toNat_natCast]
    rw [if_pos (by omega), if_pos (by omega), if_pos (by omega), if_pos hz, if_pos hz2]
    by_cases c : (ws[i]).toList = word.toList
    · rw [if_pos c, mid_set (pr word) ws i h _ (by unfold pr; rw [if_pos c])]
    · rw [if_neg c, mid_keep (pr word) ws i h (by unfold pr; rw [if_neg c])]
theorem loopS (word : ByteArray) (ws : List ByteArray) (R : ByteArray × Bool) (hl : ws.length ≤ 1000) (hw : word.size ≤ 1048576)
    (hfin : Ev (fun k => (spec_l6Join.f k (ws.map (pr word))).bind fun t => ((spec_l6Good.f k t).bind fun t2 => (if t2 = true then (some (t, true)) else (some ((⟨#[]⟩ : ByteArray), false))))) R) :
    ∀ (d i : Nat), i + d = ws.length → Ev (fun k => spec_ProtectTitle.l1 k word ((ws.take i).map (pr word) ++ ws.drop i) (i : Int)) R
  | 0, i, hi => by
    have e : (ws.take i).map (pr word) ++ ws.drop i = ws.map (pr word) := by rw [List.take_of_length_le (by omega), List.drop_of_length_le (by omega), List.append_nil]
    rw [e]
    refine Ev.step (fun k => ?_) hfin
    simp only [spec_ProtectTitle.l1, List.length_map]
    rw [if_neg (by omega)]
  | d + 1, i, hi => by
    have h : i < ws.length := by omega
    have ih := loopS word ws R hl hw hfin d (i + 1) (by omega)
    have hx : wrap64 ((i : Int) + 1) = ((i + 1 : Nat) : Int) := by rw [wrap_small (by omega) (by omega)]; rfl
    have hg : rdOf ByteArray.empty ((ws.take i).map (pr word) ++ ws.drop i) (i : Int) = ws[i] := mid_get ByteArray.empty (pr word) ws i h
    have hz : 1 + word.size ≤ 9223372036854775807 := by omega
    have hz2 : ((⟨#[123]⟩ : ByteArray) ++ word).size + 1 ≤ 9223372036854775807 := by rw [ByteArray.size_append]; show (1 + word.size) + 1 ≤ _; omega
    refine Ev.step (fun k => ?_) ih
    simp only [spec_ProtectTitle.l1, hg, hx, mid_len, Int.toNat_natCast]
    rw [if_pos (by omega), if_pos (by omega), if_pos hz, if_pos hz2]
    by_cases c : (ws[i]).toList = word.toList
    · rw [if_pos c, mid_set (pr word) ws i h _ (by unfold pr; rw [if_pos c])]
    · rw [if_neg c, mid_keep (pr word) ws i h (by unfold pr; rw [if_neg c])]
def spB (l : List UInt8) : Bool := l.any fun b => b == 32
theorem any_spb (l : List UInt8) : Lib.containsAny l [32, 123, 125] = (brB l || spB l) := by
  have hc : ∀ b : UInt8, ([32, 123, 125] : List UInt8).contains b = (b == 32 || (b == 123 || b == 125)) := fun b => by
    show (match b == 32 with | true => true | false => (match b == 123 with | true => true | false => (match b == 125 with | true => true | false => false))) = _
    cases b == 32 <;> cases b == 123 <;> cases b == 125 <;> rfl
  have hg := Lib.indexAny_ge [32, 123, 125]
  unfold Lib.containsAny brB spB
  induction l with
  | nil => rfl
  | cons b l ih =>
    have e : Lib.indexAny (b :: l) [32, 123, 125] = if ([32, 123, 125] : List UInt8).contains b then 0 else if Lib.indexAny l [32, 123, 125] == -1 then -1 else Lib.indexAny l [32, 123, 125] + 1 := rfl
    have r : (((b == 123 || b == 125) || l.any fun b => b == 123 || b == 125) || ((b == 32) || l.any fun b => b == 32)) = ((b == 32 || (b == 123 || b == 125)) || ((l.any fun b => b == 123 || b == 125) || l.any fun b => b == 32)) := by
      cases b == 32 <;> cases b == 123 <;> cases b == 125 <;> cases (l.any fun b => b == 123 || b == 125) <;> cases (l.any fun b => b == 32) <;> rfl
    rw [List.any_cons, List.any_cons, r, ← ih, ← hc, e]
    cases hb : ([32, 123, 125] : List UInt8).contains b with
    | true => simp
    | false =>
      have := hg l
      simp only [Bool.false_eq_true, if_false, Bool.false_or]
      by_cases c : Lib.indexAny l [32, 123, 125] = -1
      · rw [if_pos (by rw [c]; rfl), c]
      · rw [if_neg (by simpa using c), decide_eq_decide]
        omega
theorem space_l0 (s w : ByteArray) (hs : w.size ≤ 1048576) (R : ByteArray × Bool) (hfin : Ev (fun k => (spec_l6Words.f k s).bind fun t => (spec_ProtectTitle.l1 k w t 0)) R) : ∀ (d i : Nat), i + d = w.size →
    Ev (fun k => spec_ProtectTitle.l0 k s w (i : Int)) (if spB (w.data.toList.drop i) = true then ((⟨#[]⟩ : ByteArray), false) else R)
  | 0, i, hi => by
    rw [end_nat w i (by omega)]
    refine Ev.step (fun k => ?_) hfin
    simp only [spec_ProtectTitle.l0]
    rw [if_neg (by omega)]
  | d + 1, i, hi => by
    obtain ⟨b, hd, hb, _⟩ := at_nat w i (by omega)
    have hw : wrap64 ((i : Int) + 1) = ((i + 1 : Nat) : Int) := by rw [wrap_small (by omega) (by omega)]; rfl
    have ih := space_l0 s w hs R hfin d (i + 1) (by omega)
    rw [hd]
    unfold spB at ih ⊢
    rw [List.any_cons]
    by_cases c : b = 32
    · rw [show (b == 32) = true from beq_iff_eq.2 c, Bool.true_or, if_pos rfl]
      refine Ev.step (f := fun _ => some ((⟨#[]⟩ : ByteArray), false)) (fun k => ?_) (Ev.now _)
      simp only [spec_ProtectTitle.l0, hb]
      rw [if_pos (by omega), if_pos (by omega), if_pos ((n32 b).2 c)]
    · rw [show (b == 32) = false from beq_eq_false_iff_ne.2 c, Bool.false_or]
      refine Ev.step (fun k => ?_) ih
      simp only [spec_ProtectTitle.l0, hb, hw]
      rw [if_pos (by omega), if_pos (by omega), if_neg (fun h => c ((n32 b).1 h))]
theorem Protect_both (s word : ByteArray) (b1 : ¬ (s.size : Int) > 1048576) (b2 : ¬ (word.size : Int) > 1048576) : ∃ R : ByteArray × Bool, Ev (fun k => spec_ProtectTitle.f k s word) R ∧ Ev (fun k => impl_ProtectTitle.f k s word) R ∧ (R.2 = true → okTitle s.data.toList = true ∧ R.1 = JN ((wordsOf s).map (pr word)) ∧ okTitle R.1.data.toList = true) := by
  have g1 := specGood s (by omega)
  have g2 := implValid s (by omega)
  unfold spec_ProtectTitle.f impl_ProtectTitle.f
  have noS : Ev (fun k => spec_ProtectTitle.j0 k s word true) ((⟨#[]⟩ : ByteArray), false) := by
    refine Ev.step (f := fun _ => some ((⟨#[]⟩ : ByteArray), false)) (fun k => ?_) (Ev.now _)
    simp only [spec_ProtectTitle.j0]; rw [if_pos trivial]
  have noI : Ev (fun k => impl_ProtectTitle.j0 k s word true) ((⟨#[]⟩ : ByteArray), false) := by
    refine Ev.step (f := fun _ => some ((⟨#[]⟩ : ByteArray), false)) (fun k => ?_) (Ev.now _)
    simp only [impl_ProtectTitle.j0]; rw [if_pos trivial]
  cases hg : okTitle s.data.toList with
  | false =>
    rw [hg] at g1 g2
    exact ⟨_, Ev.bind g1 (Ev.congr (fun _ => if_neg (by decide)) noS), Ev.bind g2 (Ev.congr (fun _ => if_neg (by decide)) noI), fun h2 => absurd h2 (by simp)⟩
  | true =>
    rw [hg] at g1 g2
    by_cases e : word.toList = ([] : List UInt8)
    · exact ⟨_, Ev.bind g1 (Ev.congr (fun _ => (if_pos rfl).trans (if_pos e)) noS), Ev.bind g2 (Ev.congr (fun _ => (if_pos rfl).trans (if_pos e)) noI), fun h2 => absurd h2 (by simp)⟩
    have hb := specBrace word (by omega)
    have hc : strings_ContainsAny.f word (⟨#[32, 123, 125]⟩ : ByteArray) = some (brB word.data.toList || spB word.data.toList) := by
      unfold strings_ContainsAny.f
      rw [if_pos (by omega), if_pos (by decide), if_pos (by rw [Bool.or_eq_true]; right; exact decide_eq_true rfl), if_pos (by decide)]
      exact congrArg some (any_spb _)
    obtain ⟨o1, o2, o3⟩ := words_okw s hg
    have ot := okT_of hg
    obtain ⟨wS, wI⟩ := words_both s (by omega) (by rw [ot.br]; rfl)
    have hin : ∀ x ∈ (wordsOf s).map (pr word), x.size ≤ 102 := fun x hx => by
      obtain ⟨y, hy, rfl⟩ := List.mem_map.1 hx
      have := (o3 y hy).n2
      unfold pr
      split
      · rename_i c
        have : y = word := str_inj _ _ c
        subst this
        rw [ByteArray.size_append, ByteArray.size_append]
        show (1 + y.size) + 1 ≤ 102
        omega
      · omega
    have ht := tot_le ((wordsOf s).map (pr word)) 102 hin
    rw [List.length_map] at ht
    have ht2 : tot ((wordsOf s).map (pr word)) ≤ 10302 := Nat.le_trans ht (Nat.mul_le_mul_left 102 o1)
    have jI := implJoin ((wordsOf s).map (pr word)) (by omega) (by rw [List.length_map]; omega)
    have jS := specJoin ((wordsOf s).map (pr word)) (by omega) (by rw [List.length_map]; omega)
    have jz : (JN ((wordsOf s).map (pr word))).size ≤ 20000 := by
      unfold JN
      rw [ofL_size]
      have := join_len ((wordsOf s).map (pr word))
      rw [List.length_map] at this
      omega
    generalize hJ : JN ((wordsOf s).map (pr word)) = J at *
    have v1 := specGood J (by omega)
    have v2 := implValid J (by omega)
    have fI : Ev (fun k => (strings_Join.f ((wordsOf s).map (pr word)) (⟨#[32]⟩ : ByteArray)).bind fun t => ((impl_IsValidTitle.f k t).bind fun t2 => (if t2 = true then (some (t, true)) else (some ((⟨#[]⟩ : ByteArray), false))))) (if okTitle J.data.toList = true then (J, true) else ((⟨#[]⟩ : ByteArray), false)) := by
      rw [jI]
      simp only [Option.bind_some]
      refine Ev.bind v2 ?_
      cases okTitle J.data.toList with
      | true => exact Ev.congr (fun _ => if_pos rfl) (Ev.now _)
      | false => exact Ev.congr (fun _ => if_neg (by decide)) (Ev.now _)
    have fS : Ev (fun k => (spec_l6Join.f k ((wordsOf s).map (pr word))).bind fun t => ((spec_l6Good.f k t).bind fun t2 => (if t2 = true then (some (t, true)) else (some ((⟨#[]⟩ : ByteArray), false))))) (if okTitle J.data.toList = true then (J, true) else ((⟨#[]⟩ : ByteArray), false)) := by
      refine Ev.bind jS (Ev.bind v1 ?_)
      cases okTitle J.data.toList with
      | true => exact Ev.congr (fun _ => if_pos rfl) (Ev.now _)
      | false => exact Ev.congr (fun _ => if_neg (by decide)) (Ev.now _)
    have lI := loopI word (wordsOf s) _ (by omega) (by omega) fI (wordsOf s).length 0 (by omega)
    have lS := loopS word (wordsOf s) _ (by omega) (by omega) fS (wordsOf s).length 0 (by omega)
    simp only [List.take_zero, List.map_nil, List.nil_append, List.drop_zero] at lI lS
    cases hbr : brB word.data.toList with
    | true =>
      rw [hbr] at hb hc
      refine ⟨_, Ev.bind g1 (Ev.congr (fun _ => (if_pos rfl).trans (if_neg e)) (Ev.bind hb noS)), Ev.bind g2 (Ev.congr (fun _ => (if_pos rfl).trans (if_neg e)) ?_), fun h2 => absurd h2 (by simp)⟩
      rw [hc]
      exact noI
    | false =>
      rw [hbr, Bool.false_or] at hc
      rw [hbr] at hb
      have sp := space_l0 s word (by omega) _ (Ev.bind wS lS) word.size 0 (by omega)
      rw [List.drop_zero] at sp
      refine ⟨_, Ev.bind g1 (Ev.congr (fun _ => (if_pos rfl).trans (if_neg e)) (Ev.bind hb (Ev.step (fun k => ?_) sp))), Ev.bind g2 (Ev.congr (fun _ => (if_pos rfl).trans (if_neg e)) ?_), fun h2 => ?_⟩
      · simp only [spec_ProtectTitle.j0]
        rw [if_neg (by decide)]
        rfl
      · rw [hc]
        cases hsp : spB word.data.toList with
        | true => exact noI
        | false =>
          rw [if_neg Bool.false_ne_true]
          refine Ev.step (fun k => ?_) (Ev.bind wI (f := fun k t => impl_ProtectTitle.l0 k word t (t.length : Int) 0) lI)
          simp only [impl_ProtectTitle.j0, Option.bind_some]
          rw [if_neg (by decide)]
      · by_cases k1 : spB word.data.toList = true
        · rw [if_pos k1] at h2; cases h2
        · rw [if_neg k1] at h2 ⊢
          by_cases k2 : okTitle J.data.toList = true
          · rw [if_pos k2]; exact ⟨rfl, rfl, k2⟩
          · rw [if_neg k2] at h2; cases h2

end Go.Proofs.YtiofklnfpmphnaaDoor.Pure
