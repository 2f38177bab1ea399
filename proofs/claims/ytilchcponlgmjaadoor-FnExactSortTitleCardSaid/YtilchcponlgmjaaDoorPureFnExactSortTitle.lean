/- The law FnExactSortTitle, as a statement over numbers and lists: the program's function and the reference's answer alike, for every input; no further condition. -/
import Derived.Lib.Replace
import Derived.Lib.SplitLaws
import Derived.Test.YtilchcponlgmjaaDoorPx10
import Derived.Test.YtilchcponlgmjaaDoorPx3
import Derived.Test.YtilchcponlgmjaaDoorPx4
import Derived.Test.YtilchcponlgmjaaDoorPx5
import Derived.Test.YtilchcponlgmjaaDoorPx9
import Derived.Test.YtilchcponlgmjaaDoorQTitJ
namespace Go.Proofs.YtilchcponlgmjaaDoor.Pure
open Go.RowKit Go.Proofs.YtilchcponlgmjaaDoor.Px Go.Proofs.YtilchcponlgmjaaDoorW.PrintWords Go.Proofs.YtilchcponlgmjaaDoorW.PrintLast
set_option linter.unusedVariables false
set_option linter.unusedSimpArgs false

theorem index_one0 (c : UInt8) (l : List UInt8) : Lib.index (c :: l) [c] = 0 := by
  unfold Lib.index
  rw [if_pos (by simp [List.isPrefixOf])]
theorem index_oneS (c b : UInt8) (l : List UInt8) (h : b ≠ c) (i : Nat) (hi : Lib.index l [c] = (i : Int)) : Lib.index (b :: l) [c] = ((i + 1 : Nat) : Int) := by
  unfold Lib.index
  rw [if_neg (by simp [List.isPrefixOf, Ne.symm h]), hi, if_neg (by first | (simp; done) | (simp; omega))]
  rfl
theorem replaceK_one (c : UInt8) (l : List UInt8) : Lib.replaceK [c] [] (l.count c) l = l.filter fun b => !(b == c) := by
  induction l with
  | nil => rfl
  | cons b l ih =>
    by_cases h : b = c
    · subst h
      rw [List.count_cons_self, Lib.replaceK_hit _ _ _ _ 0 (index_one0 b l)]
      simp [ih]
    · rw [List.count_cons_of_ne h, List.filter_cons, if_pos (by simpa using h), ← ih]
      cases hk : l.count c with
      | zero => rfl
      | succ m =>
        obtain ⟨i, hi⟩ := Lib.index_of_count (s := l) (old := [c]) (by rw [Lib.count_one, hk]; omega)
        rw [Lib.replaceK_hit _ _ _ _ _ (index_oneS c b l h i hi), Lib.replaceK_hit _ _ _ _ _ hi]
        simp
theorem replaceAll_one (c : UInt8) (l : List UInt8) : Lib.replaceAll l [c] [] = l.filter fun b => !(b == c) := by
  unfold Lib.replaceAll Lib.replace Lib.replaceNum
  rw [if_neg (by simp), if_pos (.inl (by decide)), Lib.count_one, replaceK_one]
theorem implPlain (s : ByteArray) (hs : s.size ≤ 1048576) : impl_plainTitle.f s = some (ofL (noBr s.data.toList)) := by
  unfold impl_plainTitle.f strings_ReplaceAll.f
  have z0 : (⟨#[]⟩ : ByteArray).size = 0 := rfl
  have e1 : (⟨(Lib.replaceAll s.data.toList (⟨#[123]⟩ : ByteArray).data.toList (⟨#[]⟩ : ByteArray).data.toList).toArray⟩ : ByteArray) = ofL (s.data.toList.filter fun b => !(b == 123)) := congrArg (fun l : List UInt8 => (⟨l.toArray⟩ : ByteArray)) (replaceAll_one 123 s.data.toList)
  have hl := data_length s
  have hlt : (ofL (s.data.toList.filter fun b => !(b == 123))).size ≤ 1048576 := by
    rw [ofL_size]
    have := List.length_filter_le (fun b : UInt8 => !(b == 123)) s.data.toList
    omega
  rw [if_pos (by omega), if_pos (by decide), if_pos (by rw [z0]; omega), Option.bind_some, e1, if_pos (by omega), if_pos (by decide), if_pos (by rw [z0]; omega), Option.bind_some]
  congr 1
  have e2 : Lib.replaceAll (ofL (s.data.toList.filter fun b => !(b == 123))).data.toList (⟨#[125]⟩ : ByteArray).data.toList (⟨#[]⟩ : ByteArray).data.toList = noBr s.data.toList := by
    rw [ofL_toList]
    refine (replaceAll_one 125 _).trans ?_
    unfold noBr
    rw [List.filter_filter]
    congr 1
    funext b
    cases b == 123 <;> cases b == 125 <;> rfl
  exact congrArg (fun l : List UInt8 => (⟨l.toArray⟩ : ByteArray)) e2
theorem plain_l0 (s : ByteArray) (hs : s.size ≤ 1048576) : ∀ (d i : Nat) (out : List UInt8), i + d = s.size → out.length ≤ i → Ev (fun k => spec_l6Plain.l0 k s (nums out) (i : Int)) (ofL (out ++ noBr (s.data.toList.drop i)))
  | 0, i, out, hi, ho => by
    rw [end_nat s i (by omega), show noBr [] = [] from rfl, List.append_nil, ← strOf_nums]
    refine Ev.step (f := fun _ => some (strOfNums (nums out))) (fun k => ?_) (Ev.now _)
    simp only [spec_l6Plain.l0]
    rw [if_neg (by omega)]
  | d + 1, i, out, hi, ho => by
    obtain ⟨b, hd, hb, _⟩ := at_nat s i (by omega)
    have hw : wrap64 ((i : Int) + 1) = ((i + 1 : Nat) : Int) := by rw [wrap_small (by omega) (by omega)]; rfl
    rw [hd]
    unfold noBr
    rw [List.filter_cons]
    by_cases c1 : b = 123
    · rw [if_neg (by rw [c1]; decide)]
      refine Ev.step (fun k => ?_) (plain_l0 s hs d (i + 1) out (by omega) (by omega))
      simp only [spec_l6Plain.l0]
      rw [if_pos (by omega), if_pos (by omega), hb, if_pos ((n123 b).2 c1), hw]
    · by_cases c2 : b = 125
      · rw [if_neg (by rw [c2]; decide)]
        refine Ev.step (fun k => ?_) (plain_l0 s hs d (i + 1) out (by omega) (by omega))
        simp only [spec_l6Plain.l0]
        rw [if_pos (by omega), if_pos (by omega), hb, if_neg (fun h => c1 ((n123 b).1 h)), if_pos ((n125 b).2 c2), hw]
      · rw [if_pos (by simp [c1, c2])]
        have ih := plain_l0 s hs d (i + 1) (out ++ [b]) (by omega) (by simp; omega)
        rw [List.append_assoc, List.singleton_append] at ih
        refine Ev.step (fun k => ?_) ih
        have hn : nums (out ++ [b]) = nums out ++ [(b.toNat : Int)] := by simp [nums]
        simp only [spec_l6Plain.l0]
        rw [if_pos (by omega), if_pos (by omega), hb, if_neg (fun h => c1 ((n123 b).1 h)), if_neg (fun h => c2 ((n125 b).1 h)), if_pos (by simp [nums]; omega), hw, hn]
theorem specPlain (s : ByteArray) (hs : s.size ≤ 1048576) : Ev (fun k => spec_l6Plain.f k s) (ofL (noBr s.data.toList)) := by
  have := plain_l0 s hs s.size 0 [] (by omega) (by simp)
  rw [List.drop_zero] at this
  exact this
theorem di_eq (b : UInt8) : spec_l6Digit.f (b.toNat : Int) = some (isDiB b) := by
  unfold spec_l6Digit.f isDiB
  by_cases c : (b.toNat : Int) ≥ 48
  · rw [if_pos c, decide_eq_true c]; rfl
  · rw [if_neg c, decide_eq_false c]; rfl
theorem simple_l0 (t : ByteArray) (hs : t.size ≤ 1048576) : ∀ (d i : Nat) (out : List ByteArray) (c : List UInt8), i + d = t.size → out.length ≤ i → c.length ≤ i → Ev (fun k => spec_l6Simple.l0 k t out (nums c) (i : Int)) (out ++ (simpleL c (t.data.toList.drop i)).map ofL)
  | 0, i, out, c, hi, ho, hc => by
    have hw : wrap64 ((i : Int) + 1) = ((i + 1 : Nat) : Int) := by rw [wrap_small (by omega) (by omega)]; rfl
    rw [end_nat t i (by omega), simpleL]
    have fin : ∀ (o : List ByteArray) (c2 : List Int), Ev (fun k => spec_l6Simple.l0 k t o c2 ((i + 1 : Nat) : Int)) o := fun o c2 => by
      refine Ev.step (f := fun _ => some o) (fun k => ?_) (Ev.now _)
      simp only [spec_l6Simple.l0]
      rw [if_neg (by omega)]
    have first : ∀ R, Ev (fun k => spec_l6Simple.j1 k t out (nums c) (i : Int) true) R → Ev (fun k => spec_l6Simple.l0 k t out (nums c) (i : Int)) R := fun R e => by
      refine Ev.step (fun k => ?_) e
      simp only [spec_l6Simple.l0]
      rw [if_pos (by omega), if_pos (by omega)]
    apply first
    by_cases z : c = []
    · subst z
      rw [if_pos rfl, List.map_nil, List.append_nil]
      refine Ev.step (fun k => ?_) (fin out [])
      simp only [spec_l6Simple.j1]
      rw [if_pos trivial, if_neg (by simp [nums]), hw]
    · rw [if_neg z, List.map_cons, List.map_nil, ← strOf_nums]
      have hp := List.length_pos_iff.2 z
      refine Ev.step (fun k => ?_) (fin (out ++ [strOfNums (nums c)]) [])
      simp only [spec_l6Simple.j1]
      rw [if_pos trivial, if_pos (by simp only [nums, List.length_map]; omega), if_pos (by omega), hw]
  | d + 1, i, out, c, hi, ho, hc => by
    obtain ⟨b, hd, hb, _⟩ := at_nat t i (by omega)
    have hw : wrap64 ((i : Int) + 1) = ((i + 1 : Nat) : Int) := by rw [wrap_small (by omega) (by omega)]; rfl
    have first : ∀ R, Ev (fun k => spec_l6Simple.j1 k t out (nums c) (i : Int) (b == 32)) R → Ev (fun k => spec_l6Simple.l0 k t out (nums c) (i : Int)) R := fun R e => by
      refine Ev.step (fun k => ?_) e
      simp only [spec_l6Simple.l0]
      rw [if_pos (by omega), if_neg (by omega), if_pos (by omega), if_pos (by omega), hb, ← beq_n b 32]
      rfl
    rw [hd, simpleL]
    apply first
    by_cases h : b = 32
    · rw [if_pos h, beq_iff_eq.2 h]
      by_cases z : c = []
      · subst z
        rw [if_pos rfl]
        refine Ev.step (fun k => ?_) (simple_l0 t hs d (i + 1) out [] (by omega) (by omega) (by simp))
        simp only [spec_l6Simple.j1]
        rw [if_pos trivial, if_neg (by simp [nums]), hw]
        rfl
      · rw [if_neg z]
        have hp := List.length_pos_iff.2 z
        have ih := simple_l0 t hs d (i + 1) (out ++ [strOfNums (nums c)]) [] (by omega) (by simp; omega) (by simp)
        rw [List.map_cons, ← strOf_nums]
        rw [List.append_assoc, List.singleton_append] at ih
        refine Ev.step (fun k => ?_) ih
        simp only [spec_l6Simple.j1]
        rw [if_pos trivial, if_pos (by simp only [nums, List.length_map]; omega), if_pos (by omega), hw]
        rfl
    · rw [if_neg h, beq_eq_false_iff_ne.2 h]
      have hn : nums (c ++ [loB b]) = nums c ++ [((loB b).toNat : Int)] := by simp [nums]
      have ih1 := simple_l0 t hs d (i + 1) out (c ++ [loB b]) (by omega) (by omega) (by simp; omega)
      have ih0 := simple_l0 t hs d (i + 1) out c (by omega) (by omega) (by omega)
      have hcl : (nums c).length < 140737488355328 := by simp only [nums, List.length_map]; omega
      cases h1 : isLetB b with
      | true =>
        rw [Bool.true_or, if_pos rfl]
        refine Ev.step (fun k => ?_) ih1
        simp only [spec_l6Simple.j1]
        rw [if_neg (by decide), if_pos (by omega), if_pos (by omega), hb, let_eq, Option.bind_some, h1, if_pos rfl, loByte, Option.bind_some, if_pos hcl, hw, hn]
      | false =>
        cases h2 : isDiB b with
        | true =>
          rw [Bool.or_true, if_pos rfl]
          refine Ev.step (fun k => ?_) ih1
          simp only [spec_l6Simple.j1]
          rw [if_neg (by decide), if_pos (by omega), if_pos (by omega), hb, let_eq, Option.bind_some, h1, if_neg (by decide), di_eq, Option.bind_some, h2, if_pos rfl, loByte, Option.bind_some, if_pos hcl, hw, hn]
        | false =>
          rw [Bool.or_false, if_neg (by decide)]
          refine Ev.step (fun k => ?_) ih0
          simp only [spec_l6Simple.j1]
          rw [if_neg (by decide), if_pos (by omega), if_pos (by omega), hb, let_eq, Option.bind_some, h1, if_neg (by decide), di_eq, Option.bind_some, h2, if_neg (by decide), hw]
theorem specSimple (t : ByteArray) (hs : t.size ≤ 1048576) : Ev (fun k => spec_l6Simple.f k t) ((simpleL [] t.data.toList).map ofL) := by
  have := simple_l0 t hs t.size 0 [] [] (by omega) (by simp) (by simp)
  rw [List.drop_zero] at this
  exact this
theorem simple_len (l : List UInt8) : ∀ c, (simpleL c l).length ≤ l.length + 1 ∧ ∀ w ∈ simpleL c l, w.length ≤ c.length + l.length := by
  induction l with
  | nil =>
    intro c
    unfold simpleL
    split
    · exact ⟨by simp, fun w hw => by cases hw⟩
    · exact ⟨by simp, fun w hw => by rw [List.mem_singleton] at hw; subst hw; simp⟩
  | cons b l ih =>
    intro c
    unfold simpleL
    split
    · obtain ⟨h1, h2⟩ := ih []
      split
      · exact ⟨by simp; omega, fun w hw => by have := h2 w hw; simp at this ⊢; omega⟩
      · refine ⟨by simp; omega, fun w hw => ?_⟩
        rcases List.mem_cons.1 hw with rfl | hw
        · omega
        · have := h2 w hw; simp at this ⊢; omega
    · split
      · obtain ⟨h1, h2⟩ := ih (c ++ [loB b])
        exact ⟨by simp; omega, fun w hw => by have := h2 w hw; simp at this ⊢; omega⟩
      · obtain ⟨h1, h2⟩ := ih c
        exact ⟨by simp; omega, fun w hw => by have := h2 w hw; simp at this ⊢; omega⟩
theorem splitK_one (l : List UInt8) : ∃ w ws, Lib.splitK [32] 0 (l.count 32) l = w :: ws ∧ ∀ c, splitL c l = (c ++ w) :: ws := by
  induction l with
  | nil => exact ⟨[], [], rfl, fun c => by simp [splitL]⟩
  | cons b l ih =>
    obtain ⟨w, ws, h1, h2⟩ := ih
    by_cases h : b = 32
    · subst h
      refine ⟨[], w :: ws, ?_, fun c => ?_⟩
      · rw [List.count_cons_self, Lib.splitK, index_one0]
        simp [h1]
      · rw [splitL, if_pos rfl, h2 []]
        simp
    · refine ⟨b :: w, ws, ?_, fun c => ?_⟩
      · rw [List.count_cons_of_ne h]
        cases hk : l.count 32 with
        | zero =>
          rw [hk] at h1
          have h1 : [l] = w :: ws := h1
          injection h1 with a b2
          rw [← a, ← b2]
          rfl
        | succ m =>
          rw [hk] at h1
          obtain ⟨i, hi⟩ := Lib.index_of_count (s := l) (old := [32]) (by rw [Lib.count_one, hk]; omega)
          rw [Lib.splitK, hi] at h1
          rw [Lib.splitK, index_oneS 32 b l h i hi]
          have g1 : ¬ (((i : Nat) : Int) == -1) = true := by first | (simp; done) | (simp; omega)
          have g2 : ¬ (((i + 1 : Nat) : Int) == -1) = true := by first | (simp; done) | (simp; omega)
          rw [if_neg g1] at h1
          rw [if_neg g2]
          injection h1 with a b2
          rw [← a, ← b2]
          simp
      · rw [splitL, if_neg h, h2]
        simp
theorem split_ps (u : ByteArray) : (Lib.splitB u 0 0 u = Lib.splitB u 0 0 u) ∧ Lib.splitB (⟨#[32]⟩ : ByteArray) 0 (Lib.countB u (⟨#[32]⟩ : ByteArray)) u = (splitL [] u.data.toList).map ofL := by
  refine ⟨rfl, ?_⟩
  have h := Lib.splitB_data (⟨#[32]⟩ : ByteArray) 0 (Lib.countB u (⟨#[32]⟩ : ByteArray)) u
  have hc : Lib.countB u (⟨#[32]⟩ : ByteArray) = u.data.toList.count 32 := Lib.count_one 32 _
  rw [hc] at h ⊢
  obtain ⟨w, ws, h1, h2⟩ := splitK_one u.data.toList
  rw [show (⟨#[32]⟩ : ByteArray).data.toList = [32] from rfl, h1] at h
  have h3 := h2 []
  rw [List.nil_append] at h3
  rw [h3, ← h, List.map_map]
  have : (ofL ∘ fun x : ByteArray => x.data.toList) = id := by funext x; exact ofL_data x
  rw [this, List.map_id]
theorem keep_nat (b : UInt8) : impl_sortTitle.keep (b.toNat : Int) = keepB b := by
  unfold impl_sortTitle.keep keepB
  rw [show impl_sortTitle.isL (b.toNat : Int) = isLoB b from rfl, show impl_sortTitle.isD (b.toNat : Int) = isDiB b from rfl, ← beq_n b 32]
  rfl
theorem keep_nums (l : List UInt8) : (nums l).filter impl_sortTitle.keep = nums (l.filter keepB) := by
  unfold nums
  rw [List.filter_map]
  congr 2
  funext b
  exact keep_nat b
theorem emp_ofL (w : List UInt8) : impl_sortTitle.emp (ofL w) = w.isEmpty := by
  unfold impl_sortTitle.emp
  rw [Lib.toList_data, ofL_toList]
  cases w <;> rfl
theorem implWords (s : ByteArray) (hs : s.size ≤ 100) : impl_sortTitle.words s = some ((simpleL [] (noBr s.data.toList)).map ofL) := by
  have hl := data_length s
  have hle : (noBr s.data.toList).length ≤ 100 := by
    unfold noBr
    exact Nat.le_trans (List.length_filter_le _ _) (by omega)
  unfold impl_sortTitle.words
  rw [implPlain s (by omega), Option.bind_some, implLower _ (by rw [ofL_size]; omega), Option.bind_some, ofL_toList, if_pos (by rw [ofL_size, List.length_map]; omega)]
  have e1 : (bytesOf (ofL ((noBr s.data.toList).map loB))).filter impl_sortTitle.keep = nums (((noBr s.data.toList).map loB).filter keepB) := by
    rw [← keep_nums]
    congr 1
  rw [e1, strOf_nums]
  have hf : (((noBr s.data.toList).map loB).filter keepB).length ≤ 100 := Nat.le_trans (List.length_filter_le _ _) (by rw [List.length_map]; exact hle)
  have hsp : strings_Split.f (ofL (((noBr s.data.toList).map loB).filter keepB)) (⟨#[32]⟩ : ByteArray) = some ((splitL [] (((noBr s.data.toList).map loB).filter keepB)).map ofL) := by
    unfold strings_Split.f
    rw [if_pos (by rw [ofL_size]; omega), if_pos (by decide)]
    unfold strings_Split.parts
    rw [(split_ps _).2, ofL_toList]
  rw [hsp, Option.bind_some]
  have hlen : ∀ (l : List UInt8) c, (splitL c l).length ≤ l.length + 1 ∧ splitL c l ≠ [] := fun l => by
    induction l with
    | nil => intro c; simp [splitL]
    | cons b l ih =>
      intro c
      unfold splitL
      split
      · exact ⟨by have := (ih []).1; simp; omega, by simp⟩
      · exact ⟨by have := (ih (c ++ [b])).1; simp; omega, (ih _).2⟩
  have hl2 := hlen (((noBr s.data.toList).map loB).filter keepB) []
  rw [if_pos ⟨by simpa using hl2.2, by rw [List.length_map]; omega⟩]
  congr 1
  rw [List.filter_map, ← simple_split]
  congr 2
  funext w
  show (!impl_sortTitle.emp (ofL w)) = _
  rw [emp_ofL]
theorem art_eq (x : ByteArray) : impl_sortTitle.art x = true ↔ x.toList = [97] ∨ x.toList = [97, 110] ∨ x.toList = [116, 104, 101] := by
  unfold impl_sortTitle.art
  simp
theorem Sort_both (s : ByteArray) (hs : s.size ≤ 1048576) : ∃ R, Ev (fun k => spec_SortTitle.f k s) R ∧ Ev (fun k => impl_SortTitle.f k s) R := by
  have g1 := specGood s (by omega)
  have g2 := implValid s (by omega)
  unfold spec_SortTitle.f impl_SortTitle.f
  cases h : okTitle s.data.toList with
  | false =>
    rw [h] at g1 g2
    exact ⟨(⟨#[]⟩, false), Ev.bind g1 (Ev.congr (fun _ => if_neg (by decide)) (Ev.now _)), Ev.bind g2 (Ev.congr (fun _ => if_neg (by decide)) (Ev.now _))⟩
  | true =>
    rw [h] at g1 g2
    have n2 := (okT_of h).n2
    have hl := data_length s
    have iw := implWords s (by omega)
    have hle : (noBr s.data.toList).length ≤ 100 := by
      unfold noBr
      exact Nat.le_trans (List.length_filter_le _ _) (by omega)
    have sp := specPlain s hs
    have ss := specSimple (ofL (noBr s.data.toList)) (by rw [ofL_size]; omega)
    rw [ofL_toList] at ss
    obtain ⟨b1, b2⟩ := simple_len (noBr s.data.toList) []
    have hW1 : ((simpleL [] (noBr s.data.toList)).map ofL).length ≤ 101 := by rw [List.length_map]; omega
    have hW2 : ∀ w ∈ (simpleL [] (noBr s.data.toList)).map ofL, w.size ≤ 100 := fun w hw => by
      obtain ⟨l, hl2, rfl⟩ := List.mem_map.1 hw
      have := b2 l hl2
      rw [ofL_size]
      simp only [List.length_nil] at this
      omega
    generalize (simpleL [] (noBr s.data.toList)).map ofL = W at *
    generalize ofL (noBr s.data.toList) = t at *
    have ht := tot_le W 100 hW2
    have htd := tot_le (W.drop 1) 100 (fun w hw => hW2 w (List.mem_of_mem_drop hw))
    have hdl : (W.drop 1).length ≤ 101 := by rw [List.length_drop]; omega
    have j1 := implJoin W (by omega) (by omega)
    have j2 := implJoin (W.drop 1) (by omega) (by omega)
    have k1 := specJoin W (by omega) (by omega)
    have k2 := specJoin (W.drop 1) (by omega) (by omega)
    have isort : impl_sortTitle.f s = some (if 2 ≤ W.length ∧ impl_sortTitle.art (rdOf ByteArray.empty W 0) = true then JN (W.drop 1) else JN W) := by
      unfold impl_sortTitle.f
      rw [iw, Option.bind_some]
      split
      · exact j2
      · exact j1
    have ssort : Ev (fun k => spec_l6Sort.f k t) (if 2 ≤ W.length ∧ impl_sortTitle.art (rdOf ByteArray.empty W 0) = true then JN (W.drop 1) else JN W) := by
      unfold spec_l6Sort.f
      refine Ev.bind ss ?_
      have drop1 : (W.drop (1 : Int).toNat) = W.drop 1 := rfl
      have tk : ∀ R, Ev (fun k => spec_l6Join.f k (W.drop 1)) R → 2 ≤ W.length → Ev (fun k => if 1 ≤ (W.length : Int) then ((spec_l6Join.f k (W.drop (1 : Int).toNat)).bind fun t382 => (some t382)) else (none)) R := fun R e h2 => Ev.congr (fun _ => if_pos (by omega)) (Ev.bind e (Ev.now _))
      by_cases c : 2 ≤ W.length
      · refine Ev.congr (fun _ => (if_pos (by omega)).trans (if_pos (by omega))) ?_
        by_cases a1 : (rdOf ByteArray.empty W 0).toList = ([97] : List UInt8)
        · rw [if_pos ⟨c, (art_eq _).2 (.inl a1)⟩]
          exact Ev.congr (fun _ => if_pos a1) (tk _ k2 c)
        · refine Ev.congr (fun _ => if_neg a1) ?_
          by_cases a2 : (rdOf ByteArray.empty W 0).toList = ([97, 110] : List UInt8)
          · rw [if_pos ⟨c, (art_eq _).2 (.inr (.inl a2))⟩]
            exact Ev.congr (fun _ => if_pos a2) (tk _ k2 c)
          · refine Ev.congr (fun _ => if_neg a2) ?_
            by_cases a3 : (rdOf ByteArray.empty W 0).toList = ([116, 104, 101] : List UInt8)
            · rw [if_pos ⟨c, (art_eq _).2 (.inr (.inr a3))⟩]
              exact Ev.congr (fun _ => if_pos a3) (tk _ k2 c)
            · rw [if_neg (fun hh => by rcases (art_eq _).1 hh.2 with h | h | h <;> contradiction)]
              exact Ev.congr (fun _ => if_neg a3) (Ev.bind k1 (Ev.now _))
      · rw [if_neg (fun hh => c hh.1)]
        exact Ev.congr (fun _ => if_neg (by omega)) (Ev.bind k1 (Ev.now _))
    refine ⟨(_, true), Ev.bind g1 (Ev.congr (fun _ => if_pos rfl) (Ev.bind sp (Ev.bind ssort (Ev.now _)))), Ev.bind g2 (Ev.congr (fun _ => if_pos rfl) ?_)⟩
    rw [isort]
    exact Ev.now _
theorem FnExactSortTitle : laws_FnExactSortTitle.Pure := by
  intro s _
  refine Ev.rounds (g := fun k => laws_FnExactSortTitle.f k s) ?_
  unfold laws_FnExactSortTitle.f
  by_cases c : (s.size : Int) > 1048576
  · exact Ev.congr (fun _ => if_pos c) (Ev.now true)
  obtain ⟨R, e1, e2⟩ := Sort_both s (by omega)
  refine Ev.congr (fun _ => if_neg c) (Ev.bind e1 (Ev.bind e2 (Ev.congr (f := fun _ => some true) (fun _ => ?_) (Ev.now true))))
  rw [if_pos rfl, bne_self_eq_false]
  rfl

end Go.Proofs.YtilchcponlgmjaaDoor.Pure
