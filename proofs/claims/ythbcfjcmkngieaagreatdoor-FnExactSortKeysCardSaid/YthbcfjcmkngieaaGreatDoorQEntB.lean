/- Lemmas on the printed functions, without Go and memory. -/
import Derived.Test.YthbcfjcmkngieaaGreatDoorPx1
import Derived.Test.YthbcfjcmkngieaaGreatDoorPx3
import Derived.Test.YthbcfjcmkngieaaGreatDoorPx4
import Derived.Test.YthbcfjcmkngieaaGreatDoorQEntA
namespace Go.Proofs.YthbcfjcmkngieaaGreatDoor.Pure
open Go.RowKit Go.Proofs.YthbcfjcmkngieaaGreatDoor.Px Go.Proofs.YthbcfjcmkngieaaGreatDoorW.PrintWords Go.Proofs.YthbcfjcmkngieaaGreatDoorW.PrintLast
set_option linter.unusedVariables false
set_option linter.unusedSimpArgs false

abbrev Nm := S82
theorem index_one0 (c : UInt8) (l : List UInt8) : Lib.index (c :: l) [c] = 0 := by
  unfold Lib.index;rw [if_pos (by simp [List.isPrefixOf])]
theorem index_oneS (c b : UInt8) (l : List UInt8) (h : b ≠ c) (i : Nat) (hi : Lib.index l [c] = (i : Int)) : Lib.index (b :: l) [c] = ((i + 1 : Nat) : Int) := by
  unfold Lib.index;rw [if_neg (by simp [List.isPrefixOf, Ne.symm h]), hi, if_neg (by first | (simp; done) | (simp; omega))];rfl
def splitL : List UInt8 → List UInt8 → List (List UInt8)
  | c, [] => [c]
  | c, b :: l => if b = 32 then c :: splitL [] l else splitL (c ++ [b]) l
theorem splitK_one (l : List UInt8) : ∃ w ws, Lib.splitK [32] 0 (l.count 32) l = w :: ws ∧ ∀ c, splitL c l = (c ++ w) :: ws := by
  induction l with
  | nil => exact ⟨[], [], rfl, fun c => by simp [splitL]⟩
  | cons b l ih =>
    obtain ⟨w, ws, h1, h2⟩ := ih;by_cases h : b = 32;(·subst h;refine ⟨[], w :: ws, ?_, fun c => ?_⟩;(·rw [List.count_cons_self, Lib.splitK, index_one0];simp [h1]);(·rw [splitL, if_pos rfl, h2 []];simp))
    · refine ⟨b :: w, ws, ?_, fun c => ?_⟩
      · rw [List.count_cons_of_ne h]
        cases hk : l.count 32 with
        | zero =>
          rw [hk] at h1;have h1 : [l] = w :: ws := h1;(injection h1 with a b2);rw [← a, ← b2];rfl
        | succ m =>
          rw [hk] at h1;obtain ⟨i, hi⟩ := Lib.index_of_count (s := l) (old := [32]) (by rw [Lib.count_one, hk]; omega);rw [Lib.splitK, hi] at h1;rw [Lib.splitK, index_oneS 32 b l h i hi]
          have g1 : ¬ (((i : Nat) : Int) == -1) = true := by first | (simp; done) | (simp; omega)
          have g2 : ¬ (((i + 1 : Nat) : Int) == -1) = true := by first | (simp; done) | (simp; omega)
          rw [if_neg g1] at h1;rw [if_neg g2];(injection h1 with a b2);rw [← a, ← b2];simp
      · rw [splitL, if_neg h, h2]
        simp
theorem split_eq (u : ByteArray) : Lib.splitB (⟨#[32]⟩ : ByteArray) 0 (Lib.countB u (⟨#[32]⟩ : ByteArray)) u = (splitL [] u.data.toList).map ofL := by
  have h := Lib.splitB_data (⟨#[32]⟩ : ByteArray) 0 (Lib.countB u (⟨#[32]⟩ : ByteArray)) u;have hc : Lib.countB u (⟨#[32]⟩ : ByteArray) = u.data.toList.count 32 := Lib.count_one 32 _;rw [hc] at h ⊢;obtain ⟨w, ws, h1, h2⟩ := splitK_one u.data.toList;rw [show (⟨#[32]⟩ : ByteArray).data.toList = [32] from rfl, h1] at h;have h3 := h2 [];rw [List.nil_append] at h3;rw [h3, ← h, List.map_map];(have : (ofL ∘ fun x : ByteArray => x.data.toList) = id := by funext x; exact ofL_data x);rw [this, List.map_id]
theorem split_len : ∀ (l c : List UInt8), (splitL c l).length ≤ l.length + 1 ∧ ∀ w ∈ splitL c l, w.length ≤ c.length + l.length
  | [], c => ⟨by simp [splitL], fun w hw => by rw [splitL, List.mem_singleton] at hw; subst hw; simp⟩
  | b :: l, c => by
    rw [splitL];(split);(·obtain ⟨h1, h2⟩ := split_len l [];refine ⟨by simp; omega, fun w hw => ?_⟩;(rcases List.mem_cons.1 hw with rfl | hw);(·omega);(·(have := h2 w hw; simp at this ⊢; omega)));(·obtain ⟨h1, h2⟩ := split_len l (c ++ [b]);exact ⟨by simp; omega, fun w hw => by have := h2 w hw; simp at this ⊢; omega⟩)
theorem split_i (s : ByteArray) (hs : s.size ≤ 1048576) : strings_Split.f s (⟨#[32]⟩ : ByteArray) = some ((splitL [] s.data.toList).map ofL) := by
  unfold strings_Split.f strings_Split.parts;rw [if_pos (by omega), if_pos (by decide), split_eq]
theorem split_s (s : ByteArray) (hs : s.size ≤ 1048576) : ∀ (d i fr : Nat) (out : List ByteArray), i + d = s.size → fr ≤ i → out.length ≤ i →
    Ev (fun k => spec_l1Split.l0 k s 32 out (fr : Int) (i : Int)) (out ++ (splitL ((s.data.toList.drop fr).take (i - fr)) (s.data.toList.drop i)).map ofL)
  | 0, i, fr, out, hi, hf, ho => by
    have hl := data_length s
    have e1 : s.data.toList.drop i = [] := List.drop_of_length_le (by omega)
    have e2 : (s.data.toList.drop fr).take (i - fr) = s.data.toList.drop fr := List.take_of_length_le (by rw [List.length_drop]; omega)
    rw [e1, e2, splitL]
    refine Ev.step (f := fun _ => some (out ++ [s.extract fr s.size])) (fun k => ?_) (Ev.congr (fun _ => ?_) (Ev.now _))
    · simp only [spec_l1Split.l0]
      rw [if_neg (by omega), if_pos (by omega), if_pos (by omega), if_pos (by omega), Int.toNat_natCast]
    · congr 2
      show [s.extract fr s.size] = [ofL (s.data.toList.drop fr)]
      rw [← ofL_data (s.extract fr s.size)]
      congr 2
      rw [ByteArray.data_extract, Array.toList_extract]
      show List.take (s.size - fr) (List.drop fr s.data.toList) = _
      rw [List.take_of_length_le (by rw [List.length_drop]; omega)]
  | d + 1, i, fr, out, hi, hf, ho => by
    have hl := data_length s
    have hlt : i < s.data.toList.length := by omega
    obtain ⟨b, e1, e2⟩ := drop_at s (i : Int) (by omega) (by omega)
    rw [Int.toNat_natCast, show ((i : Int) + 1).toNat = i + 1 from by omega] at e1
    have hw := next_i i s.size (by omega) hs
    have hb : (bt s (i : Int) = 32) ↔ b = 32 := by
      rw [e2];(constructor);(·(intro h; exact UInt8.toNat_inj.1 (by have : (b.toNat : Int) = 32 := h; show b.toNat = 32; omega)));(·(rintro rfl; rfl))
    rw [e1, splitL];by_cases c : b = 32
    · have ih := split_s s hs d (i + 1) (i + 1) (out ++ [s.extract fr i]) (by omega) (by omega) (by simp; omega)
      rw [Nat.sub_self, List.take_zero] at ih;rw [if_pos c, List.map_cons]
      have e3 : s.extract fr i = ofL ((s.data.toList.drop fr).take (i - fr)) := by
        rw [← ofL_data (s.extract fr i), ByteArray.data_extract, Array.toList_extract]
      rw [← e3];rw [List.append_assoc] at ih;refine Ev.step (fun k => ?_) ih;simp only [spec_l1Split.l0];rw [if_pos (by omega), if_pos (by omega), if_pos (hb.2 c), if_pos (by omega), if_pos (by omega), if_pos (by omega), if_pos (by omega), hw, Int.toNat_natCast, Int.toNat_natCast]
    · have ih := split_s s hs d (i + 1) fr out (by omega) (by omega) (by omega)
      have e4 : (s.data.toList.drop fr).take (i - fr) ++ [b] = (s.data.toList.drop fr).take (i + 1 - fr) := by
        (have hlt2 : i - fr < (s.data.toList.drop fr).length := by rw [List.length_drop]; omega);rw [show i + 1 - fr = (i - fr) + 1 from by omega, List.take_succ_eq_append_getElem hlt2];(congr 2);rw [List.getElem_drop];have := List.drop_eq_getElem_cons hlt;rw [e1] at this;have h2 := (List.cons.inj this).1;rw [h2];(congr 1);omega
      rw [if_neg c, e4];refine Ev.step (fun k => ?_) ih;simp only [spec_l1Split.l0];rw [if_pos (by omega), if_pos (by omega), if_neg (fun h => c (hb.1 h)), hw]
theorem split_sp (s : ByteArray) (hs : s.size ≤ 1048576) : Ev (fun k => spec_l1Split.f k s 32) ((splitL [] s.data.toList).map ofL) := by
  have := split_s s hs s.size 0 0 [] (by omega) (by omega) (by simp);rw [List.drop_zero, Nat.sub_self, List.take_zero, List.nil_append] at this;exact this
def lowB (w : ByteArray) : Bool := inI (w.size : Int) 1 12 && allI (fun i => isLw (bt w (i : Int))) 0 w.size
theorem low_word (w : ByteArray) : (wordB w && allI (fun i => isLw (bt w (i : Int))) 0 w.size) = lowB w := by
  unfold lowB
  cases h : allI (fun i => isLw (bt w (i : Int))) 0 w.size with
  | false => simp
  | true =>
    rw [Bool.and_true, Bool.and_true];unfold wordB
    cases h2 : inI (w.size : Int) 1 12 with
    | false => rfl
    | true =>
      have hb := inI_parts _ _ _ h2;have at_ := allI_true _ _ _ h
      have hp : ∀ j : Nat, j < w.size → isLt (bt w (j : Int)) = true := fun j hj => by
        unfold isLt;have := at_ j (by omega) (by omega);rw [this, Bool.or_true]
      have h0 := hp 0 (by omega);have h1 := hp (w.size - 1) (by omega);rw [show (((w.size - 1 : Nat) : Int)) = (w.size : Int) - 1 from by omega] at h1
      have h3 : allI (wdP w) 1 (w.size - 1) = true := allI_of _ _ _ (fun j j1 j2 => by
        unfold wdP
        rw [hp j (by omega), Bool.true_or])
      rw [show bt w 0 = bt w ((0 : Nat) : Int) from rfl, h0, h1, h3];rfl
def partB (s : ByteArray) : Bool := decide (s.size = 0) || (((splitL [] s.data.toList).map ofL).all lowB && decide ((splitL [] s.data.toList).length ≤ 2))
theorem word_in (ws : List ByteArray) (i : Nat) (h : i < ws.length) : rdOf ByteArray.empty ws (i : Int) = ws[i] := by
  unfold rdOf;rw [Int.toNat_natCast, List.getD_eq_getElem?_getD, List.getElem?_eq_getElem h];rfl
theorem part_ls (ws : List ByteArray) (hl : ws.length ≤ 1048577) (hw : ∀ w ∈ ws, w.size ≤ 1048576) : ∀ (d i : Nat), i + d = ws.length → Ev (fun k => spec_l2Particle.l0 k ws (i : Int)) ((ws.drop i).all lowB && decide (ws.length ≤ 2))
  | 0, i, hi => by
    rw [List.drop_of_length_le (by omega)];refine Ev.step (f := fun _ => some (decide (ws.length ≤ 2))) (fun k => ?_) (Ev.congr (fun _ => by simp) (Ev.now _));simp only [spec_l2Particle.l0];rw [if_neg (by omega)];(congr 1);by_cases c : ws.length ≤ 2;(·rw [decide_eq_true c, decide_eq_true (by omega)]);(·rw [decide_eq_false c, decide_eq_false (by omega)])
  | d + 1, i, hi => by
    (have hlt : i < ws.length := by omega);have ih := part_ls ws hl hw d (i + 1) (by omega);have hz := hw _ (List.getElem_mem hlt);(have hn : wrap64 ((i : Int) + 1) = ((i + 1 : Nat) : Int) := by rw [wrap_small (by omega) (by omega)]; rfl);rw [List.drop_eq_getElem_cons hlt, List.all_cons, ← low_word, Bool.and_assoc, Bool.and_assoc]
    have lp := scan 0 ws[i].size (fun j => isLw (bt ws[i] (j : Int))) (fun k j => spec_l2Particle.l1 k ws (i : Int) j) ((ws.drop (i + 1)).all lowB && decide (ws.length ≤ 2)) (fun k j _ hj => by
      simp only [spec_l2Particle.l1, word_in ws i hlt, lw_s, Option.bind_some]
      rw [if_pos (by omega), if_pos (by omega), if_pos (by omega), if_pos (by omega), next_i j _ hj hz]) (Ev.step (fun k => by
      simp only [spec_l2Particle.l1, word_in ws i hlt, hn]
      rw [if_pos (by omega), if_pos (by omega), if_neg (by omega)]) ih) ws[i].size 0 (Nat.le_refl _) (by omega)
    refine Ev.step (f := fun k => (spec_l2Word.f k ws[i]).bind fun t133 => (if t133 = true then (spec_l2Particle.l1 k ws (i : Int) 0) else (some false))) (fun k => ?_) (Ev.bind (word_s ws[i] hz) ?_);(·simp only [spec_l2Particle.l0, word_in ws i hlt];rw [if_pos (by omega), if_pos (by omega)])
    · cases wordB ws[i] with
      | false => exact Ev.congr (fun _ => if_neg (by decide)) (Ev.now _)
      | true =>
        rw [Bool.true_and];exact Ev.congr (fun _ => if_pos rfl) lp
theorem part_li (ws : List ByteArray) (hl : ws.length ≤ 1048577) (hw : ∀ w ∈ ws, w.size ≤ 1048576) : ∀ (d i : Nat), i + d = ws.length → Ev (fun k => impl_isParticle.l0 k ws ws (ws.length : Int) (i : Int)) ((ws.drop i).all lowB && decide (ws.length ≤ 2))
  | 0, i, hi => by
    rw [List.drop_of_length_le (by omega)];refine Ev.step (f := fun _ => some (decide (ws.length ≤ 2))) (fun k => ?_) (Ev.congr (fun _ => by simp) (Ev.now _));simp only [impl_isParticle.l0];rw [if_neg (by omega)];(congr 1);by_cases c : ws.length ≤ 2;(·rw [decide_eq_true c, decide_eq_true (by omega)]);(·rw [decide_eq_false c, decide_eq_false (by omega)])
  | d + 1, i, hi => by
    (have hlt : i < ws.length := by omega);have ih := part_li ws hl hw d (i + 1) (by omega);have hz := hw _ (List.getElem_mem hlt);(have hn : wrap64 ((i : Int) + 1) = ((i + 1 : Nat) : Int) := by rw [wrap_small (by omega) (by omega)]; rfl);rw [List.drop_eq_getElem_cons hlt, List.all_cons];unfold lowB;rw [Bool.and_assoc, Bool.and_assoc]
    have lp := scan 0 ws[i].size (fun j => isLw (bt ws[i] (j : Int))) (fun k j => impl_isParticle.l1 k ws ws[i] j ws (ws.length : Int) (i : Int)) ((ws.drop (i + 1)).all lowB && decide (ws.length ≤ 2)) (fun k j _ hj => by
      simp only [impl_isParticle.l1, lw_i, Option.bind_some]
      rw [if_pos (by omega), if_pos (by omega), next_i j _ hj hz]) (Ev.step (fun k => by
      simp only [impl_isParticle.l1, hn]
      rw [if_neg (by omega)]) ih) ws[i].size 0 (Nat.le_refl _) (by omega)
    refine Ev.step (f := fun k => if inI (ws[i].size : Int) 1 12 = true then (impl_isParticle.l1 k ws ws[i] 0 ws (ws.length : Int) (i : Int)) else (some false)) (fun k => ?_) ?_;(·simp only [impl_isParticle.l0, word_in ws i hlt, in_i, Option.bind_some];rw [if_pos (by omega), if_pos (by omega), if_pos (by omega)])
    · cases inI (ws[i].size : Int) 1 12 with
      | false => exact Ev.congr (fun _ => if_neg (by decide)) (Ev.now _)
      | true =>
        rw [Bool.true_and];exact Ev.congr (fun _ => if_pos rfl) lp
theorem parts_ok (s : ByteArray) (hs : s.size ≤ 1048576) : ((splitL [] s.data.toList).map ofL).length ≤ 1048577 ∧ ∀ w ∈ (splitL [] s.data.toList).map ofL, w.size ≤ 1048576 := by
  have hl := data_length s;obtain ⟨h1, h2⟩ := split_len s.data.toList [];refine ⟨by rw [List.length_map]; omega, fun w hw => ?_⟩;obtain ⟨x, hx, rfl⟩ := List.mem_map.1 hw;rw [ofL_size];have := h2 x hx;simp at this;omega
theorem part_s (s : ByteArray) (hs : s.size ≤ 1048576) : Ev (fun k => spec_l2Particle.f k s) (partB s) := by
  unfold spec_l2Particle.f partB;by_cases z : s.size = 0;(·rw [decide_eq_true z];exact Ev.congr (fun _ => if_pos ((toList_nil s).2 z)) (Ev.now _));(·obtain ⟨h1, h2⟩ := parts_ok s hs;rw [decide_eq_false z, Bool.false_or];have := part_ls _ h1 h2 _ 0 (Nat.zero_add _);rw [List.drop_zero, List.length_map] at this;exact Ev.congr (fun _ => if_neg (fun e => z ((toList_nil s).1 e))) (Ev.bind (split_sp s hs) this))
theorem part_i (s : ByteArray) (hs : s.size ≤ 1048576) : Ev (fun k => impl_isParticle.f k s) (partB s) := by
  unfold impl_isParticle.f partB;by_cases z : s.size = 0;(·rw [decide_eq_true z];exact Ev.congr (fun _ => if_pos ((toList_nil s).2 z)) (Ev.now _));(·obtain ⟨h1, h2⟩ := parts_ok s hs;rw [decide_eq_false z, Bool.false_or, split_i s hs];have := part_li _ h1 h2 _ 0 (Nat.zero_add _);rw [List.drop_zero, List.length_map] at this;refine Ev.congr (fun _ => (if_neg (fun e => z ((toList_nil s).1 e))).trans (Option.bind_some _ _)) ?_;rw [List.length_map];exact this)
def sufB (s : ByteArray) : Bool := decide (s.size = 0) || wordB s
def nameB (n : Nm) : Bool := (n.f0.all greatB && decide (n.f0.length ≤ 3)) && (partB n.f1 && (greatB n.f2 && sufB n.f3))
structure NmOk (n : Nm) : Prop where
  l : n.f0.length ≤ 1048576
  g : ∀ w ∈ n.f0, w.size ≤ 1048576
  p : n.f1.size ≤ 1048576
  f : n.f2.size ≤ 1048576
  s : n.f3.size ≤ 1048576
theorem name_s (n : Nm) (h : NmOk n) : Ev (fun k => spec_l2Good.f k n.f0 n.f1 n.f2 n.f3) (nameB n) := by
  have fin : Ev (fun k => spec_l2Good.l0 k (n.f0.length : Int) n.f0 n.f1 n.f2 n.f3) (decide (n.f0.length ≤ 3) && (partB n.f1 && (greatB n.f2 && sufB n.f3))) := by
    refine Ev.step (f := fun k => if (n.f0.length : Int) ≤ 3 then ((spec_l2Particle.f k n.f1).bind fun t142 => (if t142 = true then ((spec_l2Word.f k n.f2).bind fun t143 => (if t143 = true then (if 0 < (n.f2.size : Int) then ((spec_l2Upper.f (bt n.f2 0)).bind fun t144 => (if t144 = true then (if n.f3.toList = ([] : List UInt8) then (some true) else ((spec_l2Word.f k n.f3).bind fun t145 => (some t145))) else (some false))) else (none)) else (some false))) else (some false))) else (some false)) (fun k => ?_) ?_;(·simp only [spec_l2Good.l0];rw [if_neg (by omega)])
    · by_cases c : n.f0.length ≤ 3
      · rw [decide_eq_true c, Bool.true_and]
        refine Ev.congr (fun _ => if_pos (by omega)) (Ev.bind (part_s n.f1 h.p) ?_)
        cases partB n.f1 with
        | false => exact Ev.congr (fun _ => if_neg (by decide)) (Ev.now _)
        | true =>
          rw [Bool.true_and];refine Ev.congr (fun _ => if_pos rfl) (Ev.bind (word_s n.f2 h.f) ?_);unfold greatB
          cases hw : wordB n.f2 with
          | false => exact Ev.congr (fun _ => if_neg (by decide)) (Ev.now _)
          | true =>
            have := word_pos _ hw;rw [Bool.true_and, up_s];refine Ev.congr (fun _ => (if_pos rfl).trans (if_pos (by omega))) ?_;simp only [Option.bind_some]
            cases isUp (bt n.f2 0) with
            | false => exact Ev.congr (fun _ => if_neg (by decide)) (Ev.now _)
            | true =>
              rw [Bool.true_and];unfold sufB;by_cases z : n.f3.size = 0;(·rw [decide_eq_true z];exact Ev.congr (fun _ => (if_pos rfl).trans (if_pos ((toList_nil _).2 z))) (Ev.now _));(·rw [decide_eq_false z, Bool.false_or];exact Ev.congr (fun _ => (if_pos rfl).trans (if_neg (fun e => z ((toList_nil _).1 e)))) (Ev.bind (word_s n.f3 h.s) (Ev.now _)))
      · rw [decide_eq_false c, Bool.false_and]
        exact Ev.congr (fun _ => if_neg (by omega)) (Ev.now _)
  have lp : ∀ (d i : Nat), i + d = n.f0.length → Ev (fun k => spec_l2Good.l0 k (i : Int) n.f0 n.f1 n.f2 n.f3) ((n.f0.drop i).all greatB && (decide (n.f0.length ≤ 3) && (partB n.f1 && (greatB n.f2 && sufB n.f3)))) := fun d => by
    induction d with
    | zero =>
      intro i hi;(obtain rfl : i = n.f0.length := by omega);rw [List.drop_of_length_le (Nat.le_refl _)];exact fin
    | succ d ih =>
      intro i hi;(have hlt : i < n.f0.length := by omega);have hz := h.g _ (List.getElem_mem hlt);have hl := h.l;rw [List.drop_eq_getElem_cons hlt, List.all_cons, Bool.and_assoc];refine Ev.step (f := fun k => (spec_l2Word.f k n.f0[i]).bind fun t139 => (if t139 = true then (if 0 < (n.f0[i].size : Int) then ((spec_l2Upper.f (bt n.f0[i] 0)).bind fun t141 => (if t141 = true then (spec_l2Good.l0 k ((i + 1 : Nat) : Int) n.f0 n.f1 n.f2 n.f3) else (some false))) else (none)) else (some false))) (fun k => ?_) (Ev.bind (word_s _ hz) ?_);(·simp only [spec_l2Good.l0, word_in n.f0 i hlt];rw [if_pos (by omega), if_pos (by omega), next_i i n.f0.length hlt hl])
      · unfold greatB
        cases hw : wordB n.f0[i] with
        | false => exact Ev.congr (fun _ => if_neg (by decide)) (Ev.now _)
        | true =>
          have := word_pos _ hw;rw [Bool.true_and, up_s];refine Ev.congr (fun _ => (if_pos rfl).trans (if_pos (by omega))) ?_;simp only [Option.bind_some]
          cases isUp (bt n.f0[i] 0) with
          | false => exact Ev.congr (fun _ => if_neg (by decide)) (Ev.now _)
          | true =>
            rw [Bool.true_and];exact Ev.congr (fun _ => if_pos rfl) (ih (i + 1) (by omega))
  have := lp n.f0.length 0 (by omega);rw [List.drop_zero] at this;unfold spec_l2Good.f nameB;rw [Bool.and_assoc];exact this
theorem ev_all {α : Type} (g : Nat → α → Option Bool) (v : α → Bool) : ∀ (l : List α), (∀ x ∈ l, Ev (fun k => g k x) (v x)) → ∃ K, ∀ k, K ≤ k → ∀ x ∈ l, g k x = some (v x)
  | [], _ => ⟨0, fun _ _ x hx => by cases hx⟩
  | a :: l, h => by
    obtain ⟨K1, h1⟩ := h a (by simp);obtain ⟨K2, h2⟩ := ev_all g v l (fun x hx => h x (List.mem_cons_of_mem _ hx));refine ⟨max K1 K2, fun k hk x hx => ?_⟩;(rcases List.mem_cons.1 hx with rfl | hx);(·exact h1 k (by omega));(·exact h2 k (by omega) x hx)
theorem name_i (n : Nm) (h : NmOk n) : Ev (fun k => impl_IsValidName.f k n.f0 n.f1 n.f2 n.f3) (nameB n) := by
  unfold impl_IsValidName.f nameB;have bad : Ev (fun k => impl_IsValidName.j0 k true n.f0 n.f1 n.f2 n.f3) false := Ev.step (f := fun _ => some false) (fun k => by simp only [impl_IsValidName.j0]; rw [if_pos trivial]) (Ev.now _);by_cases c : n.f0.length ≤ 3
  · rw [decide_eq_true c, Bool.and_true]
    have hc : Ev (fun k => slices_ContainsFunc_string_string.f k n.f0 ()) (!n.f0.all greatB) := by
      obtain ⟨K, hK⟩ := ev_all (fun k x => impl_IsValidName_1.f k x) (fun x => !greatB x) n.f0 (fun x hx => by
        unfold impl_IsValidName_1.f
        exact Ev.bind (great_i x (h.g x hx)) (Ev.now _))
      refine ⟨K, fun k hk => ?_⟩;have e := hK k hk
      show slices_ContainsFunc_string_string.f k n.f0 () = _
      unfold slices_ContainsFunc_string_string.f;rw [if_pos (List.all_eq_true.2 fun x hx => by rw [e x hx]; rfl)];(congr 1)
      have : ∀ l : List ByteArray, (∀ x ∈ l, impl_IsValidName_1.f k x = some (!greatB x)) → l.any (fun x => (impl_IsValidName_1.f k x).getD false) = !l.all greatB := fun l => by
        induction l with
        | nil => intro _; rfl
        | cons a l ih =>
          intro hx;rw [List.any_cons, List.all_cons, ih (fun x hm => hx x (List.mem_cons_of_mem _ hm)), hx a (by simp)]
          show (!greatB a || _) = _
          cases greatB a <;> rfl
      exact this n.f0 e
    refine Ev.congr (fun _ => if_neg (by omega)) (Ev.bind hc ?_)
    cases n.f0.all greatB with
    | false => exact bad
    | true =>
      rw [Bool.true_and];refine Ev.step (f := fun k => (impl_isParticle.f k n.f1).bind fun t312 => (if t312 = true then ((impl_isGreatWord.f k n.f2).bind fun t313 => (if t313 = true then (if n.f3.toList = ([] : List UInt8) then (some true) else ((impl_isNameWord.f k n.f3).bind fun t314 => (some t314))) else (some false))) else (some false))) (fun k => ?_) (Ev.bind (part_i n.f1 h.p) ?_);(·simp only [impl_IsValidName.j0];rw [if_neg (by decide)])
      · cases partB n.f1 with
        | false => exact Ev.congr (fun _ => if_neg (by decide)) (Ev.now _)
        | true =>
          rw [Bool.true_and];refine Ev.congr (fun _ => if_pos rfl) (Ev.bind (great_i n.f2 h.f) ?_)
          cases greatB n.f2 with
          | false => exact Ev.congr (fun _ => if_neg (by decide)) (Ev.now _)
          | true =>
            rw [Bool.true_and];unfold sufB;by_cases z : n.f3.size = 0;(·rw [decide_eq_true z];exact Ev.congr (fun _ => (if_pos rfl).trans (if_pos ((toList_nil _).2 z))) (Ev.now _));(·rw [decide_eq_false z, Bool.false_or];exact Ev.congr (fun _ => (if_pos rfl).trans (if_neg (fun e => z ((toList_nil _).1 e)))) (Ev.bind (word_i n.f3 h.s) (Ev.now _)))
  · rw [decide_eq_false c, Bool.and_false, Bool.false_and]
    exact Ev.congr (fun _ => if_pos (by omega)) bad
def namesB (l : List Nm) : Bool := l.all nameB && decide (l.length ≤ 4)
structure NsOk (L : List Nm) : Prop where
  l : L.length ≤ 1048576
  n : ∀ x ∈ L, NmOk x
theorem rdN (l : List Nm) (i : Nat) (h : i < l.length) : rd_T82 l (i : Int) = l[i] := by
  unfold rd_T82;rw [Int.toNat_natCast, List.getD_eq_getElem?_getD, List.getElem?_eq_getElem h];rfl
theorem names_s (l : List Nm) (h : NsOk l) : Ev (fun k => spec_l2List.f k l) (namesB l) := by
  have hl := h.l
  have stop : ∀ i : Nat, (i = l.length ∨ i = 5) → i ≤ l.length → Ev (fun k => spec_l2List.l0 k l (i : Int)) (decide (l.length ≤ 4)) := fun i hi hle => by
    refine Ev.step (f := fun k => spec_l2List.j1 k l (i : Int) false) (fun k => ?_) (Ev.step (f := fun _ => some (decide ((l.length : Int) ≤ 4))) (fun k => ?_) (Ev.congr (fun _ => ?_) (Ev.now _)));(·simp only [spec_l2List.l0];by_cases c : i < l.length;(·rw [if_pos (by omega), decide_eq_false (by omega)]);(·rw [if_neg (by omega)]));(·simp only [spec_l2List.j1];rw [if_neg (by decide)]);(·(congr 1);by_cases c : l.length ≤ 4;(·rw [decide_eq_true c, decide_eq_true (by omega)]);(·rw [decide_eq_false c, decide_eq_false (by omega)]))
  have lp : ∀ (d i : Nat), i + d = min l.length 5 → Ev (fun k => spec_l2List.l0 k l (i : Int)) (((l.drop i).take d).all nameB && decide (l.length ≤ 4)) := fun d => by
    induction d with
    | zero =>
      intro i hi;rw [List.take_zero];exact stop i (by omega) (by omega)
    | succ d ih =>
      intro i hi;(have hlt : i < l.length := by omega);rw [List.drop_eq_getElem_cons hlt, List.take_succ_cons, List.all_cons, Bool.and_assoc];refine Ev.step (f := fun k => spec_l2List.j1 k l (i : Int) true) (fun k => ?_) (Ev.step (f := fun k => (spec_l2Good.f k l[i].f0 l[i].f1 l[i].f2 l[i].f3).bind fun t147 => (if t147 = true then (spec_l2List.l0 k l ((i + 1 : Nat) : Int)) else (some false))) (fun k => ?_) (Ev.bind (name_s l[i] (h.n _ (List.getElem_mem hlt))) ?_));(·simp only [spec_l2List.l0];rw [if_pos (by omega), decide_eq_true (by omega)]);(·simp only [spec_l2List.j1, rdN l i hlt];rw [if_pos trivial, if_pos (by omega), if_pos (by omega), next_i i l.length hlt hl])
      · cases nameB l[i] with
        | false => exact Ev.congr (fun _ => if_neg (by decide)) (Ev.now _)
        | true =>
          rw [Bool.true_and];exact Ev.congr (fun _ => if_pos rfl) (ih (i + 1) (by omega))
  have := lp (min l.length 5) 0 (by omega);rw [List.drop_zero] at this;unfold spec_l2List.f namesB;by_cases c : l.length ≤ 4;(·rw [Nat.min_eq_left (by omega), List.take_of_length_le (Nat.le_refl _)] at this;exact this);(·rw [decide_eq_false c, Bool.and_false] at this ⊢;exact this)
theorem names_i (l : List Nm) (h : NsOk l) : Ev (fun k => impl_areNames.f k l) (namesB l) := by
  have hl := h.l;unfold impl_areNames.f namesB;by_cases c : l.length ≤ 4
  · rw [decide_eq_true c, Bool.and_true]
    have lp : ∀ (d i : Nat), i + d = l.length → ∃ r : Int, Ev (fun k => impl_Name_127.l0 k l (l.length : Int) (i : Int)) r ∧ decide (r ≥ 0) = !(l.drop i).all nameB := fun d => by
      induction d with
      | zero =>
        intro i hi;refine ⟨-1, Ev.step (f := fun _ => some (-1)) (fun k => ?_) (Ev.now _), ?_⟩;(·simp only [impl_Name_127.l0];rw [if_neg (by omega)]);(·(rw [List.drop_of_length_le (by omega)]; rfl))
      | succ d ih =>
        intro i hi;(have hlt : i < l.length := by omega);obtain ⟨r, e, hr⟩ := ih (i + 1) (by omega)
        have hc : Ev (fun k => impl_areNames_1.f k l[i].f0 l[i].f1 l[i].f2 l[i].f3) (!nameB l[i]) := by
          unfold impl_areNames_1.f;exact Ev.bind (name_i l[i] (h.n _ (List.getElem_mem hlt))) (Ev.now _)
        rw [List.drop_eq_getElem_cons hlt, List.all_cons]
        have st : ∀ R : Int, Ev (fun k => if (!nameB l[i]) = true then (some (i : Int)) else (impl_Name_127.l0 k l (l.length : Int) ((i + 1 : Nat) : Int))) R → Ev (fun k => impl_Name_127.l0 k l (l.length : Int) (i : Int)) R := fun R hR => by
          refine Ev.step (f := fun k => (impl_areNames_1.f k l[i].f0 l[i].f1 l[i].f2 l[i].f3).bind fun t318 => (if t318 = true then (some (i : Int)) else (impl_Name_127.l0 k l (l.length : Int) ((i + 1 : Nat) : Int)))) (fun k => ?_) (Ev.bind hc hR);simp only [impl_Name_127.l0, rdN l i hlt];rw [if_pos (by omega), if_pos (by omega), if_pos (by omega), next_i i l.length hlt hl]
        cases hv : nameB l[i] with
        | false =>
          rw [hv] at st;exact ⟨(i : Int), st _ (Ev.congr (fun _ => if_pos rfl) (Ev.now _)), by rw [decide_eq_true (by omega)]; rfl⟩
        | true =>
          rw [hv] at st;exact ⟨r, st _ (Ev.congr (fun _ => if_neg (by decide)) e), by rw [hr, Bool.true_and]⟩
    obtain ⟨r, e, hr⟩ := lp l.length 0 (by omega);rw [List.drop_zero] at hr;refine Ev.congr (fun _ => if_pos (by omega)) ?_
    have e2 : Ev (fun k => impl_Name_108.f k l ()) (!l.all nameB) := by
      rw [← hr];exact Ev.bind (a := r) e (Ev.now _)
    refine Ev.bind e2 ?_;rw [Bool.not_not];exact Ev.now _
  · rw [decide_eq_false c, Bool.and_false]
    exact Ev.congr (fun _ => if_neg (by omega)) (Ev.now _)

end Go.Proofs.YthbcfjcmkngieaaGreatDoor.Pure
