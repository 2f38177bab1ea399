/- Lemmas on the printed functions, without Go and memory. -/
import Derived.Test.YthbcfjcmkngieaaGreatDoorPx2
import Derived.Test.YthbcfjcmkngieaaGreatDoorPx4
import Derived.Test.YthbcfjcmkngieaaGreatDoorQEntC
namespace Go.Proofs.YthbcfjcmkngieaaGreatDoor.Pure
open Go.RowKit Go.Proofs.YthbcfjcmkngieaaGreatDoor.Px Go.Proofs.YthbcfjcmkngieaaGreatDoorW.PrintWords Go.Proofs.YthbcfjcmkngieaaGreatDoorW.PrintLast
set_option linter.unusedVariables false
set_option linter.unusedSimpArgs false

def lowV (s : ByteArray) : ByteArray := strOfNums ((bytesOf s).map impl_lower.low)
theorem low_i (s : ByteArray) (h : s.size ≤ 140737488351232) : impl_lower.f s = some (lowV s) := by unfold impl_lower.f; rw [if_pos h]; rfl
theorem low_s (s : ByteArray) (h : s.size ≤ 140737488351232) : spec_l2Low.f s = some (lowV s) := by unfold spec_l2Low.f; rw [if_pos h]; rfl
def cb (a b : ByteArray) : Int := Lib.compareBytes a.data.toList b.data.toList
theorem cmp_i (a b : ByteArray) : strings_Compare.f a b = some (cb a b) := rfl
theorem cmp_s (a b : ByteArray) : spec_l2Text.f a b = some (cb a b) := rfl
def jn (acc p : List UInt8) : List UInt8 := if acc = [] ∨ p = [] then acc ++ p else (acc ++ [32]) ++ p
def neB (p : List UInt8) : Bool := !(p == [])
theorem join_cons1 (x : List UInt8) (l : List (List UInt8)) : Lib.join (x :: l) [32] = if l = [] then x else x ++ (32 :: Lib.join l [32]) := by
  cases l with
  | nil => rw [if_pos rfl, Lib.join_one]
  | cons y l => rw [if_neg (by simp), Lib.join_cons, Lib.join_cons]; simp [Lib.joinTail]
theorem jn_fold : ∀ (ps : List (List UInt8)) (acc : List UInt8), ps.foldl jn acc = if acc = [] then Lib.join (ps.filter neB) [32] else if ps.filter neB = [] then acc else acc ++ (32 :: Lib.join (ps.filter neB) [32])
  | [], acc => by
    by_cases c : acc = [];(·(rw [if_pos c, c]; rfl));(·(rw [if_neg c, List.filter_nil, List.foldl_nil]; exact (if_pos rfl).symm))
  | p :: ps, acc => by
    rw [List.foldl_cons, List.filter_cons];by_cases hp : p = []
    · have hn : neB p = false := by rw [hp]; rfl
      have e : jn acc p = acc := by
        unfold jn;rw [if_pos (Or.inr hp), hp, List.append_nil]
      rw [e, hn, jn_fold ps acc];rfl
    · have hn : neB p = true := by
        unfold neB;rw [beq_eq_false_iff_ne.2 hp];rfl
      rw [hn, if_pos rfl];by_cases ha : acc = []
      · have e : jn acc p = p := by
          unfold jn;rw [if_pos (Or.inl ha), ha, List.nil_append]
        rw [e, jn_fold ps p, if_neg hp, if_pos ha, join_cons1]
      · have e : jn acc p = (acc ++ [32]) ++ p := by
          unfold jn;exact if_neg (fun h => h.elim ha hp)
        rw [e, jn_fold ps _, if_neg (by simp), if_neg ha, if_neg (List.cons_ne_nil _ _), join_cons1];by_cases hf : ps.filter neB = [];(·(rw [if_pos hf, if_pos hf]; simp));(·(rw [if_neg hf, if_neg hf]; simp))
def JV (ps : List ByteArray) : ByteArray := ofL ((ps.map (·.data.toList)).foldl jn [])
theorem jn_len (acc p : List UInt8) : (jn acc p).length ≤ acc.length + p.length + 1 := by
  unfold jn;(split <;> simp <;> omega)
theorem JV_size (M : Nat) : ∀ (ps : List ByteArray) (acc : List UInt8), (∀ p ∈ ps, p.size ≤ M) → ((ps.map (·.data.toList)).foldl jn acc).length ≤ acc.length + (M + 1) * ps.length
  | [], acc, _ => by simp
  | p :: ps, acc, h => by
    have ih := JV_size M ps (jn acc p.data.toList) (fun x hx => h x (List.mem_cons_of_mem _ hx));have hj := jn_len acc p.data.toList;have hp := h p (by simp);have hl := data_length p;rw [List.map_cons, List.foldl_cons, List.length_cons, Nat.mul_add];omega
theorem JV_le (M : Nat) (ps : List ByteArray) (h : ∀ p ∈ ps, p.size ≤ M) : (JV ps).size ≤ (M + 1) * ps.length := by
  unfold JV;rw [ofL_size];have := JV_size M ps [] h;(simpa using this)
theorem ba_ext (a b : ByteArray) (h : a.data.toList = b.data.toList) : a = b := ByteArray.ext (Array.toList_inj.1 h)
theorem app_data (a b : ByteArray) : (a ++ b).data.toList = a.data.toList ++ b.data.toList := by rw [ByteArray.data_append, Array.toList_append]
theorem toL_nil (s : ByteArray) : s.toList = ([] : List UInt8) ↔ s.data.toList = [] := by rw [Lib.toList_data]
theorem join_ls (ps : List ByteArray) (hl : ps.length ≤ 1000) (hs : ∀ p ∈ ps, p.size ≤ 1099511627776) : ∀ (d i : Nat) (acc : ByteArray), i + d = ps.length → acc.size ≤ 1099511627777 * i →
    Ev (fun k => spec_l2Join.l0 k ps acc (i : Int)) (ofL (((ps.drop i).map (·.data.toList)).foldl jn acc.data.toList))
  | 0, i, acc, hi, ha => by
    rw [List.drop_of_length_le (by omega)]
    refine Ev.step (f := fun _ => some acc) (fun k => ?_) (Ev.congr (fun _ => ?_) (Ev.now _))
    · simp only [spec_l2Join.l0]
      rw [if_neg (by omega)]
    · rw [List.map_nil, List.foldl_nil, ofL_data]
  | d + 1, i, acc, hi, ha => by
    have hlt : i < ps.length := by omega
    have hp := hs _ (List.getElem_mem hlt)
    have hn : wrap64 ((i : Int) + 1) = ((i + 1 : Nat) : Int) := by rw [wrap_small (by omega) (by omega)]; rfl
    rw [List.drop_eq_getElem_cons hlt, List.map_cons, List.foldl_cons]
    have hz1 : (acc ++ (⟨#[32]⟩ : ByteArray)).size = acc.size + 1 := by rw [ByteArray.size_append]; rfl
    by_cases c1 : acc.data.toList = []
    · have ih := join_ls ps hl hs d (i + 1) (acc ++ ps[i]) (by omega) (by rw [ByteArray.size_append]; omega)
      rw [app_data] at ih
      rw [show jn acc.data.toList ps[i].data.toList = acc.data.toList ++ ps[i].data.toList from if_pos (.inl c1)]
      refine Ev.step (fun k => ?_) ih
      simp only [spec_l2Join.l0, word_in ps i hlt, hn]
      rw [if_pos (by omega), if_pos ((toL_nil _).2 c1), if_pos (by omega), if_pos (by omega)]
    · by_cases c2 : ps[i].data.toList = []
      · have ih := join_ls ps hl hs d (i + 1) (acc ++ ps[i]) (by omega) (by rw [ByteArray.size_append]; omega)
        rw [app_data] at ih
        rw [show jn acc.data.toList ps[i].data.toList = acc.data.toList ++ ps[i].data.toList from if_pos (.inr c2)]
        refine Ev.step (fun k => ?_) ih
        simp only [spec_l2Join.l0, word_in ps i hlt, hn]
        rw [if_pos (by omega), if_neg (fun e => c1 ((toL_nil _).1 e)), if_pos (by omega), if_pos ((toL_nil _).2 c2), if_pos (by omega)]
      · have ih := join_ls ps hl hs d (i + 1) ((acc ++ (⟨#[32]⟩ : ByteArray)) ++ ps[i]) (by omega) (by rw [ByteArray.size_append, hz1]; omega)
        rw [app_data, app_data] at ih
        rw [show jn acc.data.toList ps[i].data.toList = (acc.data.toList ++ [32]) ++ ps[i].data.toList from if_neg (by rintro (h | h); exact c1 h; exact c2 h)]
        refine Ev.step (fun k => ?_) ih
        simp only [spec_l2Join.l0, word_in ps i hlt, hn]
        rw [if_pos (by omega), if_neg (fun e => c1 ((toL_nil _).1 e)), if_pos (by omega), if_neg (fun e => c2 ((toL_nil _).1 e)), if_pos (by omega), if_pos (by omega)]
theorem join_s (ps : List ByteArray) (hl : ps.length ≤ 1000) (hs : ∀ p ∈ ps, p.size ≤ 1099511627776) : Ev (fun k => spec_l2Join.f k ps) (JV ps) := by
  have := join_ls ps hl hs ps.length 0 (⟨#[]⟩ : ByteArray) (by omega) (by decide);rw [List.drop_zero] at this;exact this
theorem join_i (ps : List ByteArray) (hl : ps.length ≤ 1000) (hs : ∀ p ∈ ps, p.size ≤ 134217728) (hne : ∀ p ∈ ps, 1 ≤ p.size) : strings_Join.f ps (⟨#[32]⟩ : ByteArray) = some (JV ps) := by
  have hf : (ps.map (·.data.toList)).filter neB = ps.map (·.data.toList) := by
    rw [List.filter_eq_self];intro x hx;obtain ⟨p, hp, rfl⟩ := List.mem_map.1 hx;have := hne p hp;unfold neB;rw [beq_eq_false_iff_ne.2 (fun e => by have h := congrArg List.length e; rw [data_length] at h; have h2 : p.size = 0 := h; omega)];rfl
  have e : JV ps = ofL (Lib.join (ps.map (·.data.toList)) [32]) := by
    unfold JV;rw [jn_fold, if_pos rfl, hf]
  have hz := JV_le 134217728 ps hs;unfold strings_Join.f
  have hlen : (Lib.join (ps.map (·.data.toList)) (⟨#[32]⟩ : ByteArray).data.toList).length ≤ 140737488355328 := by
    have : (JV ps).size = (Lib.join (ps.map (·.data.toList)) [32]).length := by rw [e, ofL_size]
    show (Lib.join (ps.map (·.data.toList)) [32]).length ≤ _
    rw [← this];have : (134217728 + 1) * ps.length ≤ (134217728 + 1) * 1000 := Nat.mul_le_mul_left _ hl;omega
  rw [if_pos ⟨hlen, by omega⟩, e];rfl
theorem spaced_i (ps : List ByteArray) (hl : ps.length ≤ 1000) (h0 : ps ≠ []) (hs : ∀ p ∈ ps, p.size ≤ 134217728) : impl_spaced.f ps = some (JV ps) := by
  have hemp : ∀ x : ByteArray, (!impl_spaced.emp x) = neB x.data.toList := fun x => by
    unfold impl_spaced.emp neB;rw [Lib.toList_data]
  have hm : ((ps.filter fun x => !impl_spaced.emp x).map (·.data.toList)) = (ps.map (·.data.toList)).filter neB := by
    rw [List.filter_map];(congr 1);exact List.filter_congr (fun x _ => hemp x)
  have e : JV ps = JV (ps.filter fun x => !impl_spaced.emp x) := by
    unfold JV;rw [jn_fold, jn_fold, if_pos rfl, if_pos rfl, hm, List.filter_filter];(congr 2);exact List.filter_congr (fun x _ => by cases neB x <;> rfl)
  unfold impl_spaced.f
  rw [if_pos ⟨h0, by omega⟩, join_i _ (Nat.le_trans (List.length_filter_le _ _) hl) (fun p hp => hs p (List.mem_filter.1 hp).1) (fun p hp => by
    have h := (List.mem_filter.1 hp).2;rw [hemp] at h;unfold neB at h;have hl := data_length p;by_cases z : p.data.toList = [];(·(rw [z] at h; cases h))
    · have := List.length_pos_iff.2 z
      omega), ← e]
structure NmV (n : Nm) : Prop where
  gl : n.f0.length ≤ 3
  g : ∀ w ∈ n.f0, 1 ≤ w.size ∧ w.size ≤ 12
  p : partB n.f1 = true
  p1 : n.f1.size ≤ 1048576
  f : 1 ≤ n.f2.size ∧ n.f2.size ≤ 12
  s : n.f3.size ≤ 12
theorem nm_v (n : Nm) (o : NmOk n) (h : nameB n = true) : NmV n := by
  unfold nameB at h;simp only [Bool.and_eq_true, decide_eq_true_eq] at h;obtain ⟨⟨h1, h2⟩, h3, h4, h5⟩ := h
  have gr : ∀ w, greatB w = true → 1 ≤ w.size ∧ w.size ≤ 12 := fun w hw => by
    unfold greatB at hw;rw [Bool.and_eq_true] at hw;exact word_pos w hw.1
  refine ⟨h2, fun w hw => gr w (List.all_eq_true.1 h1 w hw), h3, o.p, gr _ h4, ?_⟩;unfold sufB at h5;(rcases Bool.or_eq_true_iff.1 h5 with h | h);(·(have := of_decide_eq_true h; omega));(·exact (word_pos _ h).2)
def fullV (n : Nm) : ByteArray := JV [JV n.f0, n.f1, n.f2, n.f3]
theorem given_le (n : Nm) (v : NmV n) : (JV n.f0).size ≤ 39 := by
  have := JV_le 12 n.f0 (fun p hp => (v.g p hp).2);have := Nat.mul_le_mul_left 13 v.gl;omega
theorem full_mem (n : Nm) (v : NmV n) : ∀ p ∈ [JV n.f0, n.f1, n.f2, n.f3], p.size ≤ 134217728 := fun p hp => by
  have h0 := given_le n v
  have h1 := v.p1
  have h2 := v.f
  have h3 := v.s
  simp only [List.mem_cons, List.not_mem_nil, or_false] at hp
  rcases hp with rfl | rfl | rfl | rfl <;> omega
theorem full_le (n : Nm) (v : NmV n) : (fullV n).size ≤ 536870916 := JV_le 134217728 _ (full_mem n v)
theorem given_s (n : Nm) (v : NmV n) : Ev (fun k => spec_l2Given.f k n.f0 n.f1 n.f2 n.f3) (JV n.f0) := by
  have := v.gl;unfold spec_l2Given.f;exact Ev.bind (join_s n.f0 (by omega) (fun p hp => by have := (v.g p hp).2; omega)) (Ev.now _)
theorem given_i (n : Nm) (v : NmV n) : strings_Join.f n.f0 (⟨#[32]⟩ : ByteArray) = some (JV n.f0) := by
  have := v.gl;exact join_i n.f0 (by omega) (fun p hp => by have := (v.g p hp).2; omega) (fun p hp => (v.g p hp).1)
theorem full_s (n : Nm) (v : NmV n) : Ev (fun k => spec_l2Full.f k n.f0 n.f1 n.f2 n.f3) (fullV n) := by
  unfold spec_l2Full.f;exact Ev.bind (given_s n v) (Ev.bind (join_s _ (by simp) (fun p hp => Nat.le_trans (full_mem n v p hp) (by omega))) (Ev.now _))
theorem full_i (n : Nm) (v : NmV n) : impl_fullForm.f n.f0 n.f1 n.f2 n.f3 = some (fullV n) := by
  unfold impl_fullForm.f;rw [given_i n v, Option.bind_some, spaced_i _ (by simp) (by simp) (full_mem n v), Option.bind_some];rfl
abbrev cms : ByteArray := ⟨#[44, 32]⟩
def invT (J g s : ByteArray) : ByteArray := if s.size = 0 then (J ++ cms) ++ g else (((J ++ cms) ++ g) ++ cms) ++ s
def invV (n : Nm) : ByteArray := if 0 < n.f0.length ∨ n.f3.size ≠ 0 then invT (JV [n.f1, n.f2]) (JV n.f0) n.f3 else JV [n.f1, n.f2]
theorem inv_mem (n : Nm) (v : NmV n) : ∀ p ∈ [n.f1, n.f2], p.size ≤ 1048576 := fun p hp => by
  have h1 := v.p1
  have h2 := v.f
  simp only [List.mem_cons, List.not_mem_nil, or_false] at hp
  rcases hp with rfl | rfl <;> omega
theorem inv_b (n : Nm) (v : NmV n) : (JV [n.f1, n.f2]).size ≤ 2097154 := JV_le 1048576 _ (inv_mem n v)
theorem cms_z : cms.size = 2 := rfl
theorem ba_assoc (a b c : ByteArray) : (a ++ b) ++ c = a ++ (b ++ c) := ba_ext _ _ (by simp only [app_data, List.append_assoc])
theorem invT_s (n : Nm) (v : NmV n) (J : ByteArray) (hJ : J.size ≤ 2097154) : Ev (fun k => spec_l2Inverse.j0 k J true n.f0 n.f1 n.f2 n.f3) (invT J (JV n.f0) n.f3) := by
  have h0 := given_le n v;have h3 := v.s;have hz := cms_z;(have z1 : (J ++ cms).size = J.size + 2 := by rw [ByteArray.size_append, hz]);(have z2 : ((J ++ cms) ++ JV n.f0).size = J.size + 2 + (JV n.f0).size := by rw [ByteArray.size_append, z1]);(have z3 : (((J ++ cms) ++ JV n.f0) ++ cms).size = J.size + 2 + (JV n.f0).size + 2 := by rw [ByteArray.size_append, z2, hz]);refine Ev.step (f := fun k => (spec_l2Given.f k n.f0 n.f1 n.f2 n.f3).bind fun t182 => (if (J ++ cms).size + t182.size ≤ 9223372036854775807 then (if n.f3.toList = ([] : List UInt8) then (some ((J ++ cms) ++ t182)) else (if ((J ++ cms) ++ t182).size + 2 ≤ 9223372036854775807 then (if (((J ++ cms) ++ t182) ++ cms).size + n.f3.size ≤ 9223372036854775807 then (some ((((J ++ cms) ++ t182) ++ cms) ++ n.f3)) else (none)) else (none))) else (none))) (fun k => ?_) (Ev.bind (given_s n v) ?_);(·simp only [spec_l2Inverse.j0];rw [if_pos trivial, if_pos (by omega)]);(·unfold invT;by_cases c : n.f3.size = 0;(·rw [if_pos c];exact Ev.congr (fun _ => (if_pos (by omega)).trans (if_pos ((toList_nil _).2 c))) (Ev.now _));(·rw [if_neg c];exact Ev.congr (fun _ => (if_pos (by omega)).trans ((if_neg (fun e => c ((toList_nil _).1 e))).trans ((if_pos (by omega)).trans (if_pos (by omega))))) (Ev.now _)))
theorem invT_i (n : Nm) (v : NmV n) (J : ByteArray) (hJ : J.size ≤ 2097154) : Ev (fun k => impl_inverseForm.j0 k J true n.f0 n.f1 n.f2 n.f3) (invT J (JV n.f0) n.f3) := by
  have h0 := given_le n v;have h3 := v.s;have hz := cms_z;(have z0 : (cms ++ JV n.f0).size = 2 + (JV n.f0).size := by rw [ByteArray.size_append, hz]);(have z1 : (J ++ (cms ++ JV n.f0)).size = J.size + (2 + (JV n.f0).size) := by rw [ByteArray.size_append, z0]);(have z2 : (cms ++ n.f3).size = 2 + n.f3.size := by rw [ByteArray.size_append, hz]);refine Ev.step (f := fun _ => some (invT J (JV n.f0) n.f3)) (fun k => ?_) (Ev.now _);simp only [impl_inverseForm.j0];rw [if_pos trivial, given_i n v, Option.bind_some, if_pos (show 2 + (JV n.f0).size ≤ 9223372036854775807 from by omega), if_pos (show J.size + (cms ++ JV n.f0).size ≤ 9223372036854775807 from by omega)];unfold invT;by_cases c : n.f3.size = 0;(·rw [if_pos ((toList_nil _).2 c), if_pos c, ba_assoc]);(·rw [if_neg (fun e => c ((toList_nil _).1 e)), if_neg c, if_pos (show 2 + n.f3.size ≤ 9223372036854775807 from by omega), if_pos (show (J ++ (cms ++ JV n.f0)).size + (cms ++ n.f3).size ≤ 9223372036854775807 from by omega), ba_assoc _ cms n.f3, ba_assoc J cms])
theorem ne_dec (s : ByteArray) : (s.toList != ([] : List UInt8)) = decide (s.size ≠ 0) := by
  by_cases c : s.size = 0;(·(rw [(toList_nil s).2 c, decide_eq_false (fun h => h c)]; rfl));(·rw [bne_iff_ne.2 (fun e => c ((toList_nil s).1 e)), decide_eq_true c])
theorem inv_s (n : Nm) (v : NmV n) : Ev (fun k => spec_l2Inverse.f k n.f0 n.f1 n.f2 n.f3) (invV n) := by
  have h1 := inv_b n v;unfold spec_l2Inverse.f;refine Ev.bind (join_s [n.f1, n.f2] (by simp) (fun p hp => Nat.le_trans (inv_mem n v p hp) (by omega))) ?_;have T := invT_s n v _ h1;unfold invV;by_cases c : 0 < n.f0.length;(·rw [if_pos (.inl c)];exact Ev.congr (fun _ => if_pos (by omega)) T);(·refine Ev.congr (fun _ => if_neg (by omega)) ?_;rw [ne_dec];by_cases d : n.f3.size = 0;(·rw [if_neg (by rintro (h | h); exact c h; exact h d), decide_eq_false (fun h => h d)];refine Ev.step (f := fun _ => some (JV [n.f1, n.f2])) (fun k => ?_) (Ev.now _);simp only [spec_l2Inverse.j0];rw [if_neg (by decide), if_pos ((toList_nil _).2 d)]);(·rw [if_pos (.inr d), decide_eq_true d];exact T))
theorem inv_i (n : Nm) (v : NmV n) : Ev (fun k => impl_inverseForm.f k n.f0 n.f1 n.f2 n.f3) (invV n) := by
  have h1 := inv_b n v;unfold impl_inverseForm.f;rw [spaced_i [n.f1, n.f2] (by simp) (by simp) (fun p hp => Nat.le_trans (inv_mem n v p hp) (by omega))];simp only [Option.bind_some];have T := invT_i n v _ h1;unfold invV;by_cases c : 0 < n.f0.length;(·rw [if_pos (.inl c)];exact Ev.congr (fun _ => if_pos (by omega)) T);(·refine Ev.congr (fun _ => if_neg (by omega)) ?_;rw [ne_dec];by_cases d : n.f3.size = 0;(·rw [if_neg (by rintro (h | h); exact c h; exact h d), decide_eq_false (fun h => h d)];refine Ev.step (f := fun _ => some (JV [n.f1, n.f2])) (fun k => ?_) (Ev.now _);simp only [impl_inverseForm.j0];rw [if_neg (by decide), if_pos ((toList_nil _).2 d)]);(·rw [if_pos (.inr d), decide_eq_true d];exact T))
end Go.Proofs.YthbcfjcmkngieaaGreatDoor.Pure
