/- Lemmas on the printed functions, without Go and memory. -/
import Derived.Test.YtiaelacjjbdolaaGreatDoorPx1
import Derived.Test.YtiaelacjjbdolaaGreatDoorPx2
import Derived.Test.YtiaelacjjbdolaaGreatDoorPx4
import Derived.Test.YtiaelacjjbdolaaGreatDoorQEntC
namespace Go.Proofs.YtiaelacjjbdolaaGreatDoor.Pure
open Go.RowKit Go.Proofs.YtiaelacjjbdolaaGreatDoor.Px Go.Proofs.YtiaelacjjbdolaaGreatDoorW.PrintWords Go.Proofs.YtiaelacjjbdolaaGreatDoorW.PrintLast
set_option linter.unusedVariables false
set_option linter.unusedSimpArgs false

def gn (s : ByteArray) : ByteArray := strOfNums ((aQ s).map ag.low)
theorem jr (s : ByteArray) (h : s.size <= 140737488351232) : ag.f s = some (gn s) := by unfold ag.f; rw [if_pos h]; rfl
theorem k7 (s : ByteArray) (h : s.size <= 140737488351232) : aj.f s = some (gn s) := by unfold aj.f; rw [if_pos h]; rfl
def cb (a b : ByteArray) : Int := Lib.compareBytes a.data.toList b.data.toList
theorem mD (a b : ByteArray) : bO.f a b = some (cb a b) := rfl
theorem cmp_s (a b : ByteArray) : cO.f a b = some (cb a b) := rfl
def jn (acc p : List UInt8) : List UInt8 := if acc = [] \/ p = [] then acc ++ p else (acc ++ [32]) ++ p
def neB (p : List UInt8) : Bool := !(p == [])
theorem je (x : List UInt8) (l : List (List UInt8)) : Lib.join (x :: l) [32] = if l = [] then x else x ++ (32 :: Lib.join l [32]) := by
  cases l with
  | nil => rw [if_pos rfl, Lib.join_one]
  | cons y l => rw [if_neg (by simp), Lib.join_cons, Lib.join_cons]; simp [Lib.joinTail]
theorem gE : ∀ (ps : List (List UInt8)) (acc : List UInt8), ps.foldl jn acc = if acc = [] then Lib.join (ps.filter neB) [32] else if ps.filter neB = [] then acc else acc ++ (32 :: Lib.join (ps.filter neB) [32])
  | [], acc => by
    by_cases c : acc = [];(·(rw [if_pos c, c]; rfl));(·(rw [if_neg c, List.filter_nil, List.foldl_nil]; exact (if_pos rfl).symm))
  | p :: ps, acc => by
    rw [List.foldl_cons, List.filter_cons];by_cases hp : p = []
    · have hn : neB p = false := by rw [hp]; rfl
      have e : jn acc p = acc := by
        unfold jn;rw [if_pos (Or.inr hp), hp, List.append_nil]
      rw [e, hn, gE ps acc];rfl
    · have hn : neB p = true := by
        unfold neB;rw [beq_eq_false_iff_ne.2 hp];rfl
      rw [hn, if_pos rfl];by_cases ha : acc = []
      · have e : jn acc p = p := by
          unfold jn;rw [if_pos (Or.inl ha), ha, List.nil_append]
        rw [e, gE ps p, if_neg hp, if_pos ha, je]
      · have e : jn acc p = (acc ++ [32]) ++ p := by
          unfold jn;exact if_neg (fun h => h.elim ha hp)
        rw [e, gE ps _, if_neg (by simp), if_neg ha, if_neg (List.cons_ne_nil _ _), je];by_cases hf : ps.filter neB = [];(·(rw [if_pos hf, if_pos hf]; simp));(·(rw [if_neg hf, if_neg hf]; simp))
def JV (ps : List ByteArray) : ByteArray := ofL ((ps.map (·.data.toList)).foldl jn [])
theorem jn_len (acc p : List UInt8) : (jn acc p).length <= acc.length + p.length + 1 := by
  unfold jn;(split <;> simp <;> omega)
theorem ls (M : Nat) : ∀ (ps : List ByteArray) (acc : List UInt8), (∀ p ∈ ps, p.size <= M) -> ((ps.map (·.data.toList)).foldl jn acc).length <= acc.length + (M + 1) * ps.length
  | [], acc, _ => by simp
  | p :: ps, acc, h => by
    have ih := ls M ps (jn acc p.data.toList) (fun x hx => h x (List.mem_cons_of_mem _ hx));have hj := jn_len acc p.data.toList;have hp := h p (by simp);have hl := cQ p;rw [List.map_cons, List.foldl_cons, List.length_cons, Nat.mul_add];omega
theorem kT (M : Nat) (ps : List ByteArray) (h : ∀ p ∈ ps, p.size <= M) : (JV ps).size <= (M + 1) * ps.length := by
  unfold JV;rw [ik];have := ls M ps [] h;(simpa using this)
theorem nv (a b : ByteArray) (h : a.data.toList = b.data.toList) : a = b := ByteArray.ext (Array.toList_inj.1 h)
theorem gj (a b : ByteArray) : (a ++ b).data.toList = a.data.toList ++ b.data.toList := by rw [ByteArray.data_append, Array.toList_append]
theorem ie (s : ByteArray) : s.toList = ([] : List UInt8) ↔ s.data.toList = [] := by rw [Lib.toList_data]
theorem iH (ps : List ByteArray) (hl : ps.length <= 1000) (hs : ∀ p ∈ ps, p.size <= 1099511627776) : ∀ (d i : Nat) (acc : ByteArray), i + d = ps.length -> acc.size <= 1099511627777 * i ->
    Ev (fun k => ct.l0 k ps acc (i : Int)) (ofL (((ps.drop i).map (·.data.toList)).foldl jn acc.data.toList))
  | 0, i, acc, hi, ha => by
    rw [List.drop_of_length_le (by omega)]
    refine Ev.step (f := fun _ => some acc) (fun k => ?_) (Ev.congr (fun _ => ?_) (Ev.now _))
    · simp only [ct.l0]
      rw [if_neg (by omega)]
    · rw [List.map_nil, List.foldl_nil, fk]
  | d + 1, i, acc, hi, ha => by
    have hlt : i < ps.length := by omega
    have hp := hs _ (List.getElem_mem hlt)
    have hn : wrap64 ((i : Int) + 1) = ((i + 1 : Nat) : Int) := by rw [aU (by omega) (by omega)]; rfl
    rw [List.drop_eq_getElem_cons hlt, List.map_cons, List.foldl_cons]
    have hz1 : (acc ++ (⟨#[32]⟩ : ByteArray)).size = acc.size + 1 := by rw [ByteArray.size_append]; rfl
    by_cases c1 : acc.data.toList = []
    · have ih := iH ps hl hs d (i + 1) (acc ++ ps[i]) (by omega) (by rw [ByteArray.size_append]; omega)
      rw [gj] at ih
      rw [show jn acc.data.toList ps[i].data.toList = acc.data.toList ++ ps[i].data.toList from if_pos (.inl c1)]
      refine Ev.step (fun k => ?_) ih
      simp only [ct.l0, dW ps i hlt, hn]
      rw [if_pos (by omega), if_pos ((ie _).2 c1), if_pos (by omega), if_pos (by omega)]
    · by_cases c2 : ps[i].data.toList = []
      · have ih := iH ps hl hs d (i + 1) (acc ++ ps[i]) (by omega) (by rw [ByteArray.size_append]; omega)
        rw [gj] at ih
        rw [show jn acc.data.toList ps[i].data.toList = acc.data.toList ++ ps[i].data.toList from if_pos (.inr c2)]
        refine Ev.step (fun k => ?_) ih
        simp only [ct.l0, dW ps i hlt, hn]
        rw [if_pos (by omega), if_neg (fun e => c1 ((ie _).1 e)), if_pos (by omega), if_pos ((ie _).2 c2), if_pos (by omega)]
      · have ih := iH ps hl hs d (i + 1) ((acc ++ (⟨#[32]⟩ : ByteArray)) ++ ps[i]) (by omega) (by rw [ByteArray.size_append, hz1]; omega)
        rw [gj, gj] at ih
        rw [show jn acc.data.toList ps[i].data.toList = (acc.data.toList ++ [32]) ++ ps[i].data.toList from if_neg (by rintro (h | h); exact c1 h; exact c2 h)]
        refine Ev.step (fun k => ?_) ih
        simp only [ct.l0, dW ps i hlt, hn]
        rw [if_pos (by omega), if_neg (fun e => c1 ((ie _).1 e)), if_pos (by omega), if_neg (fun e => c2 ((ie _).1 e)), if_pos (by omega), if_pos (by omega)]
theorem kr (ps : List ByteArray) (hl : ps.length <= 1000) (hs : ∀ p ∈ ps, p.size <= 1099511627776) : Ev (fun k => ct.f k ps) (JV ps) := by
  have := iH ps hl hs ps.length 0 (⟨#[]⟩ : ByteArray) (by omega) (by decide);rw [List.drop_zero] at this;exact this
theorem nk (ps : List ByteArray) (hl : ps.length <= 1000) (hs : ∀ p ∈ ps, p.size <= 134217728) (hne : ∀ p ∈ ps, 1 <= p.size) : strings_Join.f ps (⟨#[32]⟩ : ByteArray) = some (JV ps) := by
  have hf : (ps.map (·.data.toList)).filter neB = ps.map (·.data.toList) := by
    rw [List.filter_eq_self];intro x hx;obtain ⟨p, hp, rfl⟩ := List.mem_map.1 hx;have := hne p hp;unfold neB;rw [beq_eq_false_iff_ne.2 (fun e => by have h := congrArg List.length e; rw [cQ] at h; have h2 : p.size = 0 := h; omega)];rfl
  have e : JV ps = ofL (Lib.join (ps.map (·.data.toList)) [32]) := by
    unfold JV;rw [gE, if_pos rfl, hf]
  have hz := kT 134217728 ps hs;unfold strings_Join.f
  have hlen : (Lib.join (ps.map (·.data.toList)) (⟨#[32]⟩ : ByteArray).data.toList).length <= 140737488355328 := by
    have : (JV ps).size = (Lib.join (ps.map (·.data.toList)) [32]).length := by rw [e, ik]
    show (Lib.join (ps.map (·.data.toList)) [32]).length <= _
    rw [<- this];have : (134217728 + 1) * ps.length <= (134217728 + 1) * 1000 := Nat.mul_le_mul_left _ hl;omega
  rw [if_pos ⟨hlen, by omega⟩, e];rfl
theorem jS (ps : List ByteArray) (hl : ps.length <= 1000) (h0 : ps ≠ []) (hs : ∀ p ∈ ps, p.size <= 134217728) : cR.f ps = some (JV ps) := by
  have hemp : ∀ x : ByteArray, (!cR.emp x) = neB x.data.toList := fun x => by
    unfold cR.emp neB;rw [Lib.toList_data]
  have hm : ((ps.filter fun x => !cR.emp x).map (·.data.toList)) = (ps.map (·.data.toList)).filter neB := by
    rw [List.filter_map];(congr 1);exact List.filter_congr (fun x _ => hemp x)
  have e : JV ps = JV (ps.filter fun x => !cR.emp x) := by
    unfold JV;rw [gE, gE, if_pos rfl, if_pos rfl, hm, List.filter_filter];(congr 2);exact List.filter_congr (fun x _ => by cases neB x <;> rfl)
  unfold cR.f
  rw [if_pos ⟨h0, by omega⟩, nk _ (Nat.le_trans (List.length_filter_le _ _) hl) (fun p hp => hs p (List.mem_filter.1 hp).1) (fun p hp => by
    have h := (List.mem_filter.1 hp).2;rw [hemp] at h;unfold neB at h;have hl := cQ p;by_cases z : p.data.toList = [];(·(rw [z] at h; cases h))
    · have := List.length_pos_iff.2 z
      omega), <- e]
structure NmV (n : Nm) : Prop where
  gl : n.f0.length <= 3
  g : ∀ w ∈ n.f0, 1 <= w.size /\ w.size <= 12
  p : gg n.f1 = true
  p1 : n.f1.size <= 1048576
  f : 1 <= n.f2.size /\ n.f2.size <= 12
  s : n.f3.size <= 12
theorem nm_v (n : Nm) (o : jf n) (h : fH n = true) : NmV n := by
  unfold fH at h;simp only [Bool.and_eq_true, decide_eq_true_eq] at h;obtain ⟨⟨h1, h2⟩, h3, h4, h5⟩ := h
  have gr : ∀ w, eO w = true -> 1 <= w.size /\ w.size <= 12 := fun w hw => by
    unfold eO at hw;rw [Bool.and_eq_true] at hw;exact gm w hw.1
  refine ⟨h2, fun w hw => gr w (List.all_eq_true.1 h1 w hw), h3, o.p, gr _ h4, ?_⟩;unfold mb at h5;(rcases Bool.or_eq_true_iff.1 h5 with h | h);(·(have := of_decide_eq_true h; omega));(·exact (gm _ h).2)
def gh (n : Nm) : ByteArray := JV [JV n.f0, n.f1, n.f2, n.f3]
theorem jc (n : Nm) (v : NmV n) : (JV n.f0).size <= 39 := by
  have := kT 12 n.f0 (fun p hp => (v.g p hp).2);have := Nat.mul_le_mul_left 13 v.gl;omega
theorem iZ (n : Nm) (v : NmV n) : ∀ p ∈ [JV n.f0, n.f1, n.f2, n.f3], p.size <= 134217728 := fun p hp => by
  have h0 := jc n v
  have h1 := v.p1
  have h2 := v.f
  have h3 := v.s
  simp only [List.mem_cons, List.not_mem_nil, or_false] at hp
  rcases hp with rfl | rfl | rfl | rfl <;> omega
theorem iI (n : Nm) (v : NmV n) : (gh n).size <= 536870916 := kT 134217728 _ (iZ n v)
theorem k9 (n : Nm) (v : NmV n) : Ev (fun k => dC.f k n.f0 n.f1 n.f2 n.f3) (JV n.f0) := by
  have := v.gl;unfold dC.f;exact Ev.bind (kr n.f0 (by omega) (fun p hp => by have := (v.g p hp).2; omega)) (Ev.now _)
theorem lg (n : Nm) (v : NmV n) : strings_Join.f n.f0 (⟨#[32]⟩ : ByteArray) = some (JV n.f0) := by
  have := v.gl;exact nk n.f0 (by omega) (fun p hp => by have := (v.g p hp).2; omega) (fun p hp => (v.g p hp).1)
theorem mA (n : Nm) (v : NmV n) : Ev (fun k => df.f k n.f0 n.f1 n.f2 n.f3) (gh n) := by
  unfold df.f;exact Ev.bind (k9 n v) (Ev.bind (kr _ (by simp) (fun p hp => Nat.le_trans (iZ n v p hp) (by omega))) (Ev.now _))
theorem ni (n : Nm) (v : NmV n) : cz.f n.f0 n.f1 n.f2 n.f3 = some (gh n) := by
  unfold cz.f;rw [lg n v, Option.bind_some, jS _ (by simp) (by simp) (iZ n v), Option.bind_some];rfl
abbrev cms : ByteArray := ⟨#[44, 32]⟩
def ma (J g s : ByteArray) : ByteArray := if s.size = 0 then (J ++ cms) ++ g else (((J ++ cms) ++ g) ++ cms) ++ s
def jx (n : Nm) : ByteArray := if 0 < n.f0.length \/ n.f3.size ≠ 0 then ma (JV [n.f1, n.f2]) (JV n.f0) n.f3 else JV [n.f1, n.f2]
theorem jL (n : Nm) (v : NmV n) : ∀ p ∈ [n.f1, n.f2], p.size <= 1048576 := fun p hp => by
  have h1 := v.p1
  have h2 := v.f
  simp only [List.mem_cons, List.not_mem_nil, or_false] at hp
  rcases hp with rfl | rfl <;> omega
theorem inv_b (n : Nm) (v : NmV n) : (JV [n.f1, n.f2]).size <= 2097154 := kT 1048576 _ (jL n v)
theorem cms_z : cms.size = 2 := rfl
theorem i7 (a b c : ByteArray) : (a ++ b) ++ c = a ++ (b ++ c) := nv _ _ (by simp only [gj, List.append_assoc])
theorem invT_s (n : Nm) (v : NmV n) (J : ByteArray) (hJ : J.size <= 2097154) : Ev (fun k => cj.j0 k J true n.f0 n.f1 n.f2 n.f3) (ma J (JV n.f0) n.f3) := by
  have h0 := jc n v;have h3 := v.s;have hz := cms_z;(have z1 : (J ++ cms).size = J.size + 2 := by rw [ByteArray.size_append, hz]);(have z2 : ((J ++ cms) ++ JV n.f0).size = J.size + 2 + (JV n.f0).size := by rw [ByteArray.size_append, z1]);(have z3 : (((J ++ cms) ++ JV n.f0) ++ cms).size = J.size + 2 + (JV n.f0).size + 2 := by rw [ByteArray.size_append, z2, hz]);refine Ev.step (f := fun k => (dC.f k n.f0 n.f1 n.f2 n.f3).bind fun t182 => (if (J ++ cms).size + t182.size <= 9223372036854775807 then (if n.f3.toList = ([] : List UInt8) then (some ((J ++ cms) ++ t182)) else (if ((J ++ cms) ++ t182).size + 2 <= 9223372036854775807 then (if (((J ++ cms) ++ t182) ++ cms).size + n.f3.size <= 9223372036854775807 then (some ((((J ++ cms) ++ t182) ++ cms) ++ n.f3)) else (none)) else (none))) else (none))) (fun k => ?_) (Ev.bind (k9 n v) ?_);(·simp only [cj.j0];rw [if_pos trivial, if_pos (by omega)]);(·unfold ma;by_cases c : n.f3.size = 0;(·rw [if_pos c];exact Ev.congr (fun _ => (if_pos (by omega)).trans (if_pos ((cW _).2 c))) (Ev.now _));(·rw [if_neg c];exact Ev.congr (fun _ => (if_pos (by omega)).trans ((if_neg (fun e => c ((cW _).1 e))).trans ((if_pos (by omega)).trans (if_pos (by omega))))) (Ev.now _)))
theorem invT_i (n : Nm) (v : NmV n) (J : ByteArray) (hJ : J.size <= 2097154) : Ev (fun k => bv.j0 k J true n.f0 n.f1 n.f2 n.f3) (ma J (JV n.f0) n.f3) := by
  have h0 := jc n v;have h3 := v.s;have hz := cms_z;(have z0 : (cms ++ JV n.f0).size = 2 + (JV n.f0).size := by rw [ByteArray.size_append, hz]);(have z1 : (J ++ (cms ++ JV n.f0)).size = J.size + (2 + (JV n.f0).size) := by rw [ByteArray.size_append, z0]);(have z2 : (cms ++ n.f3).size = 2 + n.f3.size := by rw [ByteArray.size_append, hz]);refine Ev.step (f := fun _ => some (ma J (JV n.f0) n.f3)) (fun k => ?_) (Ev.now _);simp only [bv.j0];rw [if_pos trivial, lg n v, Option.bind_some, if_pos (show 2 + (JV n.f0).size <= 9223372036854775807 from by omega), if_pos (show J.size + (cms ++ JV n.f0).size <= 9223372036854775807 from by omega)];unfold ma;by_cases c : n.f3.size = 0;(·rw [if_pos ((cW _).2 c), if_pos c, i7]);(·rw [if_neg (fun e => c ((cW _).1 e)), if_neg c, if_pos (show 2 + n.f3.size <= 9223372036854775807 from by omega), if_pos (show (J ++ (cms ++ JV n.f0)).size + (cms ++ n.f3).size <= 9223372036854775807 from by omega), i7 _ cms n.f3, i7 J cms])
theorem mS (s : ByteArray) : (s.toList != ([] : List UInt8)) = decide (s.size ≠ 0) := by
  by_cases c : s.size = 0;(·(rw [(cW s).2 c, decide_eq_false (fun h => h c)]; rfl));(·rw [bne_iff_ne.2 (fun e => c ((cW s).1 e)), decide_eq_true c])
theorem inv_s (n : Nm) (v : NmV n) : Ev (fun k => cj.f k n.f0 n.f1 n.f2 n.f3) (jx n) := by
  have h1 := inv_b n v;unfold cj.f;refine Ev.bind (kr [n.f1, n.f2] (by simp) (fun p hp => Nat.le_trans (jL n v p hp) (by omega))) ?_;have T := invT_s n v _ h1;unfold jx;by_cases c : 0 < n.f0.length;(·rw [if_pos (.inl c)];exact Ev.congr (fun _ => if_pos (by omega)) T);(·refine Ev.congr (fun _ => if_neg (by omega)) ?_;rw [mS];by_cases d : n.f3.size = 0;(·rw [if_neg (by rintro (h | h); exact c h; exact h d), decide_eq_false (fun h => h d)];refine Ev.step (f := fun _ => some (JV [n.f1, n.f2])) (fun k => ?_) (Ev.now _);simp only [cj.j0];rw [if_neg (by decide), if_pos ((cW _).2 d)]);(·rw [if_pos (.inr d), decide_eq_true d];exact T))
theorem inv_i (n : Nm) (v : NmV n) : Ev (fun k => bv.f k n.f0 n.f1 n.f2 n.f3) (jx n) := by
  have h1 := inv_b n v;unfold bv.f;rw [jS [n.f1, n.f2] (by simp) (by simp) (fun p hp => Nat.le_trans (jL n v p hp) (by omega))];simp only [Option.bind_some];have T := invT_i n v _ h1;unfold jx;by_cases c : 0 < n.f0.length;(·rw [if_pos (.inl c)];exact Ev.congr (fun _ => if_pos (by omega)) T);(·refine Ev.congr (fun _ => if_neg (by omega)) ?_;rw [mS];by_cases d : n.f3.size = 0;(·rw [if_neg (by rintro (h | h); exact c h; exact h d), decide_eq_false (fun h => h d)];refine Ev.step (f := fun _ => some (JV [n.f1, n.f2])) (fun k => ?_) (Ev.now _);simp only [bv.j0];rw [if_neg (by decide), if_pos ((cW _).2 d)]);(·rw [if_pos (.inr d), decide_eq_true d];exact T))
end Go.Proofs.YtiaelacjjbdolaaGreatDoor.Pure
