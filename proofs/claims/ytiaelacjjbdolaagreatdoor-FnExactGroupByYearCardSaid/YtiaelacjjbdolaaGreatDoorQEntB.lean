/- Lemmas on the printed functions, without Go and memory. -/
import Derived.Test.YtiaelacjjbdolaaGreatDoorPx1
import Derived.Test.YtiaelacjjbdolaaGreatDoorPx3
import Derived.Test.YtiaelacjjbdolaaGreatDoorQEntA
namespace Go.Proofs.YtiaelacjjbdolaaGreatDoor.Pure
open Go.RowKit Go.Proofs.YtiaelacjjbdolaaGreatDoor.Px Go.Proofs.YtiaelacjjbdolaaGreatDoorW.PrintWords Go.Proofs.YtiaelacjjbdolaaGreatDoorW.PrintLast
set_option linter.unusedVariables false
set_option linter.unusedSimpArgs false

abbrev Nm := cg
theorem ku (c : UInt8) (l : List UInt8) : Lib.index (c :: l) [c] = 0 := by
  unfold Lib.index;rw [if_pos (by simp [List.isPrefixOf])]
theorem ks (c b : UInt8) (l : List UInt8) (h : b ≠ c) (i : Nat) (hi : Lib.index l [c] = (i : Int)) : Lib.index (b :: l) [c] = ((i + 1 : Nat) : Int) := by
  unfold Lib.index;rw [if_neg (by simp [List.isPrefixOf, Ne.symm h]), hi, if_neg (by first | (simp; done) | (simp; omega))];rfl
def dX : List UInt8 -> List UInt8 -> List (List UInt8)
  | c, [] => [c]
  | c, b :: l => if b = 32 then c :: dX [] l else dX (c ++ [b]) l
theorem kz (l : List UInt8) : ∃ w ws, Lib.splitK [32] 0 (l.count 32) l = w :: ws /\ ∀ c, dX c l = (c ++ w) :: ws := by
  induction l with
  | nil => exact ⟨[], [], rfl, fun c => by simp [dX]⟩
  | cons b l ih =>
    obtain ⟨w, ws, h1, h2⟩ := ih;by_cases h : b = 32;(·subst h;refine ⟨[], w :: ws, ?_, fun c => ?_⟩;(·rw [List.count_cons_self, Lib.splitK, ku];simp [h1]);(·rw [dX, if_pos rfl, h2 []];simp))
    · refine ⟨b :: w, ws, ?_, fun c => ?_⟩
      · rw [List.count_cons_of_ne h]
        cases hk : l.count 32 with
        | zero =>
          rw [hk] at h1;have h1 : [l] = w :: ws := h1;(injection h1 with a b2);rw [<- a, <- b2];rfl
        | succ m =>
          rw [hk] at h1;obtain ⟨i, hi⟩ := Lib.index_of_count (s := l) (old := [32]) (by rw [Lib.count_one, hk]; omega);rw [Lib.splitK, hi] at h1;rw [Lib.splitK, ks 32 b l h i hi]
          have g1 : ¬ (((i : Nat) : Int) == -1) = true := by first | (simp; done) | (simp; omega)
          have g2 : ¬ (((i + 1 : Nat) : Int) == -1) = true := by first | (simp; done) | (simp; omega)
          rw [if_neg g1] at h1;rw [if_neg g2];(injection h1 with a b2);rw [<- a, <- b2];simp
      · rw [dX, if_neg h, h2]
        simp
theorem nQ (u : ByteArray) : Lib.splitB (⟨#[32]⟩ : ByteArray) 0 (Lib.countB u (⟨#[32]⟩ : ByteArray)) u = (dX [] u.data.toList).map ofL := by
  have h := Lib.splitB_data (⟨#[32]⟩ : ByteArray) 0 (Lib.countB u (⟨#[32]⟩ : ByteArray)) u;have hc : Lib.countB u (⟨#[32]⟩ : ByteArray) = u.data.toList.count 32 := Lib.count_one 32 _;rw [hc] at h ⊢;obtain ⟨w, ws, h1, h2⟩ := kz u.data.toList;rw [show (⟨#[32]⟩ : ByteArray).data.toList = [32] from rfl, h1] at h;have h3 := h2 [];rw [List.nil_append] at h3;rw [h3, <- h, List.map_map];(have : (ofL ∘ fun x : ByteArray => x.data.toList) = id := by funext x; exact fk x);rw [this, List.map_id]
theorem io : ∀ (l c : List UInt8), (dX c l).length <= l.length + 1 /\ ∀ w ∈ dX c l, w.length <= c.length + l.length
  | [], c => ⟨by simp [dX], fun w hw => by rw [dX, List.mem_singleton] at hw; subst hw; simp⟩
  | b :: l, c => by
    rw [dX];(split);(·obtain ⟨h1, h2⟩ := io l [];refine ⟨by simp; omega, fun w hw => ?_⟩;(rcases List.mem_cons.1 hw with rfl | hw);(·omega);(·(have := h2 w hw; simp at this ⊢; omega)));(·obtain ⟨h1, h2⟩ := io l (c ++ [b]);exact ⟨by simp; omega, fun w hw => by have := h2 w hw; simp at this ⊢; omega⟩)
theorem split_i (s : ByteArray) (hs : s.size <= 1048576) : strings_Split.f s (⟨#[32]⟩ : ByteArray) = some ((dX [] s.data.toList).map ofL) := by
  unfold strings_Split.f strings_Split.parts;rw [if_pos (by omega), if_pos (by decide), nQ]
theorem jC (s : ByteArray) (hs : s.size <= 1048576) : ∀ (d i fr : Nat) (out : List ByteArray), i + d = s.size -> fr <= i -> out.length <= i ->
    Ev (fun k => dc.l0 k s 32 out (fr : Int) (i : Int)) (out ++ (dX ((s.data.toList.drop fr).take (i - fr)) (s.data.toList.drop i)).map ofL)
  | 0, i, fr, out, hi, hf, ho => by
    have hl := cQ s
    have e1 : s.data.toList.drop i = [] := List.drop_of_length_le (by omega)
    have e2 : (s.data.toList.drop fr).take (i - fr) = s.data.toList.drop fr := List.take_of_length_le (by rw [List.length_drop]; omega)
    rw [e1, e2, dX]
    refine Ev.step (f := fun _ => some (out ++ [s.extract fr s.size])) (fun k => ?_) (Ev.congr (fun _ => ?_) (Ev.now _))
    · simp only [dc.l0]
      rw [if_neg (by omega), if_pos (by omega), if_pos (by omega), if_pos (by omega), Int.toNat_natCast]
    · congr 2
      show [s.extract fr s.size] = [ofL (s.data.toList.drop fr)]
      rw [<- fk (s.extract fr s.size)]
      congr 2
      rw [ByteArray.data_extract, Array.toList_extract]
      show List.take (s.size - fr) (List.drop fr s.data.toList) = _
      rw [List.take_of_length_le (by rw [List.length_drop]; omega)]
  | d + 1, i, fr, out, hi, hf, ho => by
    have hl := cQ s
    have hlt : i < s.data.toList.length := by omega
    obtain ⟨b, e1, e2⟩ := drop_at s (i : Int) (by omega) (by omega)
    rw [Int.toNat_natCast, show ((i : Int) + 1).toNat = i + 1 from by omega] at e1
    have hw := dh i s.size (by omega) hs
    have hb : (bt s (i : Int) = 32) ↔ b = 32 := by
      rw [e2];(constructor);(·(intro h; exact UInt8.toNat_inj.1 (by have : (b.toNat : Int) = 32 := h; show b.toNat = 32; omega)));(·(rintro rfl; rfl))
    rw [e1, dX];by_cases c : b = 32
    · have ih := jC s hs d (i + 1) (i + 1) (out ++ [s.extract fr i]) (by omega) (by omega) (by simp; omega)
      rw [Nat.sub_self, List.take_zero] at ih;rw [if_pos c, List.map_cons]
      have e3 : s.extract fr i = ofL ((s.data.toList.drop fr).take (i - fr)) := by
        rw [<- fk (s.extract fr i), ByteArray.data_extract, Array.toList_extract]
      rw [<- e3];rw [List.append_assoc] at ih;refine Ev.step (fun k => ?_) ih;simp only [dc.l0];rw [if_pos (by omega), if_pos (by omega), if_pos (hb.2 c), if_pos (by omega), if_pos (by omega), if_pos (by omega), if_pos (by omega), hw, Int.toNat_natCast, Int.toNat_natCast]
    · have ih := jC s hs d (i + 1) fr out (by omega) (by omega) (by omega)
      have e4 : (s.data.toList.drop fr).take (i - fr) ++ [b] = (s.data.toList.drop fr).take (i + 1 - fr) := by
        (have hlt2 : i - fr < (s.data.toList.drop fr).length := by rw [List.length_drop]; omega);rw [show i + 1 - fr = (i - fr) + 1 from by omega, List.take_succ_eq_append_getElem hlt2];(congr 2);rw [List.getElem_drop];have := List.drop_eq_getElem_cons hlt;rw [e1] at this;have h2 := (List.cons.inj this).1;rw [h2];(congr 1);omega
      rw [if_neg c, e4];refine Ev.step (fun k => ?_) ih;simp only [dc.l0];rw [if_pos (by omega), if_pos (by omega), if_neg (fun h => c (hb.1 h)), hw]
theorem nj (s : ByteArray) (hs : s.size <= 1048576) : Ev (fun k => dc.f k s 32) ((dX [] s.data.toList).map ofL) := by
  have := jC s hs s.size 0 0 [] (by omega) (by omega) (by simp);rw [List.drop_zero, Nat.sub_self, List.take_zero, List.nil_append] at this;exact this
def jv (w : ByteArray) : Bool := inI (w.size : Int) 1 12 && fB (fun i => fY (bt w (i : Int))) 0 w.size
theorem mJ (w : ByteArray) : (fK w && fB (fun i => fY (bt w (i : Int))) 0 w.size) = jv w := by
  unfold jv
  cases h : fB (fun i => fY (bt w (i : Int))) 0 w.size with
  | false => simp
  | true =>
    rw [Bool.and_true, Bool.and_true];unfold fK
    cases h2 : inI (w.size : Int) 1 12 with
    | false => rfl
    | true =>
      have hb := eG _ _ _ h2;have at_ := fS _ _ _ h
      have hp : ∀ j : Nat, j < w.size -> iD (bt w (j : Int)) = true := fun j hj => by
        unfold iD;have := at_ j (by omega) (by omega);rw [this, Bool.or_true]
      have h0 := hp 0 (by omega);have h1 := hp (w.size - 1) (by omega);rw [show (((w.size - 1 : Nat) : Int)) = (w.size : Int) - 1 from by omega] at h1
      have h3 : fB (wdP w) 1 (w.size - 1) = true := kY _ _ _ (fun j j1 j2 => by
        unfold wdP
        rw [hp j (by omega), Bool.true_or])
      rw [show bt w 0 = bt w ((0 : Nat) : Int) from rfl, h0, h1, h3];rfl
def gg (s : ByteArray) : Bool := decide (s.size = 0) || (((dX [] s.data.toList).map ofL).all jv && decide ((dX [] s.data.toList).length <= 2))
theorem dW (ws : List ByteArray) (i : Nat) (h : i < ws.length) : aC ByteArray.empty ws (i : Int) = ws[i] := by
  unfold aC;rw [Int.toNat_natCast, List.getD_eq_getElem?_getD, List.getElem?_eq_getElem h];rfl
theorem kU (ws : List ByteArray) (hl : ws.length <= 1048577) (hw : ∀ w ∈ ws, w.size <= 1048576) : ∀ (d i : Nat), i + d = ws.length -> Ev (fun k => ay.l0 k ws (i : Int)) ((ws.drop i).all jv && decide (ws.length <= 2))
  | 0, i, hi => by
    rw [List.drop_of_length_le (by omega)];refine Ev.step (f := fun _ => some (decide (ws.length <= 2))) (fun k => ?_) (Ev.congr (fun _ => by simp) (Ev.now _));simp only [ay.l0];rw [if_neg (by omega)];(congr 1);by_cases c : ws.length <= 2;(·rw [decide_eq_true c, decide_eq_true (by omega)]);(·rw [decide_eq_false c, decide_eq_false (by omega)])
  | d + 1, i, hi => by
    (have hlt : i < ws.length := by omega);have ih := kU ws hl hw d (i + 1) (by omega);have hz := hw _ (List.getElem_mem hlt);(have hn : wrap64 ((i : Int) + 1) = ((i + 1 : Nat) : Int) := by rw [aU (by omega) (by omega)]; rfl);rw [List.drop_eq_getElem_cons hlt, List.all_cons, <- mJ, Bool.and_assoc, Bool.and_assoc]
    have lp := jI 0 ws[i].size (fun j => fY (bt ws[i] (j : Int))) (fun k j => ay.l1 k ws (i : Int) j) ((ws.drop (i + 1)).all jv && decide (ws.length <= 2)) (fun k j _ hj => by
      simp only [ay.l1, dW ws i hlt, lw_s, Option.bind_some]
      rw [if_pos (by omega), if_pos (by omega), if_pos (by omega), if_pos (by omega), dh j _ hj hz]) (Ev.step (fun k => by
      simp only [ay.l1, dW ws i hlt, hn]
      rw [if_pos (by omega), if_pos (by omega), if_neg (by omega)]) ih) ws[i].size 0 (Nat.le_refl _) (by omega)
    refine Ev.step (f := fun k => (aw.f k ws[i]).bind fun t133 => (if t133 = true then (ay.l1 k ws (i : Int) 0) else (some false))) (fun k => ?_) (Ev.bind (jN ws[i] hz) ?_);(·simp only [ay.l0, dW ws i hlt];rw [if_pos (by omega), if_pos (by omega)])
    · cases fK ws[i] with
      | false => exact Ev.congr (fun _ => if_neg (by decide)) (Ev.now _)
      | true =>
        rw [Bool.true_and];exact Ev.congr (fun _ => if_pos rfl) lp
theorem kV (ws : List ByteArray) (hl : ws.length <= 1048577) (hw : ∀ w ∈ ws, w.size <= 1048576) : ∀ (d i : Nat), i + d = ws.length -> Ev (fun k => aE.l0 k ws ws (ws.length : Int) (i : Int)) ((ws.drop i).all jv && decide (ws.length <= 2))
  | 0, i, hi => by
    rw [List.drop_of_length_le (by omega)];refine Ev.step (f := fun _ => some (decide (ws.length <= 2))) (fun k => ?_) (Ev.congr (fun _ => by simp) (Ev.now _));simp only [aE.l0];rw [if_neg (by omega)];(congr 1);by_cases c : ws.length <= 2;(·rw [decide_eq_true c, decide_eq_true (by omega)]);(·rw [decide_eq_false c, decide_eq_false (by omega)])
  | d + 1, i, hi => by
    (have hlt : i < ws.length := by omega);have ih := kV ws hl hw d (i + 1) (by omega);have hz := hw _ (List.getElem_mem hlt);(have hn : wrap64 ((i : Int) + 1) = ((i + 1 : Nat) : Int) := by rw [aU (by omega) (by omega)]; rfl);rw [List.drop_eq_getElem_cons hlt, List.all_cons];unfold jv;rw [Bool.and_assoc, Bool.and_assoc]
    have lp := jI 0 ws[i].size (fun j => fY (bt ws[i] (j : Int))) (fun k j => aE.l1 k ws ws[i] j ws (ws.length : Int) (i : Int)) ((ws.drop (i + 1)).all jv && decide (ws.length <= 2)) (fun k j _ hj => by
      simp only [aE.l1, lw_i, Option.bind_some]
      rw [if_pos (by omega), if_pos (by omega), dh j _ hj hz]) (Ev.step (fun k => by
      simp only [aE.l1, hn]
      rw [if_neg (by omega)]) ih) ws[i].size 0 (Nat.le_refl _) (by omega)
    refine Ev.step (f := fun k => if inI (ws[i].size : Int) 1 12 = true then (aE.l1 k ws ws[i] 0 ws (ws.length : Int) (i : Int)) else (some false)) (fun k => ?_) ?_;(·simp only [aE.l0, dW ws i hlt, kB, Option.bind_some];rw [if_pos (by omega), if_pos (by omega), if_pos (by omega)])
    · cases inI (ws[i].size : Int) 1 12 with
      | false => exact Ev.congr (fun _ => if_neg (by decide)) (Ev.now _)
      | true =>
        rw [Bool.true_and];exact Ev.congr (fun _ => if_pos rfl) lp
theorem jQ (s : ByteArray) (hs : s.size <= 1048576) : ((dX [] s.data.toList).map ofL).length <= 1048577 /\ ∀ w ∈ (dX [] s.data.toList).map ofL, w.size <= 1048576 := by
  have hl := cQ s;obtain ⟨h1, h2⟩ := io s.data.toList [];refine ⟨by rw [List.length_map]; omega, fun w hw => ?_⟩;obtain ⟨x, hx, rfl⟩ := List.mem_map.1 hw;rw [ik];have := h2 x hx;simp at this;omega
theorem part_s (s : ByteArray) (hs : s.size <= 1048576) : Ev (fun k => ay.f k s) (gg s) := by
  unfold ay.f gg;by_cases z : s.size = 0;(·rw [decide_eq_true z];exact Ev.congr (fun _ => if_pos ((cW s).2 z)) (Ev.now _));(·obtain ⟨h1, h2⟩ := jQ s hs;rw [decide_eq_false z, Bool.false_or];have := kU _ h1 h2 _ 0 (Nat.zero_add _);rw [List.drop_zero, List.length_map] at this;exact Ev.congr (fun _ => if_neg (fun e => z ((cW s).1 e))) (Ev.bind (nj s hs) this))
theorem part_i (s : ByteArray) (hs : s.size <= 1048576) : Ev (fun k => aE.f k s) (gg s) := by
  unfold aE.f gg;by_cases z : s.size = 0;(·rw [decide_eq_true z];exact Ev.congr (fun _ => if_pos ((cW s).2 z)) (Ev.now _));(·obtain ⟨h1, h2⟩ := jQ s hs;rw [decide_eq_false z, Bool.false_or, split_i s hs];have := kV _ h1 h2 _ 0 (Nat.zero_add _);rw [List.drop_zero, List.length_map] at this;refine Ev.congr (fun _ => (if_neg (fun e => z ((cW s).1 e))).trans (Option.bind_some _ _)) ?_;rw [List.length_map];exact this)
def mb (s : ByteArray) : Bool := decide (s.size = 0) || fK s
def fH (n : Nm) : Bool := (n.f0.all eO && decide (n.f0.length <= 3)) && (gg n.f1 && (eO n.f2 && mb n.f3))
structure jf (n : Nm) : Prop where
  l : n.f0.length <= 1048576
  g : ∀ w ∈ n.f0, w.size <= 1048576
  p : n.f1.size <= 1048576
  f : n.f2.size <= 1048576
  s : n.f3.size <= 1048576
theorem name_s (n : Nm) (h : jf n) : Ev (fun k => cS.f k n.f0 n.f1 n.f2 n.f3) (fH n) := by
  have fin : Ev (fun k => cS.l0 k (n.f0.length : Int) n.f0 n.f1 n.f2 n.f3) (decide (n.f0.length <= 3) && (gg n.f1 && (eO n.f2 && mb n.f3))) := by
    refine Ev.step (f := fun k => if (n.f0.length : Int) <= 3 then ((ay.f k n.f1).bind fun t142 => (if t142 = true then ((aw.f k n.f2).bind fun t143 => (if t143 = true then (if 0 < (n.f2.size : Int) then ((cH.f (bt n.f2 0)).bind fun t144 => (if t144 = true then (if n.f3.toList = ([] : List UInt8) then (some true) else ((aw.f k n.f3).bind fun t145 => (some t145))) else (some false))) else (none)) else (some false))) else (some false))) else (some false)) (fun k => ?_) ?_;(·simp only [cS.l0];rw [if_neg (by omega)])
    · by_cases c : n.f0.length <= 3
      · rw [decide_eq_true c, Bool.true_and]
        refine Ev.congr (fun _ => if_pos (by omega)) (Ev.bind (part_s n.f1 h.p) ?_)
        cases gg n.f1 with
        | false => exact Ev.congr (fun _ => if_neg (by decide)) (Ev.now _)
        | true =>
          rw [Bool.true_and];refine Ev.congr (fun _ => if_pos rfl) (Ev.bind (jN n.f2 h.f) ?_);unfold eO
          cases hw : fK n.f2 with
          | false => exact Ev.congr (fun _ => if_neg (by decide)) (Ev.now _)
          | true =>
            have := gm _ hw;rw [Bool.true_and, up_s];refine Ev.congr (fun _ => (if_pos rfl).trans (if_pos (by omega))) ?_;simp only [Option.bind_some]
            cases l9 (bt n.f2 0) with
            | false => exact Ev.congr (fun _ => if_neg (by decide)) (Ev.now _)
            | true =>
              rw [Bool.true_and];unfold mb;by_cases z : n.f3.size = 0;(·rw [decide_eq_true z];exact Ev.congr (fun _ => (if_pos rfl).trans (if_pos ((cW _).2 z))) (Ev.now _));(·rw [decide_eq_false z, Bool.false_or];exact Ev.congr (fun _ => (if_pos rfl).trans (if_neg (fun e => z ((cW _).1 e)))) (Ev.bind (jN n.f3 h.s) (Ev.now _)))
      · rw [decide_eq_false c, Bool.false_and]
        exact Ev.congr (fun _ => if_neg (by omega)) (Ev.now _)
  have lp : ∀ (d i : Nat), i + d = n.f0.length -> Ev (fun k => cS.l0 k (i : Int) n.f0 n.f1 n.f2 n.f3) ((n.f0.drop i).all eO && (decide (n.f0.length <= 3) && (gg n.f1 && (eO n.f2 && mb n.f3)))) := fun d => by
    induction d with
    | zero =>
      intro i hi;(obtain rfl : i = n.f0.length := by omega);rw [List.drop_of_length_le (Nat.le_refl _)];exact fin
    | succ d ih =>
      intro i hi;(have hlt : i < n.f0.length := by omega);have hz := h.g _ (List.getElem_mem hlt);have hl := h.l;rw [List.drop_eq_getElem_cons hlt, List.all_cons, Bool.and_assoc];refine Ev.step (f := fun k => (aw.f k n.f0[i]).bind fun t139 => (if t139 = true then (if 0 < (n.f0[i].size : Int) then ((cH.f (bt n.f0[i] 0)).bind fun t141 => (if t141 = true then (cS.l0 k ((i + 1 : Nat) : Int) n.f0 n.f1 n.f2 n.f3) else (some false))) else (none)) else (some false))) (fun k => ?_) (Ev.bind (jN _ hz) ?_);(·simp only [cS.l0, dW n.f0 i hlt];rw [if_pos (by omega), if_pos (by omega), dh i n.f0.length hlt hl])
      · unfold eO
        cases hw : fK n.f0[i] with
        | false => exact Ev.congr (fun _ => if_neg (by decide)) (Ev.now _)
        | true =>
          have := gm _ hw;rw [Bool.true_and, up_s];refine Ev.congr (fun _ => (if_pos rfl).trans (if_pos (by omega))) ?_;simp only [Option.bind_some]
          cases l9 (bt n.f0[i] 0) with
          | false => exact Ev.congr (fun _ => if_neg (by decide)) (Ev.now _)
          | true =>
            rw [Bool.true_and];exact Ev.congr (fun _ => if_pos rfl) (ih (i + 1) (by omega))
  have := lp n.f0.length 0 (by omega);rw [List.drop_zero] at this;unfold cS.f fH;rw [Bool.and_assoc];exact this
theorem nJ {α : Type} (g : Nat -> α -> Option Bool) (v : α -> Bool) : ∀ (l : List α), (∀ x ∈ l, Ev (fun k => g k x) (v x)) -> ∃ K, ∀ k, K <= k -> ∀ x ∈ l, g k x = some (v x)
  | [], _ => ⟨0, fun _ _ x hx => by cases hx⟩
  | a :: l, h => by
    obtain ⟨K1, h1⟩ := h a (by simp);obtain ⟨K2, h2⟩ := nJ g v l (fun x hx => h x (List.mem_cons_of_mem _ hx));refine ⟨max K1 K2, fun k hk x hx => ?_⟩;(rcases List.mem_cons.1 hx with rfl | hx);(·exact h1 k (by omega));(·exact h2 k (by omega) x hx)
theorem name_i (n : Nm) (h : jf n) : Ev (fun k => bQ.f k n.f0 n.f1 n.f2 n.f3) (fH n) := by
  unfold bQ.f fH;have bad : Ev (fun k => bQ.j0 k true n.f0 n.f1 n.f2 n.f3) false := Ev.step (f := fun _ => some false) (fun k => by simp only [bQ.j0]; rw [if_pos trivial]) (Ev.now _);by_cases c : n.f0.length <= 3
  · rw [decide_eq_true c, Bool.and_true]
    have hc : Ev (fun k => aD.f k n.f0 ()) (!n.f0.all eO) := by
      obtain ⟨K, hK⟩ := nJ (fun k x => cC.f k x) (fun x => !eO x) n.f0 (fun x hx => by
        unfold cC.f
        exact Ev.bind (lf x (h.g x hx)) (Ev.now _))
      refine ⟨K, fun k hk => ?_⟩;have e := hK k hk
      show aD.f k n.f0 () = _
      unfold aD.f;rw [if_pos (List.all_eq_true.2 fun x hx => by rw [e x hx]; rfl)];(congr 1)
      have : ∀ l : List ByteArray, (∀ x ∈ l, cC.f k x = some (!eO x)) -> l.any (fun x => (cC.f k x).getD false) = !l.all eO := fun l => by
        induction l with
        | nil => intro _; rfl
        | cons a l ih =>
          intro hx;rw [List.any_cons, List.all_cons, ih (fun x hm => hx x (List.mem_cons_of_mem _ hm)), hx a (by simp)]
          show (!eO a || _) = _
          cases eO a <;> rfl
      exact this n.f0 e
    refine Ev.congr (fun _ => if_neg (by omega)) (Ev.bind hc ?_)
    cases n.f0.all eO with
    | false => exact bad
    | true =>
      rw [Bool.true_and];refine Ev.step (f := fun k => (aE.f k n.f1).bind fun t312 => (if t312 = true then ((cY.f k n.f2).bind fun t313 => (if t313 = true then (if n.f3.toList = ([] : List UInt8) then (some true) else ((ap.f k n.f3).bind fun t314 => (some t314))) else (some false))) else (some false))) (fun k => ?_) (Ev.bind (part_i n.f1 h.p) ?_);(·simp only [bQ.j0];rw [if_neg (by decide)])
      · cases gg n.f1 with
        | false => exact Ev.congr (fun _ => if_neg (by decide)) (Ev.now _)
        | true =>
          rw [Bool.true_and];refine Ev.congr (fun _ => if_pos rfl) (Ev.bind (lf n.f2 h.f) ?_)
          cases eO n.f2 with
          | false => exact Ev.congr (fun _ => if_neg (by decide)) (Ev.now _)
          | true =>
            rw [Bool.true_and];unfold mb;by_cases z : n.f3.size = 0;(·rw [decide_eq_true z];exact Ev.congr (fun _ => (if_pos rfl).trans (if_pos ((cW _).2 z))) (Ev.now _));(·rw [decide_eq_false z, Bool.false_or];exact Ev.congr (fun _ => (if_pos rfl).trans (if_neg (fun e => z ((cW _).1 e)))) (Ev.bind (nS n.f3 h.s) (Ev.now _)))
  · rw [decide_eq_false c, Bool.and_false, Bool.false_and]
    exact Ev.congr (fun _ => if_pos (by omega)) bad
def fQ (l : List Nm) : Bool := l.all fH && decide (l.length <= 4)
structure iB (L : List Nm) : Prop where
  l : L.length <= 1048576
  n : ∀ x ∈ L, jf x
theorem rdN (l : List Nm) (i : Nat) (h : i < l.length) : ah l (i : Int) = l[i] := by
  unfold ah;rw [Int.toNat_natCast, List.getD_eq_getElem?_getD, List.getElem?_eq_getElem h];rfl
theorem lB (l : List Nm) (h : iB l) : Ev (fun k => bf.f k l) (fQ l) := by
  have hl := h.l
  have stop : ∀ i : Nat, (i = l.length \/ i = 5) -> i <= l.length -> Ev (fun k => bf.l0 k l (i : Int)) (decide (l.length <= 4)) := fun i hi hle => by
    refine Ev.step (f := fun k => bf.j1 k l (i : Int) false) (fun k => ?_) (Ev.step (f := fun _ => some (decide ((l.length : Int) <= 4))) (fun k => ?_) (Ev.congr (fun _ => ?_) (Ev.now _)));(·simp only [bf.l0];by_cases c : i < l.length;(·rw [if_pos (by omega), decide_eq_false (by omega)]);(·rw [if_neg (by omega)]));(·simp only [bf.j1];rw [if_neg (by decide)]);(·(congr 1);by_cases c : l.length <= 4;(·rw [decide_eq_true c, decide_eq_true (by omega)]);(·rw [decide_eq_false c, decide_eq_false (by omega)]))
  have lp : ∀ (d i : Nat), i + d = min l.length 5 -> Ev (fun k => bf.l0 k l (i : Int)) (((l.drop i).take d).all fH && decide (l.length <= 4)) := fun d => by
    induction d with
    | zero =>
      intro i hi;rw [List.take_zero];exact stop i (by omega) (by omega)
    | succ d ih =>
      intro i hi;(have hlt : i < l.length := by omega);rw [List.drop_eq_getElem_cons hlt, List.take_succ_cons, List.all_cons, Bool.and_assoc];refine Ev.step (f := fun k => bf.j1 k l (i : Int) true) (fun k => ?_) (Ev.step (f := fun k => (cS.f k l[i].f0 l[i].f1 l[i].f2 l[i].f3).bind fun t147 => (if t147 = true then (bf.l0 k l ((i + 1 : Nat) : Int)) else (some false))) (fun k => ?_) (Ev.bind (name_s l[i] (h.n _ (List.getElem_mem hlt))) ?_));(·simp only [bf.l0];rw [if_pos (by omega), decide_eq_true (by omega)]);(·simp only [bf.j1, rdN l i hlt];rw [if_pos trivial, if_pos (by omega), if_pos (by omega), dh i l.length hlt hl])
      · cases fH l[i] with
        | false => exact Ev.congr (fun _ => if_neg (by decide)) (Ev.now _)
        | true =>
          rw [Bool.true_and];exact Ev.congr (fun _ => if_pos rfl) (ih (i + 1) (by omega))
  have := lp (min l.length 5) 0 (by omega);rw [List.drop_zero] at this;unfold bf.f fQ;by_cases c : l.length <= 4;(·rw [Nat.min_eq_left (by omega), List.take_of_length_le (Nat.le_refl _)] at this;exact this);(·rw [decide_eq_false c, Bool.and_false] at this ⊢;exact this)
theorem lI (l : List Nm) (h : iB l) : Ev (fun k => dg.f k l) (fQ l) := by
  have hl := h.l;unfold dg.f fQ;by_cases c : l.length <= 4
  · rw [decide_eq_true c, Bool.and_true]
    have lp : ∀ (d i : Nat), i + d = l.length -> ∃ r : Int, Ev (fun k => cJ.l0 k l (l.length : Int) (i : Int)) r /\ decide (r >= 0) = !(l.drop i).all fH := fun d => by
      induction d with
      | zero =>
        intro i hi;refine ⟨-1, Ev.step (f := fun _ => some (-1)) (fun k => ?_) (Ev.now _), ?_⟩;(·simp only [cJ.l0];rw [if_neg (by omega)]);(·(rw [List.drop_of_length_le (by omega)]; rfl))
      | succ d ih =>
        intro i hi;(have hlt : i < l.length := by omega);obtain ⟨r, e, hr⟩ := ih (i + 1) (by omega)
        have hc : Ev (fun k => dy.f k l[i].f0 l[i].f1 l[i].f2 l[i].f3) (!fH l[i]) := by
          unfold dy.f;exact Ev.bind (name_i l[i] (h.n _ (List.getElem_mem hlt))) (Ev.now _)
        rw [List.drop_eq_getElem_cons hlt, List.all_cons]
        have st : ∀ R : Int, Ev (fun k => if (!fH l[i]) = true then (some (i : Int)) else (cJ.l0 k l (l.length : Int) ((i + 1 : Nat) : Int))) R -> Ev (fun k => cJ.l0 k l (l.length : Int) (i : Int)) R := fun R hR => by
          refine Ev.step (f := fun k => (dy.f k l[i].f0 l[i].f1 l[i].f2 l[i].f3).bind fun t318 => (if t318 = true then (some (i : Int)) else (cJ.l0 k l (l.length : Int) ((i + 1 : Nat) : Int)))) (fun k => ?_) (Ev.bind hc hR);simp only [cJ.l0, rdN l i hlt];rw [if_pos (by omega), if_pos (by omega), if_pos (by omega), dh i l.length hlt hl]
        cases hv : fH l[i] with
        | false =>
          rw [hv] at st;exact ⟨(i : Int), st _ (Ev.congr (fun _ => if_pos rfl) (Ev.now _)), by rw [decide_eq_true (by omega)]; rfl⟩
        | true =>
          rw [hv] at st;exact ⟨r, st _ (Ev.congr (fun _ => if_neg (by decide)) e), by rw [hr, Bool.true_and]⟩
    obtain ⟨r, e, hr⟩ := lp l.length 0 (by omega);rw [List.drop_zero] at hr;refine Ev.congr (fun _ => if_pos (by omega)) ?_
    have e2 : Ev (fun k => eH.f k l ()) (!l.all fH) := by
      rw [<- hr];exact Ev.bind (a := r) e (Ev.now _)
    refine Ev.bind e2 ?_;rw [Bool.not_not];exact Ev.now _
  · rw [decide_eq_false c, Bool.and_false]
    exact Ev.congr (fun _ => if_neg (by omega)) (Ev.now _)

end Go.Proofs.YtiaelacjjbdolaaGreatDoor.Pure
