/- Lemmas on the printed functions, without Go and memory. -/
import Derived.Test.YtiaelacjjbdolaaGreatDoorPx1
import Derived.Test.YtiaelacjjbdolaaGreatDoorPx2
import Derived.Test.YtiaelacjjbdolaaGreatDoorPx4
import Derived.Test.YtiaelacjjbdolaaGreatDoorPx5
import Derived.Test.YtiaelacjjbdolaaGreatDoorQEntE
namespace Go.Proofs.YtiaelacjjbdolaaGreatDoor.Pure
open Go.RowKit Go.Proofs.YtiaelacjjbdolaaGreatDoor.Px Go.Proofs.YtiaelacjjbdolaaGreatDoorW.PrintWords Go.Proofs.YtiaelacjjbdolaaGreatDoorW.PrintLast
set_option linter.unusedVariables false
set_option linter.unusedSimpArgs false

theorem iT (s : ByteArray) (a b : Nat) : (s.extract a b).data.toList = (s.data.toList.drop a).take (b - a) := by
  rw [ByteArray.data_extract, Array.toList_extract]
def jY (u : UInt8) : UInt8 := UInt8.ofNat (ag.low (u.toNat : Int)).toNat
theorem nC : aj.low = ag.low := rfl
theorem jU (s : ByteArray) : (strOfNums ((aQ s).map ag.low)).data.toList = s.data.toList.map jY := by
  simp [strOfNums, aQ, jY]
theorem k8 (s : ByteArray) (hs : s.size <= 140737488351232) : ∃ t, ag.f s = some t /\ aj.f s = some t /\ t.data.toList = s.data.toList.map jY := by
  refine ⟨strOfNums ((aQ s).map ag.low), ?_, ?_, jU s⟩;(·(unfold ag.f; rw [if_pos hs]));(·(unfold aj.f; rw [if_pos hs, nC]))

theorem ka (b : Int) : cp.f b = some (ae.isL b) := by
  unfold cp.f ae.isL;by_cases h : b >= 97;(·(rw [if_pos h, decide_eq_true h]; rfl));(·(rw [if_neg h, decide_eq_false h]; rfl))
theorem kt (b : Int) : eC.f b = some (ae.isD b) := by
  unfold eC.f ae.isD;by_cases h : b >= 48;(·(rw [if_pos h, decide_eq_true h]; rfl));(·(rw [if_neg h, decide_eq_false h]; rfl))
theorem j9 (t : ByteArray) (i : Int) (h0 : 0 <= i) (h1 : i < (t.size : Int)) : (aQ t).drop i.toNat = bt t i :: (aQ t).drop (i + 1).toNat := by
  rw [ju 0 (aQ t) i h0 (by rw [dG]; exact h1)];(congr 1);exact ga t i
theorem l8 (t : ByteArray) (i : Int) (h1 : i = (t.size : Int)) : (aQ t).drop i.toNat = [] := jm _ i (by rw [dG]; omega)
theorem me (t : ByteArray) (ht : t.size <= 1048576) (d : Nat) : ∀ (k : Nat) (i : Int) (out : List Int) (gap : Bool), 0 <= i -> i + d = t.size -> 2 * d < k -> (out.length : Int) <= 2 * i -> bg.l0 k out gap t i = some (strOfNums (ae.fold out gap ((aQ t).drop i.toNat))) := by
  induction d with
  | zero =>
    intro k i out gap h0 h1 hk ho
    obtain ⟨k, rfl⟩ : ∃ m, k = m + 1 := ⟨k - 1, by omega⟩
    simp only [bg.l0];rw [if_neg (by omega), l8 t i (by omega), ae.fold]
  | succ d ih =>
    intro k i out gap h0 h1 hk ho
    obtain ⟨k, rfl⟩ : ∃ m, k = m + 2 := ⟨k - 2, by omega⟩
    have hw : wrap64 (i + 1) = i + 1 := aU (by omega) (by omega);simp only [bg.l0];rw [if_pos (by omega), if_pos h0, ka, kt, Option.bind_some, j9 t i h0 (by omega)];generalize bt t i = b;(have IH := fun out gap (hl : (out.length : Int) <= 2 * (i + 1)) => ih k (i + 1) out gap (by omega) (by omega) (by omega) hl)
    have main : ∀ v : Bool, v = !(ae.isL b || ae.isD b) -> bg.j1 (k + 1) out gap t i b v = some (strOfNums (ae.fold out gap (b :: (aQ t).drop (i + 1).toNat))) := by
      intro v hv;simp only [bg.j1, hw, Option.bind_some]
      cases hL : (ae.isL b || ae.isD b) with
      | false =>
        rw [hL] at hv;subst hv;rw [ae.skip _ _ _ _ hL, if_pos (by decide)]
        cases gap with
        | true => rw [if_pos rfl, Bool.true_or]; exact IH _ _ (by omega)
        | false => rw [if_neg (by decide), Bool.false_or]; exact IH _ _ (by omega)
      | true =>
        rw [hL] at hv;subst hv;rw [if_neg (by decide)]
        cases gap with
        | false =>
          rw [if_neg (by decide), if_pos (by omega), ae.take0 _ _ _ _ hL rfl];exact IH _ _ (by rw [List.length_append]; simp; omega)
        | true =>
          rw [if_pos rfl];by_cases hn : 0 < out.length;(·rw [if_pos (by omega), if_pos (by omega), if_pos (by rw [List.length_append]; simp; omega), ae.take1 _ _ _ _ hL (by rw [decide_eq_true hn]; rfl)];exact IH _ _ (by rw [List.length_append, List.length_append]; simp; omega));(·rw [if_neg (by omega), if_pos (by omega), ae.take0 _ _ _ _ hL (by rw [decide_eq_false hn]; rfl)];exact IH _ _ (by rw [List.length_append]; simp; omega))
    cases hL : ae.isL b with
    | true => rw [if_pos rfl]; exact main false (by rw [hL]; rfl)
    | false =>
      rw [if_neg (by decide), Option.bind_some];exact main _ (by rw [hL, Bool.false_or])
theorem lP (l : List Int) (h : ∀ b ∈ l, 0 <= b /\ b <= 255) : aQ (strOfNums l) = l := by
  induction l with
  | nil => rfl
  | cons x l ih =>
    have hx := h x (by simp);have := ih (fun b hb => h b (List.mem_cons_of_mem _ hb));simp only [strOfNums, aQ] at this ⊢;simp only [List.map_cons, List.map_map] at this ⊢;rw [this];(congr 1)
    have e : (UInt8.ofNat x.toNat).toNat = x.toNat := by
      rw [UInt8.toNat_ofNat'];omega
    omega
def gR (s : ByteArray) : ByteArray := strOfNums (ae.fold [] false ((aQ s).map ag.low))
theorem lO (s : ByteArray) : ∀ b ∈ (aQ s).map ag.low, 0 <= b /\ b <= 255 := fun b hb => by
  obtain ⟨c, hc, rfl⟩ := List.mem_map.1 hb
  have hr : 0 <= c /\ c <= 255 := by
    unfold aQ at hc;obtain ⟨u, _, rfl⟩ := List.mem_map.1 hc;have := u.toNat_lt;omega
  unfold ag.low ag.isU
  split
  · rename_i c
    simp only [Bool.and_eq_true, decide_eq_true_eq] at c;omega
  · exact hr
theorem mv (s : ByteArray) (hs : s.size <= 1048576) (k : Nat) (hk : 2097160 < k) : bg.f k s = some (gR s) /\ ae.f s = some (gR s) := by
  (have hz : (strOfNums ((aQ s).map ag.low)).size = s.size := by rw [strOfNums_size, List.length_map, dG]);have hb : aQ (strOfNums ((aQ s).map ag.low)) = (aQ s).map ag.low := lP _ (lO s);(have h1 : ag.f s = some (strOfNums ((aQ s).map ag.low)) := by unfold ag.f; rw [if_pos (by omega)]);(have h2 : aj.f s = some (strOfNums ((aQ s).map ag.low)) := by unfold aj.f; rw [if_pos (by omega), nC]);unfold gR;generalize hu : strOfNums ((aQ s).map ag.low) = u at h1 h2 hz hb;rw [<- hb];(constructor);(·unfold bg.f;rw [h2, Option.bind_some, me u (by omega) u.size k 0 [] false (by omega) (by omega) (by omega) (by simp)];rfl);(·unfold ae.f;rw [h1, Option.bind_some, if_pos (by omega)])

theorem iq (P : UInt8 -> Prop) : ∀ (l c : List UInt8), (∀ w ∈ dX c l, ∀ b ∈ w, P b) -> (∀ b ∈ c, P b) /\ ∀ b ∈ l, P b \/ b = 32
  | [], c, h => ⟨h c (by simp [dX]), fun b hb => by cases hb⟩
  | b :: l, c, h => by
    rw [dX] at h;by_cases e : b = 32;(·rw [if_pos e] at h;obtain ⟨_, h2⟩ := iq P l [] (fun w hw => h w (List.mem_cons_of_mem _ hw));refine ⟨h c (by simp), fun x hx => ?_⟩;(rcases List.mem_cons.1 hx with rfl | hx);(·exact .inr e);(·exact h2 x hx));(·rw [if_neg e] at h;obtain ⟨h1, h2⟩ := iq P l (c ++ [b]) h;refine ⟨fun x hx => h1 x (by simp [hx]), fun x hx => ?_⟩;(rcases List.mem_cons.1 hx with rfl | hx);(·exact .inl (h1 x (by simp)));(·exact h2 x hx))
theorem bt_mem (s : ByteArray) (b : UInt8) (hb : b ∈ s.data.toList) : ∃ j : Nat, j < s.size /\ bt s (j : Int) = (b.toNat : Int) := by
  obtain ⟨j, hj, rfl⟩ := List.getElem_of_mem hb;(have hj2 : j < s.size := by rw [cQ] at hj; exact hj);obtain ⟨b, h1, h2⟩ := drop_at s (j : Int) (by omega) (by omega);refine ⟨j, hj2, h2.trans ?_⟩;rw [Int.toNat_natCast, List.drop_eq_getElem_cons hj] at h1;rw [(List.cons.inj h1).1]
theorem lU (b : UInt8) (h : fY (b.toNat : Int) = true \/ b = 32) : jY b = b := by
  have hl : ag.low (b.toNat : Int) = (b.toNat : Int) := by
    (rcases h with h | h);(·exact ng _ h);(·(rw [h]; decide))
  unfold jY;rw [hl, Int.toNat_natCast, UInt8.ofNat_toNat]
theorem nV (s : ByteArray) (h : gg s = true) : gn s = s := by
  refine nv _ _ ?_;unfold gn;rw [jU];unfold gg at h
  have key : ∀ b ∈ s.data.toList, fY (b.toNat : Int) = true \/ b = 32 := by
    (rcases Bool.or_eq_true_iff.1 h with h | h);(·rw [fU s (of_decide_eq_true h)];intro b hb;cases hb);(·rw [Bool.and_eq_true] at h;refine (iq (fun b => fY (b.toNat : Int) = true) s.data.toList [] (fun w hw b hb => ?_)).2;have hl := List.all_eq_true.1 h.1 (ofL w) (List.mem_map_of_mem hw);unfold jv at hl;rw [Bool.and_eq_true] at hl;obtain ⟨j, hj, e⟩ := bt_mem (ofL w) b (by rw [hU]; exact hb);have := fS _ _ _ hl.2 j (by omega) (by omega);rw [e] at this;exact this)
  calc s.data.toList.map jY = s.data.toList.map id := List.map_congr_left (fun b hb => lU b (key b hb))
    _ = s.data.toList := List.map_id _
theorem nml (n : Nm) (o : jf n) (h : fH n = true) : NmL n := by
  refine ⟨nm_v n o h, nV _ ?_⟩;unfold fH at h;simp only [Bool.and_eq_true] at h;exact h.2.1
def cmI (a b : Int) : Int := if a < b then -1 else if b < a then 1 else 0
theorem cmI_i (a b : Int) : cE.f a b = some (cmI a b) := by
  unfold cE.f ek.f cmI;simp only [Option.bind_some];by_cases c : a < b;(·simp [c]);(·by_cases d : b < a;(·simp [c, d]);(·simp [c, d]))
def dtK (e : En) : Int := (e.y * 13 + e.m) * 32 + e.d
def dtC (e f : En) : Int := if dtK e < dtK f then -1 else if dtK f < dtK e then 1 else if e.c = true then (if f.c = true then 0 else 1) else (if f.c = true then -1 else 0)
structure m9 (e : En) : Prop where
  y0 : 0 <= e.y
  y1 : e.y <= 2999
  m0 : 0 <= e.m
  m1 : e.m <= 12
  d0 : 0 <= e.d
  d1 : e.d <= 31
theorem dt_s (e f : En) (he : m9 e) (hf : m9 f) : Ev (fun k => ci.f k e.y e.m e.d e.c f.y f.m f.d f.c) (dtC e f) := by
  obtain ⟨a1, a2, a3, a4, a5, a6⟩ := he;obtain ⟨b1, b2, b3, b4, b5, b6⟩ := hf;have w1 : wrap64 (e.y * 13) = e.y * 13 := aU (by omega) (by omega);have w2 : wrap64 (e.y * 13 + e.m) = e.y * 13 + e.m := aU (by omega) (by omega);have w3 : wrap64 ((e.y * 13 + e.m) * 32) = (e.y * 13 + e.m) * 32 := aU (by omega) (by omega);have w4 : wrap64 ((e.y * 13 + e.m) * 32 + e.d) = (e.y * 13 + e.m) * 32 + e.d := aU (by omega) (by omega);have v1 : wrap64 (f.y * 13) = f.y * 13 := aU (by omega) (by omega);have v2 : wrap64 (f.y * 13 + f.m) = f.y * 13 + f.m := aU (by omega) (by omega);have v3 : wrap64 ((f.y * 13 + f.m) * 32) = (f.y * 13 + f.m) * 32 := aU (by omega) (by omega);have w5 : wrap64 ((e.y * 13 + e.m) * 32 + e.d - (f.y * 13 + f.m) * 32) = (e.y * 13 + e.m) * 32 + e.d - (f.y * 13 + f.m) * 32 := aU (by omega) (by omega)
  have w6 : wrap64 ((e.y * 13 + e.m) * 32 + e.d - (f.y * 13 + f.m) * 32 - f.d) = dtK e - dtK f := by
    unfold dtK;rw [aU (by omega) (by omega)];omega
  unfold ci.f;rw [w1, w2, w3, w4, v1, v2, v3, w5, w6];unfold dtC
  have j : ∀ (D : Int) (b : Bool), Ev (fun k => ci.j0 k D b e.y e.m e.d e.c f.y f.m f.d f.c) (if b = true then -1 else if D > 0 then 1 else if e.c = true then (if f.c = true then 0 else 1) else 0) := fun D b => by
    refine Ev.step (f := fun _ => some (if b = true then -1 else if D > 0 then 1 else if e.c = true then (if f.c = true then 0 else 1) else 0)) (fun k => ?_) (Ev.now _);simp only [ci.j0]
    (repeat' split) <;> rfl
  by_cases c1 : dtK e < dtK f;(·rw [if_pos c1];exact Ev.congr (fun _ => if_pos (by omega)) (j _ true))
  · rw [if_neg c1]
    refine Ev.congr (fun _ => if_neg (by omega)) ?_;by_cases c2 : dtK f < dtK e;(·rw [if_pos c2];refine Ev.congr (fun _ => if_neg (by omega)) ?_;have := j (dtK e - dtK f) false;rw [if_neg (by decide), if_pos (by omega)] at this;exact this)
    · rw [if_neg c2]
      refine Ev.congr (fun _ => if_pos (by omega)) ?_
      cases hc : e.c with
      | true =>
        have := j (dtK e - dtK f) false;rw [hc] at this;rw [if_neg (by decide), if_neg (by omega)] at this;exact Ev.congr (fun _ => if_pos rfl) this
      | false =>
        have := j (dtK e - dtK f) f.c;rw [hc] at this;rw [if_neg (show ¬ dtK e - dtK f > 0 from by omega)] at this;exact Ev.congr (fun _ => if_neg (by decide)) this
theorem mK (a b x : Int) : orI (cmI a b) x = if a < b then -1 else if b < a then 1 else x := by
  unfold orI cmI;by_cases c : a < b;(·simp [c]);(·by_cases d : b < a;(·simp [c, d]);(·simp [c, d]))
theorem dt_lex (y m d y' m' d' x : Int) (a3 : 0 <= m) (a4 : m <= 12) (a5 : 0 <= d) (a6 : d <= 31) (b3 : 0 <= m') (b4 : m' <= 12) (b5 : 0 <= d') (b6 : d' <= 31) :
    orI (cmI y y') (orI (cmI m m') (orI (cmI d d') x)) = if (y * 13 + m) * 32 + d < (y' * 13 + m') * 32 + d' then -1 else if (y' * 13 + m') * 32 + d' < (y * 13 + m) * 32 + d then 1 else x := by
  rw [mK, mK, mK];by_cases c1 : y < y';(·rw [if_pos c1, if_pos (by omega)]);(·rw [if_neg c1];by_cases c2 : y' < y;(·rw [if_pos c2, if_neg (by omega), if_pos (by omega)]);(·rw [if_neg c2];by_cases c3 : m < m';(·rw [if_pos c3, if_pos (by omega)]);(·rw [if_neg c3];by_cases c4 : m' < m;(·rw [if_pos c4, if_neg (by omega), if_pos (by omega)]);(·rw [if_neg c4];by_cases c5 : d < d';(·rw [if_pos c5, if_pos (by omega)]);(·rw [if_neg c5];by_cases c6 : d' < d;(·rw [if_pos c6, if_neg (by omega), if_pos (by omega)]);(·rw [if_neg c6, if_neg (by omega), if_neg (by omega)]))))))
theorem cir (a b : Bool) : cmI (if a = true then 1 else 0) (if b = true then 1 else 0) = if a = true then (if b = true then 0 else 1) else (if b = true then -1 else 0) := by
  cases a <;> cases b <;> decide
theorem dt_i (e f : En) (he : m9 e) (hf : m9 f) : Ev (fun k => bI.f k e.y e.m e.d e.c f.y f.m f.d f.c) (dtC e f) := by
  obtain ⟨a1, a2, a3, a4, a5, a6⟩ := he;obtain ⟨b1, b2, b3, b4, b5, b6⟩ := hf
  have hci : ∀ (y m d : Int) (c : Bool), dq.f y m d c = some (if c = true then 1 else 0) := fun y m d c => by
    unfold dq.f;(split <;> rfl)
  unfold bI.f;simp only [cmI_i, hci, Option.bind_some];refine Ev.bind (lh [cmI e.y f.y, cmI e.m f.m, cmI e.d f.d, cmI (if e.c = true then 1 else 0) (if f.c = true then 1 else 0)] (by simp)) (Ev.congr (fun _ => ?_) (Ev.now _))
  have h : orL [cmI e.y f.y, cmI e.m f.m, cmI e.d f.d, cmI (if e.c = true then 1 else 0) (if f.c = true then 1 else 0)] = dtC e f := by
    simp only [orL, ij];rw [cir, dt_lex _ _ _ _ _ _ _ a3 a4 a5 a6 b3 b4 b5 b6];rfl
  rw [h]
def iY (s : ByteArray) : List ByteArray -> ByteArray
  | [] => s
  | w :: ws => if w.size <= s.size /\ (s.data.toList.take w.size).map jY = w.data.toList then s.extract w.size s.size else iY s ws
theorem go (s : ByteArray) : ∀ ws, (iY s ws).size <= s.size
  | [] => Nat.le_refl _
  | w :: ws => by
    rw [iY];(split);(·(rw [ByteArray.size_extract]; omega));(·exact go s ws)
theorem drop_x (s : ByteArray) (hs : s.size <= 1048576) (ws : List ByteArray) (hw : ∀ w ∈ ws, w.size <= 4) (hl : ws.length <= 1000) (d : Nat) : ∀ (k : Nat) (i : Int), 0 <= i -> i + d = ws.length -> d < k ->
    bs.l0 k s ws i = some (iY s (ws.drop i.toNat)) /\ bw.l0 k s ws (ws.length : Int) i = some (iY s (ws.drop i.toNat)) := by
  induction d with
  | zero =>
    intro k i h0 h1 hk
    obtain ⟨k, rfl⟩ : ∃ m, k = m + 1 := ⟨k - 1, by omega⟩
    rw [jm ws i (by omega)];refine ⟨?_, ?_⟩;(·(simp only [bs.l0]; rw [if_neg (by omega)]; rfl));(·(simp only [bw.l0]; rw [if_neg (by omega)]; rfl))
  | succ d ih =>
    intro k i h0 h1 hk
    obtain ⟨k, rfl⟩ : ∃ m, k = m + 1 := ⟨k - 1, by omega⟩
    have hsz := hw _ (nD ByteArray.empty ws i h0 (by omega));have e : aC ByteArray.empty ws i = ws.getD i.toNat ByteArray.empty := rfl;have hwr : wrap64 (i + 1) = i + 1 := aU (by omega) (by omega);have IH := ih k (i + 1) (by omega) (by omega) (by omega);rw [ju ByteArray.empty ws i h0 (by omega), iY];simp only [bs.l0, bw.l0, e, hwr];generalize ws.getD i.toNat ByteArray.empty = w at *;(have hmn : mn (s.size : Int) 4 = if (s.size : Int) < 4 then (s.size : Int) else 4 := by unfold mn; split <;> omega);rw [if_pos (show i < (ws.length : Int) from by omega), if_pos h0, if_pos (show i < (ws.length : Int) from by omega), if_pos h0, if_pos (show i < (ws.length : Int) from by omega)];(have hm0 : 0 <= mn (s.size : Int) 4 := by rw [hmn]; split <;> omega);(have hm1 : mn (s.size : Int) 4 <= (s.size : Int) := by rw [hmn]; split <;> omega);(have hm4 : mn (s.size : Int) 4 <= 4 := by rw [hmn]; split <;> omega);(have hmw : (w.size : Int) <= (s.size : Int) -> (w.size : Int) <= mn (s.size : Int) 4 := by intro h; rw [hmn]; split <;> omega);rw [if_pos hm0, if_pos hm1];obtain ⟨t4, i4, s4, l4⟩ := k8 (s.extract 0 (mn (s.size : Int) 4).toNat) (by rw [ByteArray.size_extract]; omega);rw [iT, List.drop_zero, Nat.sub_zero] at l4
    have z4 : t4.size = (mn (s.size : Int) 4).toNat := by
      rw [<- cQ, l4, List.length_map, List.length_take, cQ];omega
    rw [i4, Option.bind_some];unfold dB.f dw.f;by_cases c : (s.size : Int) >= (w.size : Int)
    · have c4 := hmw c
      rw [if_pos c, if_pos (show 0 <= (w.size : Int) from by omega), if_pos (show (w.size : Int) <= (s.size : Int) from c), if_pos (show (t4.size : Int) >= (w.size : Int) from by omega), if_pos (show (w.size : Int) <= (t4.size : Int) from by omega)];obtain ⟨tn, _, sn, ln⟩ := k8 (s.extract 0 ((w.size : Int) : Int).toNat) (by rw [ByteArray.size_extract]; omega);rw [iT, List.drop_zero, Nat.sub_zero] at ln;rw [sn, Option.bind_some, if_pos (show 0 <= (w.size : Int) from by omega), Option.bind_some, Option.bind_some]
      have key : (t4.extract 0 ((w.size : Int) : Int).toNat).toList = tn.toList := by
        rw [Lib.toList_data, Lib.toList_data, iT, List.drop_zero, Nat.sub_zero, l4, ln, <- List.map_take, List.take_take, Nat.min_eq_left (by omega)]
      rw [key];rw [Int.toNat_natCast] at ln;by_cases hq : tn.toList = w.toList;(·(have hq2 : (s.data.toList.take w.size).map jY = w.data.toList := by rw [<- ln, <- Lib.toList_data, <- Lib.toList_data, hq]);rw [if_pos hq, beq_iff_eq.mpr hq, if_pos rfl, if_pos (show 0 <= (w.size : Int) from by omega), if_pos (show (w.size : Int) <= (s.size : Int) from c), if_pos ⟨by omega, hq2⟩, Int.toNat_natCast];exact ⟨rfl, rfl⟩);(·rw [if_neg hq, beq_eq_false_iff_ne.mpr hq, if_neg (show ¬ (false = true) from by decide), if_neg (fun h => hq (by rw [Lib.toList_data, Lib.toList_data, ln, h.2]))];exact IH)
    · rw [if_neg c, if_neg (show ¬ (t4.size : Int) >= (w.size : Int) from by omega), Option.bind_some, Option.bind_some, if_neg (show ¬ (false = true) from by decide), if_neg (fun h => c (by have := h.1; omega))]
      exact IH
def l7 : List ByteArray := [(⟨#[97, 32]⟩ : ByteArray), (⟨#[97, 110, 32]⟩ : ByteArray), (⟨#[116, 104, 101, 32]⟩ : ByteArray)]
def gt (s : ByteArray) : ByteArray := iY s l7
theorem iG (s : ByteArray) (hs : s.size <= 1048576) : Ev (fun k => bs.f k s) (gt s) /\ Ev (fun k => bw.f k s) (gt s) := by
  (have := fun (k : Nat) (hk : 5 <= k) => drop_x s hs l7 (by decide) (by decide) 3 k 0 (by omega) (by decide) (by omega));exact ⟨⟨5, fun k hk => (this k hk).1⟩, ⟨5, fun k hk => (this k hk).2⟩⟩
def mI (a b : ByteArray) : Int := orI (cb (gR a) (gR b)) (cb a b)
theorem mO (a b : ByteArray) (ha : a.size <= 1048576) (hb : b.size <= 1048576) : Ev (fun k => dY.f k a b) (mI a b) /\ Ev (fun k => eD.f k a b) (mI a b) := by
  have fs : ∀ x : ByteArray, x.size <= 1048576 -> Ev (fun k => bg.f k x) (gR x) := fun x hx => ⟨2097161, fun k hk => (mv x hx k (by omega)).1⟩
  (have fi : ∀ x : ByteArray, x.size <= 1048576 -> ae.f x = some (gR x) := fun x hx => (mv x hx 2097161 (by omega)).2);(constructor);(·unfold dY.f;exact Ev.bind (fs a ha) (Ev.bind (fs b hb) (gI (Ev.now _))));(·unfold eD.f;simp only [fi a ha, fi b hb, Option.bind_some, mD];have := lh [cb (gR a) (gR b), cb a b] (by simp);simp only [orL, ij] at this;exact Ev.bind this (Ev.now _))

end Go.Proofs.YtiaelacjjbdolaaGreatDoor.Pure
