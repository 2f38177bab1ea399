/- Lemmas on the printed functions, without Go and memory. -/
import Derived.Test.YtiaelacjjbdolaaGreatDoorPx1
import Derived.Test.YtiaelacjjbdolaaGreatDoorPx3
import Derived.Test.YtiaelacjjbdolaaGreatDoorPx4
import Derived.Test.YtiaelacjjbdolaaGreatDoorPx5
import Derived.Test.YtiaelacjjbdolaaGreatDoorQYrI
namespace Go.Proofs.YtiaelacjjbdolaaGreatDoor.Pure
open Go.RowKit Go.Proofs.YtiaelacjjbdolaaGreatDoor.Px Go.Proofs.YtiaelacjjbdolaaGreatDoorW.PrintWords Go.Proofs.YtiaelacjjbdolaaGreatDoorW.PrintLast
set_option linter.unusedVariables false
set_option linter.unusedSimpArgs false

theorem jJ (c : ByteArray -> ByteArray -> Int) : ∀ (K out : List ByteArray), (K.foldl (ft c) out).length = K.length + out.length
  | [], out => by simp
  | x :: K, out => by rw [List.foldl_cons, jJ c K, jd, List.length_cons]; omega

def yrs (L : List E2) : List Int := L.map fun x => x.f7.f0
def Yr (L : List E2) : List Int := ((yrs L).foldl eS []).reverse
def gps (L : List E2) (Y : List Int) : List (List ByteArray) := Y.map fun y => eN (eK L) (grp L y)
theorem mu (L : List E2) (i : Nat) (h : i < L.length) : (aa L (i : Int)).f7.f0 = (yrs L)[i]'(by unfold yrs; rw [List.length_map]; exact h) := by
  rw [fq L i h];unfold yrs;rw [List.getElem_map]
theorem sG2 (L : List E2) (v : LV L) (Y : List Int) (G : List (List ByteArray)) (s : List ByteArray) (hs : s.length <= 1048576) (hf : ∀ a ∈ s, 0 <= atK L a) (hG : G.length <= 1048576) (out : List Int) (n : Nat) (hn : n < Y.length) (hY : Y.length <= 1048576) (r : List Int × (List (List ByteArray)) × Bool) :
    ∀ (d j : Nat) (q : List ByteArray), j + d = s.length -> q.length <= j -> Ev (fun k => ai.l1 k Y (G ++ [q ++ (s.drop j).filter (yrP L Y[n])]) s out ((n : Int) - 1) L) r -> Ev (fun k => ai.l2 k Y G s out (n : Int) q (j : Int) L) r
  | 0, j, q, hj, hq, h => by
    rw [List.drop_of_length_le (by omega), List.filter_nil, List.append_nil] at h
    refine Ev.step (fun k => ?_) h
    simp only [ai.l2]
    rw [if_neg (by omega), if_pos (by omega), aU (by omega) (by omega)]
  | d + 1, j, q, hj, hq, h => by
    have hlt : j < s.length := by omega
    have hl := v.l
    have hx := hf _ (List.getElem_mem hlt)
    have hxl := j5 L s[j]
    rw [List.drop_eq_getElem_cons hlt] at h
    refine Ev.step (f := fun k => (ck.f k L s[j]).bind fun t => if 0 <= t then (if t < (L.length : Int) then (if (aa L t).f7.f0 = Y[n] then ai.l2 k Y G s out (n : Int) (q ++ [s[j]]) ((j + 1 : Nat) : Int) L else ai.l2 k Y G s out (n : Int) q ((j + 1 : Nat) : Int) L) else none) else none) (fun k => ?_) (Ev.bind (kC L (by omega) _) (Ev.congr (fun _ => (if_pos hx).trans (if_pos hxl)) ?_))
    · simp only [ai.l2, dW s j hlt, iy Y n hn, dh j s.length hlt hs]
      rw [if_pos (by omega), if_pos (by omega)]
      congr 1
      funext t
      congr 2
      rw [if_pos (by omega), if_pos (by omega), if_pos (show q.length < 8796093022208 from by omega)]
    · by_cases c : (aa L (atK L s[j])).f7.f0 = Y[n]
      · rw [List.filter_cons_of_pos (by unfold yrP; exact decide_eq_true c)] at h
        exact Ev.congr (fun _ => if_pos c) (sG2 L v Y G s hs hf hG out n hn hY r d (j + 1) (q ++ [s[j]]) (by omega) (by rw [List.length_append, List.length_singleton]; omega) (by rw [List.append_assoc]; exact h))
      · rw [List.filter_cons_of_neg (by unfold yrP; rw [decide_eq_false c]; decide)] at h
        exact Ev.congr (fun _ => if_neg c) (sG2 L v Y G s hs hf hG out n hn hY r d (j + 1) q (by omega) (by omega) h)
theorem sG1 (L : List E2) (v : LV L) (Y : List Int) (s : List ByteArray) (hs : s.length <= 1048576) (hf : ∀ a ∈ s, 0 <= atK L a) (hY : Y.length <= 1000) :
    ∀ (n : Nat) (G : List (List ByteArray)) (out : List Int), n <= Y.length -> G.length + n <= 1000 -> out.length + n <= 1000 -> Ev (fun k => ai.l1 k Y G s out ((n : Int) - 1) L) (out ++ (Y.take n).reverse, G ++ (Y.take n).reverse.map (fun y => s.filter (yrP L y)), true)
  | 0, G, out, _, _, _ => by
    refine Ev.step (f := fun _ => some (out, G, true)) (fun k => ?_) (by simp only [List.take_zero, List.reverse_nil, List.append_nil, List.map_nil]; exact Ev.now _)
    simp only [ai.l1]
    rw [if_neg (by omega)]
  | n + 1, G, out, hn, hG, ho => by
    have ih := sG1 L v Y s hs hf hY n (G ++ [s.filter (yrP L Y[n])]) (out ++ [Y[n]]) (by omega) (by rw [List.length_append, List.length_singleton]; omega) (by rw [List.length_append, List.length_singleton]; omega)
    rw [List.take_succ_eq_append_getElem (by omega : n < Y.length), List.reverse_append, List.reverse_singleton, List.singleton_append, List.map_cons]
    rw [List.append_assoc, List.append_assoc, List.singleton_append, List.singleton_append] at ih
    have h2 := sG2 L v Y G s hs hf (by omega) (out ++ [Y[n]]) n (by omega) (by omega) _ s.length 0 [] (by omega) (Nat.le_refl _) (by rw [List.drop_zero, List.nil_append]; exact ih)
    refine Ev.step (fun k => ?_) h2
    have en : (((n + 1 : Nat) : Int) - 1) = (n : Int) := by omega
    simp only [ai.l1, en, iy Y n (by omega)]
    rw [if_pos (by omega), if_pos (by omega), if_pos (by omega), if_pos (by omega)]
    rfl
theorem sG0 (L : List E2) (v : LV L) (G : List (List ByteArray)) (s : List ByteArray) (r : List Int × (List (List ByteArray)) × Bool) :
    ∀ (d i : Nat) (a : List Int), i + d = L.length -> a.length <= i -> Ev (fun k => ai.l1 k (((yrs L).drop i).foldl eS a) G s [] (((((yrs L).drop i).foldl eS a).length : Int) - 1) L) r -> Ev (fun k => ai.l0 k a G s (i : Int) L) r
  | 0, i, a, hi, ha, h => by
    have hl := v.l
    rw [List.drop_of_length_le (by unfold yrs; rw [List.length_map]; omega), List.foldl_nil] at h
    refine Ev.step (fun k => ?_) h
    simp only [ai.l0]
    rw [if_neg (by omega), aU (by omega) (by omega)]
  | d + 1, i, a, hi, ha, h => by
    have hl := v.l
    have hlt : i < L.length := by omega
    have hy : i < (yrs L).length := by unfold yrs; rw [List.length_map]; exact hlt
    rw [List.drop_eq_getElem_cons hy, List.foldl_cons] at h
    have ih := sG0 L v G s r d (i + 1) (eS a (yrs L)[i]) (by omega) (by have := kx a (yrs L)[i]; omega) h
    refine Ev.step (fun k => ?_) (Ev.bind (f := fun k t => ai.l0 k t G s ((i + 1 : Nat) : Int) L) (put_ev a (by omega) (yrs L)[i]) ih)
    simp only [ai.l0, mu L i hlt, dh i L.length hlt (by omega)]
    rw [if_pos (by omega), if_pos (by omega)]
theorem srt_f (L : List E2) (v : LV L) : (eN (eK L) (L.map (·.f0))).length <= 8 /\ ∀ a ∈ eN (eK L) (L.map (·.f0)), 0 <= atK L a := by
  have kv := lF L v;refine ⟨?_, fun a ha => kv.f a (by unfold eN at ha; simpa using (fT _ a _ []).1 ha)⟩;have h := jJ (eK L) (L.map (·.f0)) [];have := kv.l;unfold eN;rw [List.length_nil] at h;omega
theorem both_s (L : List E2) (o : LOk L) (c : gH L = true) : Ev (fun k => ai.f k L) (Yr L, gps L (Yr L), true) := by
  have v := lib_v L o c;have hl := v.l;have kv := lF L v;obtain ⟨s1, s2⟩ := srt_f L v;obtain ⟨p1, p2, p3⟩ := jw (yrs L) [] List.Pairwise.nil
  have h3 : ((yrs L).foldl eS []).length <= 8 := by
    unfold yrs at p3 ⊢;rw [List.length_map, List.length_nil] at p3;omega
  have h1 := sG1 L v ((yrs L).foldl eS []) _ (by omega) s2 (by omega) ((yrs L).foldl eS []).length [] [] (Nat.le_refl _) (by simp; omega) (by simp; omega);rw [List.take_length, List.nil_append, List.nil_append] at h1
  have e : (((yrs L).foldl eS []).reverse.map fun y => (eN (eK L) (L.map (·.f0))).filter (yrP L y)) = gps L (Yr L) := by
    unfold gps Yr;(exact List.map_congr_left fun y _ => grp_s L c v y)
  rw [e] at h1;unfold ai.f;simp only [Option.bind_some];exact Ev.bind (lib_s L o) (Ev.congr (fun _ => if_pos c) (Ev.bind (all_s L o.l L.length 0 (by omega)) (Ev.bind (sort_s L v _ kv) (sG0 L v [] _ _ L.length 0 [] (by omega) (Nat.le_refl _) (by rw [List.drop_zero]; exact h1)))))
theorem iG2 (L : List E2) (v : LV L) (out : List Int) (G : List (List ByteArray)) (hG : G.length <= 1000) (y : Int) (Z : List Int) (n i : Nat) (hi : i < 1000) (r : List Int × (List (List ByteArray)) × Bool) (h : Ev (fun k => ak.l1 k out (G ++ [eN (eK L) (grp L y)]) Z (n : Int) ((i + 1 : Nat) : Int) L) r) :
    ∀ (d j : Nat), j + d = L.length -> Ev (fun k => ak.l2 k out G y (((L.take j).filter fun x => decide (x.f7.f0 = y)).map (·.f0)) Z (n : Int) (i : Int) L (L.length : Int) (j : Int) L) r
  | 0, j, hj => by
    rw [List.take_of_length_le (by omega)]
    refine Ev.step (f := fun k => (ab.f k L (grp L y)).bind fun t => ak.l1 k out (G ++ [t]) Z (n : Int) ((i + 1 : Nat) : Int) L) (fun k => ?_) (Ev.bind (sort_i L v _ (nn L v y)) h)
    simp only [ak.l2]
    rw [if_neg (by omega)]
    show Option.bind _ _ = Option.bind _ _
    congr 1
    funext t
    rw [if_pos (by omega), aU (by omega) (by omega)]
    rfl
  | d + 1, j, hj => by
    have hl := v.l
    have hlt : j < L.length := by omega
    have ih := iG2 L v out G hG y Z n i hi r h d (j + 1) (by omega)
    have hq := List.length_filter_le (fun x : E2 => decide (x.f7.f0 = y)) (L.take j)
    have hk : ((L.take j).filter fun x => decide (x.f7.f0 = y)).length < 8796093022208 := by rw [List.length_take] at hq; omega
    rw [List.take_succ_eq_append_getElem hlt, List.filter_append, List.map_append] at ih
    refine Ev.step (fun k => ?_) ih
    simp only [ak.l2, fq L j hlt, dh j L.length hlt (by omega)]
    rw [if_pos (by omega), if_pos (by omega), if_pos (by omega)]
    by_cases c : L[j].f7.f0 = y
    · rw [if_pos c, if_pos (by rw [List.length_map]; exact hk), List.filter_cons_of_pos (by exact decide_eq_true c)]
      rfl
    · rw [if_neg c, List.filter_cons_of_neg (by rw [decide_eq_false c]; decide), List.filter_nil, List.map_nil, List.append_nil]
theorem iG1 (L : List E2) (v : LV L) (out : List Int) (Z : List Int) (hZ : Z.length <= 1000) :
    ∀ (d i : Nat) (G : List (List ByteArray)), i + d = Z.length -> G.length <= i -> Ev (fun k => ak.l1 k out G Z (Z.length : Int) (i : Int) L) (out, G ++ gps L (Z.drop i), true)
  | 0, i, G, hi, hG => by
    rw [List.drop_of_length_le (by omega)]
    refine Ev.step (f := fun _ => some (out, G, true)) (fun k => ?_) (by unfold gps; rw [List.map_nil, List.append_nil]; exact Ev.now _)
    simp only [ak.l1]
    rw [if_neg (by omega)]
  | d + 1, i, G, hi, hG => by
    have hlt : i < Z.length := by omega
    have ih := iG1 L v out Z hZ d (i + 1) (G ++ [eN (eK L) (grp L Z[i])]) (by omega) (by rw [List.length_append, List.length_singleton]; omega)
    rw [List.append_assoc, List.singleton_append] at ih
    have h2 := iG2 L v out G (by omega) Z[i] Z Z.length i (by omega) _ ih L.length 0 (by omega)
    rw [List.drop_eq_getElem_cons hlt]
    refine Ev.step (fun k => ?_) h2
    simp only [ak.l1, iy Z i hlt]
    rw [if_pos (by omega), if_pos (by omega), if_pos (by omega)]
    rfl
theorem yr_one (L : List E2) (z : List Int) (hz : z.Pairwise (fun a b => a <= b)) (hm : ∀ y, y ∈ z ↔ y ∈ yrs L) : (Lib.compact z).reverse = Yr L := by
  obtain ⟨c1, c2⟩ := cmp_p z hz;obtain ⟨p1, p2, p3⟩ := jw (yrs L) [] List.Pairwise.nil;unfold Yr;rw [kJ _ _ c1 p1 fun y => by rw [c2, hm, p2]; simp]
theorem iG0 (L : List E2) (v : LV L) : ∀ (d i : Nat), i + d = L.length -> Ev (fun k => ak.l0 k ((yrs L).take i) [] L (L.length : Int) (i : Int) L) (Yr L, gps L (Yr L), true)
  | 0, i, hi => by
    have hl := v.l;(have hy : (yrs L).length = L.length := by unfold yrs; rw [List.length_map]);rw [List.take_of_length_le (by omega)]
    obtain ⟨z, ez⟩ : ∃ z, z = (yrs L).mergeSort fun x y => decide (x <= y) := ⟨_, rfl⟩
    (have hn : z.length = (yrs L).length := by rw [ez, List.length_mergeSort]);have hc := aX.len z;have e2 := yr_one L z (ez ▸ sort_p _) (fun y => by rw [ez]; exact List.mem_mergeSort);(have hlen : (Yr L).length = (Lib.compact z).length := by rw [<- e2, List.length_reverse]);have h1 := iG1 L v (Yr L) (Yr L) (by omega) (Yr L).length 0 [] (by omega) (Nat.le_refl _);rw [List.drop_zero, List.nil_append] at h1;refine Ev.step (f := fun k => ak.l1 k (Yr L) [] (Yr L) ((Lib.compact z).length : Int) ((0 : Nat) : Int) L) (fun k => ?_) (by rw [<- hlen]; exact h1);simp only [ak.l0];rw [if_neg (by omega)];unfold cG.f aX.f bP.f;rw [if_pos (by omega), <- ez, Option.bind_some, if_pos (by omega), Option.bind_some, if_pos (by omega), Option.bind_some, e2];rfl
  | d + 1, i, hi => by
    have hl := v.l;(have hlt : i < L.length := by omega);(have hy : (yrs L).length = L.length := by unfold yrs; rw [List.length_map]);have ih := iG0 L v d (i + 1) (by omega);rw [List.take_succ_eq_append_getElem (by omega : i < (yrs L).length)] at ih;refine Ev.step (fun k => ?_) ih;simp only [ak.l0, mu L i hlt, dh i L.length hlt (by omega)];rw [if_pos (by omega), if_pos (by omega), if_pos (by omega), if_pos (by rw [List.length_take]; omega)]
structure ROk (R : List Int × (List (List ByteArray)) × Bool) : Prop where
  y : R.1.length <= 8
  g : R.2.1.length <= 8
  e : ∀ x ∈ R.2.1, x.length <= 8
  n : (R.2.1.map (·.head?)).Nodup
  z : none ∉ R.2.1.map (·.head?)
theorem both (L : List E2) (o : LOk L) : ∃ R, ROk R /\ Ev (fun k => ai.f k L) R /\ Ev (fun k => ak.f k L) R := by
  by_cases c : gH L = true
  · have v := lib_v L o c
    have hl := v.l;obtain ⟨p1, p2, p3⟩ := jw (yrs L) [] List.Pairwise.nil
    have h3 : (Yr L).length <= 8 := by
      unfold Yr;rw [List.length_reverse];(have hy : (yrs L).length = L.length := by unfold yrs; rw [List.length_map]);rw [List.length_nil] at p3;omega
    have hd := grp_hd L c (Yr L) (by
      unfold Yr
      exact List.pairwise_reverse.2 (p1.imp fun h e => by omega)) (fun y hy => by
      unfold Yr at hy;rw [List.mem_reverse, p2] at hy;obtain ⟨x, hx, e⟩ := List.mem_map.1 (hy.resolve_left (by simp))
      exact ⟨x, hx, e⟩)
    refine ⟨(Yr L, gps L (Yr L), true), ⟨h3, by unfold gps; rw [List.length_map]; exact h3, fun x hx => ?_, hd.1, hd.2⟩, both_s L o c, ?_⟩;(·obtain ⟨y, _, rfl⟩ := List.mem_map.1 hx;have h := jJ (eK L) (grp L y) [];have := (nn L v y).l;unfold eN;rw [List.length_nil] at h;omega);(·unfold ak.f;exact Ev.bind (lib_i L o) (Ev.congr (fun _ => if_pos c) (iG0 L v L.length 0 (by omega))))
  · refine ⟨([], [], false), ⟨by simp, by simp, by simp, by simp, by simp⟩, ?_, ?_⟩
    (·unfold ai.f;simp only [Option.bind_some];exact Ev.bind (lib_s L o) (Ev.congr (fun _ => if_neg c) (Ev.now _)));(·unfold ak.f;exact Ev.bind (lib_i L o) (Ev.congr (fun _ => if_neg c) (Ev.now _)))

end Go.Proofs.YtiaelacjjbdolaaGreatDoor.Pure
