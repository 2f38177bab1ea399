/- Lemmas on the printed functions, without Go and memory. -/
import Derived.Test.YtjckholdcgjdnaaDoorPx2
import Derived.Test.YtjckholdcgjdnaaDoorPx3
import Derived.Test.YtjckholdcgjdnaaDoorPx4
import Derived.Test.YtjckholdcgjdnaaDoorPx7
import Derived.Test.YtjckholdcgjdnaaDoorQMerge
namespace Go.Proofs.YtjckholdcgjdnaaDoor.Pure
open Go.RowKit Go.Proofs.YtjckholdcgjdnaaDoor.Px Go.Proofs.YtjckholdcgjdnaaDoorW.PrintWords Go.Proofs.YtjckholdcgjdnaaDoorW.PrintLast
set_option linter.unusedVariables false
set_option linter.unusedSimpArgs false

/-! the sort of the program -/
theorem mid_get (A : List Sp) (b : Sp) (C : List Sp) : (A ++ b :: C).getD A.length z27 = b := by simp [List.getD_eq_getElem?_getD]
theorem mid_get1 (A : List Sp) (a b : Sp) (C : List Sp) : (A ++ a :: b :: C).getD (A.length + 1) z27 = b := by
  simp [List.getD_eq_getElem?_getD]
theorem mid_swap (A : List Sp) (a b u v : Sp) (C : List Sp) : ((A ++ a :: b :: C).set (A.length + 1) u).set A.length v = A ++ v :: u :: C := by
  simp [List.set_append]
theorem ins_l1 (n i : Nat) (hn : n ≤ 1000) (R2 : List Sp) : ∀ (P : List Sp) (x : Sp) (T : List Sp), (∀ y ∈ P ++ x :: T, okr y = true) → Srt key2 (P ++ T) → (∀ y ∈ T, key2 x ≤ key2 y) → P.length + 1 + T.length = i + 1 → P.length + 1 + T.length + R2.length = n → (∀ y ∈ R2, okr y = true) →
    ∃ Q, Q.Perm (P ++ x :: T) ∧ Srt key2 Q ∧ ∀ R, Ev (fun k => impl_PageRange_118.l0 k (Q ++ R2) 0 (n : Int) ((i + 1 : Nat) : Int)) R → Ev (fun k => impl_PageRange_118.l1 k (P ++ x :: T ++ R2) 0 (n : Int) (i : Int) (P.length : Int)) R := by
  intro P
  induction hP : P.length generalizing P with
  | zero =>
    intro x T ho hs hx hi hlen hr
    obtain rfl := List.eq_nil_of_length_eq_zero hP
    refine ⟨x :: T, List.Perm.refl _, List.pairwise_cons.2 ⟨hx, by simpa using hs⟩, fun R hR => Ev.step (fun k => ?_) hR⟩
    simp only [impl_PageRange_118.l1]
    rw [if_neg (by omega), wrap_small (by omega) (by omega)]
    rfl
  | succ m ih =>
    intro x T ho hs hx hi hlen hr
    rcases nil_or_snoc P with rfl | ⟨P', p, rfl⟩
    · simp at hP
    have hm : P'.length = m := by simpa using hP
    subst hm
    have op := ho p (by simp)
    have ox := ho x (by simp)
    obtain ⟨c, hc, hcc⟩ := closure_eq x p ox op
    have eD : P' ++ [p] ++ x :: T ++ R2 = P' ++ p :: x :: (T ++ R2) := by simp
    have hE : ∀ k, impl_PageRange_118.l1 (k + 1) (P' ++ [p] ++ x :: T ++ R2) 0 (n : Int) (i : Int) ((P'.length + 1 : Nat) : Int) = (impl_mergePages_1.f k x.f0 x.f1 x.f2 p.f0 p.f1 p.f2).bind fun t => if t < 0 then impl_PageRange_118.l1 k (P' ++ x :: p :: (T ++ R2)) 0 (n : Int) (i : Int) (P'.length : Int) else impl_PageRange_118.l0 k (P' ++ p :: x :: (T ++ R2)) 0 (n : Int) ((i + 1 : Nat) : Int) := by
      intro k
      have e1 : wrap64 (((P'.length + 1 : Nat) : Int) - 1) = (P'.length : Int) := by rw [wrap_small (by omega) (by omega)]; omega
      have e2 : wrap64 ((i : Int) + 1) = ((i + 1 : Nat) : Int) := by rw [wrap_small (by omega) (by omega)]; omega
      have hlp : ((P' ++ p :: x :: (T ++ R2)).length : Int) = P'.length + (T.length + R2.length + 2) := by simp; omega
      simp only [impl_PageRange_118.l1, rdT, e1, e2, eD]
      rw [if_pos (by omega), if_pos (by omega), if_pos (by omega), if_pos (by omega), if_pos (by omega)]
      simp only [Int.toNat_natCast, mid_get, mid_get1, mid_swap]
    by_cases cl : c < 0
    · have hlt := hcc.1 cl
      have hperm : (P' ++ x :: (p :: T)).Perm (P' ++ [p] ++ x :: T) := by
        rw [List.append_assoc]
        exact List.Perm.append_left _ (List.Perm.swap ..)
      have hs' := List.pairwise_append.1 hs
      obtain ⟨Q, q1, q2, q3⟩ := ih P' rfl x (p :: T) (fun y hy => ho y (hperm.subset hy)) (by simpa using hs) (fun y hy => by
        rcases List.mem_cons.1 hy with rfl | hy
        · omega
        · exact hx y hy) (by simp only [List.length_cons]; omega) (by simp only [List.length_cons]; omega) hr
      refine ⟨Q, q1.trans hperm, q2, fun R hR => Ev.step (fun k => hE k) ?_⟩
      refine Ev.bind (a := c) ⟨5, fun k hk => hc k hk⟩ ?_
      simp only [if_pos cl]
      have := q3 R hR
      simpa using this
    · refine ⟨P' ++ [p] ++ x :: T, List.Perm.refl _, ?_, fun R hR => Ev.step (fun k => hE k) ?_⟩
      · have hpx : key2 p ≤ key2 x := by
          have := fun h => cl (hcc.2 h)
          omega
        obtain ⟨a1, a2, a3⟩ := List.pairwise_append.1 hs
        refine List.pairwise_append.2 ⟨a1, List.pairwise_cons.2 ⟨hx, a2⟩, fun y hy z hz => ?_⟩
        rcases List.mem_cons.1 hz with rfl | hz
        · rcases List.mem_append.1 hy with hy | hy
          · have := (List.pairwise_append.1 a1).2.2 y hy p (by simp)
            omega
          · rw [List.mem_singleton.1 hy]; exact hpx
        · exact a3 y hy z hz
      · refine Ev.bind (a := c) ⟨5, fun k hk => hc k hk⟩ ?_
        simp only [if_neg cl]
        simpa using hR
theorem ins_l0 (n : Nat) (hn : n ≤ 1000) : ∀ (d i : Nat) (Q T : List Sp), i + d = n → Q.length = i → T.length = d → Srt key2 Q → (∀ y ∈ Q ++ T, okr y = true) →
    ∃ D, D.Perm (Q ++ T) ∧ Srt key2 D ∧ Ev (fun k => impl_PageRange_118.l0 k (Q ++ T) 0 (n : Int) (i : Int)) D
  | 0, i, Q, T, h, hq, ht, hs, ho => by
    obtain rfl := List.eq_nil_of_length_eq_zero ht
    refine ⟨Q, by simp, hs, Ev.step (f := fun _ => some Q) (fun k => ?_) (Ev.now Q)⟩
    simp only [impl_PageRange_118.l0, List.append_nil]
    rw [if_neg (by omega)]
  | d + 1, i, Q, T, h, hq, ht, hs, ho => by
    match T, ht with
    | x :: T, ht =>
      simp only [List.length_cons] at ht
      obtain ⟨Q1, p1, s1, e1⟩ := ins_l1 n i hn T Q x [] (fun y hy => ho y (by simp at hy ⊢; rcases hy with hy | hy; exact .inl hy; exact .inr (.inl hy))) (by simpa using hs) (fun y hy => by cases hy) (by simp; omega) (by simp; omega) (fun y hy => ho y (by simp [hy]))
      have pl := p1.length_eq
      simp only [List.length_append, List.length_cons, List.length_nil] at pl
      have p2 : (Q1 ++ T).Perm (Q ++ x :: T) := by
        have := p1.append_right T
        simpa using this
      obtain ⟨D, q1, q2, q3⟩ := ins_l0 n hn d (i + 1) Q1 T (by omega) (by omega) (by omega) s1 (fun y hy => ho y (p2.subset hy))
      refine ⟨D, q1.trans p2, q2, Ev.step (fun k => ?_) (e1 D q3)⟩
      simp only [impl_PageRange_118.l0, hq]
      rw [if_pos (by omega)]
      simp
theorem sort_k (L : List Sp) (hL : L.length ≤ 12) (oL : ∀ x ∈ L, okr x = true) : ∃ D, D.Perm L ∧ Srt key2 D ∧ Ev (fun k => impl_PageRange_79.f k L ()) D := by
  have hw : wrap64 (0 + 1) = 1 := wrap_small (by omega) (by omega)
  have key : ∃ D, D.Perm L ∧ Srt key2 D ∧ Ev (fun k => impl_PageRange_118.f k L 0 (L.length : Int) ()) D := by
    match L, hL, oL with
    | [], _, _ =>
      refine ⟨[], List.Perm.refl _, List.Pairwise.nil, Ev.step (f := fun _ => some []) (fun k => ?_) (Ev.now _)⟩
      unfold impl_PageRange_118.f
      rw [hw]
      simp only [impl_PageRange_118.l0]
      rw [if_neg (by simp)]
    | x :: T, hL, oL =>
      simp only [List.length_cons] at hL
      obtain ⟨D, q1, q2, q3⟩ := ins_l0 (T.length + 1) (by omega) T.length 1 [x] T (by omega) rfl rfl (by simp) (by simpa using oL)
      refine ⟨D, by simpa using q1, q2, Ev.congr (fun k => ?_) q3⟩
      unfold impl_PageRange_118.f
      rw [hw]
      rfl
  obtain ⟨D, q1, q2, q3⟩ := key
  refine ⟨D, q1, q2, ?_⟩
  unfold impl_PageRange_79.f bits_Len.f
  have hw2 : IntKind.u64.wrap ((L.length : Int)) = (L.length : Int) := by
    show ((L.length : Int)) % 18446744073709551616 = _
    omega
  rw [hw2, if_pos (by omega), if_pos (by omega)]
  simp only [Option.bind_some]
  refine Ev.bind (a := D) ?_ (Ev.now D)
  unfold impl_PageRange_97.f
  refine Ev.step (f := fun k => (impl_PageRange_118.f k L 0 (L.length : Int) ()).bind fun t => some t) (fun k => ?_) (Ev.bind q3 (Ev.now D))
  simp only [impl_PageRange_97.l0]
  rw [if_pos (by rw [wrap_small (by omega) (by omega)]; omega)]
theorem impl_l0 (S : List Sp) (hl : S.length ≤ 100) : ∀ (d i : Nat) (out : List Sp), i + d = S.length → out.length ≤ i → (∀ x ∈ S, okr x = true) → (∀ x ∈ out, x.f2 ≤ 99999) → (∀ x ∈ out, -1 ≤ x.f2) →
    Ev (fun k => impl_mergePages.l0 k out S (S.length : Int) (i : Int)) ((S.drop i).foldl stp out)
  | 0, i, out, hi, hlen, oS, o1, o2 => by
    refine Ev.step (f := fun _ => some out) (fun k => ?_) ?_
    · simp only [impl_mergePages.l0]
      rw [if_neg (by omega)]
    · rw [List.drop_of_length_le (by omega)]
      exact Ev.now out
  | d + 1, i, out, hi, hlen, oS, o1, o2 => by
    have hdc := drop_cons z27 S (i : Int) (by omega) (by omega)
    rw [Int.toNat_natCast, show ((i : Int) + 1).toNat = i + 1 from by omega] at hdc
    obtain ⟨_, x1, x2, x3⟩ := okr_parts _ (getD_ok S oS i (by omega))
    rw [hdc, List.foldl_cons]
    generalize hx : S.getD i z27 = x at *
    have hst := stp_bd out x x2 x3 x1 o1 o2
    have ih := impl_l0 S hl d (i + 1) (stp out x) (by omega) (by have := stp_len out x; omega) oS hst.1 hst.2
    refine Ev.step (f := fun k => impl_mergePages.l0 k (stp out x) S (S.length : Int) ((i + 1 : Nat) : Int)) (fun k => ?_) ih
    have hw : wrap64 ((i : Int) + 1) = ((i + 1 : Nat) : Int) := by rw [wrap_small (by omega) (by omega)]; omega
    simp only [impl_mergePages.l0, rdT, Int.toNat_natCast, hx, hw]
    rw [if_pos (by omega), if_pos (by omega), if_pos (by omega)]
    rcases nil_or_snoc out with rfl | ⟨O, L, rfl⟩
    · have e0 : wrap64 ((([] : List Sp).length : Int) - 1) = -1 := by rw [wrap_small (by simp) (by simp)]; rfl
      rw [e0, if_neg (by omega), if_pos (by simp), stp_nil]
      rfl
    · have hL1 := o1 L (by simp)
      have hL2 := o2 L (by simp)
      have hO : O.length ≤ 1000 := by simp at hlen; omega
      have hlast : wrap64 (((O ++ [L]).length : Int) - 1) = (O.length : Int) := by
        rcases last_at O L with h | h
        · exact h
        · omega
      have hg : (O ++ [L]).getD O.length z27 = L := by simp [List.getD_eq_getElem?_getD]
      have hset : ∀ v : Sp, (O ++ [L]).set O.length v = O ++ [v] := fun v => by simp [List.set_append]
      rw [hlast, if_pos (by omega), if_pos (by omega), if_pos (by simp <;> omega), stp_snoc]
      simp only [Int.toNat_natCast, hg, hset]
      rw [wrap_small (x := L.f2 + 1) (by omega) (by omega)]
      by_cases c : L.f0.toList = x.f0.toList
      · rw [if_pos c]
        by_cases c2 : x.f1 ≤ L.f2 + 1
        · rw [if_pos c2, if_pos (show joins L x from ⟨c, c2⟩)]
          rfl
        · rw [if_neg c2, if_neg (fun h : joins L x => c2 h.2), if_pos (by simp <;> omega)]
      · rw [if_neg c, if_neg (fun h : joins L x => c h.1), if_pos (by simp <;> omega)]
theorem merge_both (L : List Sp) (h : okl L = true) : ∃ R : List Sp, R.length ≤ 100 ∧ Ev (fun k => spec_l7Merge.f k L) R ∧ Ev (fun k => impl_mergePages.f k L) R := by
  have h' := Bool.and_eq_true_iff.1 h
  have oL := List.all_eq_true.1 h'.1
  have hn : L.length ≤ 8 := of_decide_eq_true (Bool.and_eq_true_iff.1 h'.2).2
  obtain ⟨S, p, s, e⟩ := spec_merge L (by omega) oL
  obtain ⟨D, p2, s2, e2⟩ := sort_k L (by omega) oL
  have oD : ∀ x ∈ D, okr x = true := fun x hx => oL x (p2.subset hx)
  have s1 : Srt key1 D := s2.imp_of_mem fun {a b} ha hb hab => key21 a b (oD a ha) (oD b hb) hab
  have hD := impl_l0 D (by rw [p2.length_eq]; omega) D.length 0 [] (by omega) (by simp) oD (fun x hx => by cases hx) (fun x hx => by cases hx)
  rw [List.drop_zero] at hD
  have hfold := fold_perm S D [] (p.trans p2.symm) s s1 (fun x hx => oL x (p.subset hx))
  refine ⟨S.foldl stp [], ?_, e, ?_⟩
  · have := fold_len S []
    rw [p.length_eq] at this
    simp at this
    omega
  · rw [hfold]
    unfold impl_mergePages.f
    simp only [Option.bind_some, List.length_nil, List.nil_append]
    refine Ev.congr (fun k => if_pos (by omega)) ?_
    refine Ev.bind e2 ?_
    rw [← p2.length_eq]
    exact hD

end Go.Proofs.YtjckholdcgjdnaaDoor.Pure
