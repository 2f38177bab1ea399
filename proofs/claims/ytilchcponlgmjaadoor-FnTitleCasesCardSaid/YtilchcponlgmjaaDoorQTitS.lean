/- Lemmas on the printed functions, without Go and memory. -/
import Derived.Test.YtilchcponlgmjaaDoorQTitG
namespace Go.Proofs.YtilchcponlgmjaaDoor.Pure
open Go.RowKit Go.Proofs.YtilchcponlgmjaaDoor.Px Go.Proofs.YtilchcponlgmjaaDoorW.PrintWords Go.Proofs.YtilchcponlgmjaaDoorW.PrintLast
set_option linter.unusedVariables false
set_option linter.unusedSimpArgs false

/-! texts that differ in the cases of letters alone -/
theorem lo_cases (b : UInt8) : (isUpB b = true ∧ (loB b).toNat = b.toNat + 32 ∧ 65 ≤ b.toNat ∧ b.toNat ≤ 90) ∨ (isUpB b = false ∧ loB b = b ∧ ¬ (65 ≤ b.toNat ∧ b.toNat ≤ 90)) := by
  have h := loB_nat b
  cases c : isUpB b with
  | true =>
    rw [c, if_pos rfl] at h
    unfold isUpB at c
    simp only [Bool.and_eq_true, decide_eq_true_eq] at c
    exact .inl ⟨rfl, by omega, by omega, by omega⟩
  | false =>
    refine .inr ⟨rfl, by unfold loB; rw [c]; rfl, fun h2 => ?_⟩
    unfold isUpB at c
    rw [decide_eq_true (by omega), decide_eq_true (by omega)] at c
    cases c
theorem lo_same {x y : UInt8} (h : loB x = loB y) (hx : ¬ (65 ≤ x.toNat ∧ x.toNat ≤ 90 ∨ 97 ≤ x.toNat ∧ x.toNat ≤ 122)) : x = y := by
  have e : (loB x).toNat = (loB y).toNat := by rw [h]
  rcases lo_cases x with ⟨_, a, b⟩ | ⟨_, a, b⟩ <;> rcases lo_cases y with ⟨_, c, d⟩ | ⟨_, c, d⟩
  · omega
  · omega
  · rw [a] at e; exfalso; omega
  · rw [a, c] at h; exact h
theorem lo_iff {x y : UInt8} (h : loB x = loB y) (c : UInt8) (hc : ¬ (65 ≤ c.toNat ∧ c.toNat ≤ 90 ∨ 97 ≤ c.toNat ∧ c.toNat ≤ 122)) : x = c ↔ y = c := by
  constructor
  · intro e; subst e; exact (lo_same h hc).symm
  · intro e; subst e; exact (lo_same h.symm hc).symm
theorem lo_lo (b : UInt8) : loB (loB b) = loB b := by
  rcases lo_cases b with ⟨_, a, b1⟩ | ⟨_, a, b1⟩
  · rcases lo_cases (loB b) with ⟨_, c, d⟩ | ⟨_, c, d⟩
    · omega
    · exact c
  · rw [a, a]
theorem lo_up (b : UInt8) : loB (upB b) = loB b := by
  have h := upB_nat b
  apply UInt8.toNat_inj.1
  unfold upB at *
  cases c : isLoB b with
  | false => rw [if_neg (by decide)]
  | true =>
    rw [c, if_pos rfl] at h
    rw [if_pos rfl] at h ⊢
    unfold isLoB at c
    simp only [Bool.and_eq_true, decide_eq_true_eq] at c
    rcases lo_cases (b - 32) with ⟨_, a, b1⟩ | ⟨_, a, b1⟩ <;> rcases lo_cases b with ⟨_, a2, b2⟩ | ⟨_, a2, b2⟩
    · omega
    · rw [a2]; omega
    · omega
    · omega
theorem lo_okb {x y : UInt8} (h : loB x = loB y) : okb x = okb y := by
  by_cases c : 65 ≤ x.toNat ∧ x.toNat ≤ 90 ∨ 97 ≤ x.toNat ∧ x.toNat ≤ 122
  · have e : (loB x).toNat = (loB y).toNat := by rw [h]
    have k : 65 ≤ y.toNat ∧ y.toNat ≤ 122 := by
      rcases lo_cases x with ⟨_, a, b⟩ | ⟨_, a, b⟩ <;> rcases lo_cases y with ⟨_, p, q⟩ | ⟨_, p, q⟩
      · omega
      · rw [p] at e; omega
      · rw [a] at e; omega
      · rw [a, p] at e; omega
    unfold okb
    rw [decide_eq_false (show ¬ (x.toNat : Int) < 32 from by omega), decide_eq_false (show ¬ (x.toNat : Int) > 126 from by omega), decide_eq_false (show ¬ (y.toNat : Int) < 32 from by omega), decide_eq_false (show ¬ (y.toNat : Int) > 126 from by omega)]
  · rw [lo_same h c]
theorem st_sim {x y : UInt8} (h : loB x = loB y) (q : Nat) : stB q x = stB q y := by
  unfold stB
  simp only [lo_iff h 123 (by decide), lo_iff h 125 (by decide)]
abbrev lom (l : List UInt8) : List UInt8 := l.map loB
theorem lom_cons {x y : UInt8} {a b : List UInt8} (h : lom (x :: a) = lom (y :: b)) : loB x = loB y ∧ lom a = lom b := by
  simpa [lom] using h
theorem lom_len {a b : List UInt8} (h : lom a = lom b) : a.length = b.length := by
  have := congrArg List.length h
  simpa [lom] using this
theorem run_sim : ∀ (a b : List UInt8) (q : Nat), lom a = lom b → runB q a = runB q b
  | [], [], _, _ => rfl
  | [], _ :: _, _, h => by simp [lom] at h
  | _ :: _, [], _, h => by simp [lom] at h
  | x :: a, y :: b, q, h => by
    obtain ⟨h1, h2⟩ := lom_cons h
    rw [runB, runB, st_sim h1 q]
    cases stB q y with
    | none => rfl
    | some p => exact run_sim a b p h2
theorem sp_sim : ∀ (a b : List UInt8) (p : Bool), lom a = lom b → spOK p a = spOK p b
  | [], [], _, _ => rfl
  | [], _ :: _, _, h => by simp [lom] at h
  | _ :: _, [], _, h => by simp [lom] at h
  | x :: a, y :: b, p, h => by
    obtain ⟨h1, h2⟩ := lom_cons h
    rw [spOK, spOK]
    simp only [lo_iff h1 32 (by decide), sp_sim a b _ h2]
theorem all_sim : ∀ (a b : List UInt8), lom a = lom b → a.all okb = b.all okb
  | [], [], _ => rfl
  | [], _ :: _, h => by simp [lom] at h
  | _ :: _, [], h => by simp [lom] at h
  | x :: a, y :: b, h => by
    obtain ⟨h1, h2⟩ := lom_cons h
    rw [List.all_cons, List.all_cons, lo_okb h1, all_sim a b h2]
theorem ok_sim (a b : List UInt8) (h : lom a = lom b) : okTitle a = okTitle b := by
  unfold okTitle
  rw [lom_len h, all_sim a b h, sp_sim a b true h, run_sim a b 0 h]
theorem br_sim : ∀ (a b : List UInt8), lom a = lom b → brB a = brB b
  | [], [], _ => rfl
  | [], _ :: _, h => by simp [lom] at h
  | _ :: _, [], h => by simp [lom] at h
  | x :: a, y :: b, h => by
    obtain ⟨h1, h2⟩ := lom_cons h
    have ih := br_sim a b h2
    unfold brB at ih ⊢
    have e : ∀ c : UInt8, ¬ (65 ≤ c.toNat ∧ c.toNat ≤ 90 ∨ 97 ≤ c.toNat ∧ c.toNat ≤ 122) → (x == c) = (y == c) := fun c hc => by
      have := lo_iff h1 c hc
      by_cases k : x = c
      · rw [beq_iff_eq.2 k, beq_iff_eq.2 (this.1 k)]
      · rw [beq_eq_false_iff_ne.2 k, beq_eq_false_iff_ne.2 (fun e => k (this.2 e))]
    rw [List.any_cons, List.any_cons, ih, e 123 (by decide), e 125 (by decide)]
theorem words_sim : ∀ (a b : List UInt8) (q : Nat) (c d : List UInt8), lom a = lom b → lom c = lom d → (wordsL q c a).map lom = (wordsL q d b).map lom
  | [], [], _, _, _, _, h => by simpa [wordsL] using h
  | [], _ :: _, _, _, _, h, _ => by simp [lom] at h
  | _ :: _, [], _, _, _, h, _ => by simp [lom] at h
  | x :: a, y :: b, q, c, d, h, hc => by
    obtain ⟨h1, h2⟩ := lom_cons h
    rw [wordsL, wordsL]
    have e : (x = 32 ∧ q = 0) ↔ (y = 32 ∧ q = 0) := by rw [lo_iff h1 32 (by decide)]
    by_cases k : x = 32 ∧ q = 0
    · rw [if_pos k, if_pos (e.1 k), List.map_cons, List.map_cons, hc, words_sim a b q [] [] h2 rfl]
    · rw [if_neg k, if_neg (fun t => k (e.2 t)), st_sim h1 q]
      exact words_sim a b _ _ _ h2 (by rw [lom, lom, List.map_append, List.map_append]; show lom c ++ [loB x] = lom d ++ [loB y]; rw [hc, h1])
theorem join_cons (x : List UInt8) (l : List (List UInt8)) (h : l ≠ []) : Lib.join (x :: l) [32] = x ++ (32 :: Lib.join l [32]) := by
  cases l with
  | nil => exact absurd rfl h
  | cons y l =>
    unfold Lib.join
    simp
theorem join_one (x : List UInt8) : Lib.join [x] [32] = x := by
  unfold Lib.join
  simp
theorem join_words : ∀ (l : List UInt8) (q : Nat) (c : List UInt8), Lib.join (wordsL q c l) [32] = c ++ l
  | [], q, c => by rw [wordsL, join_one, List.append_nil]
  | b :: l, q, c => by
    rw [wordsL]
    by_cases k : b = 32 ∧ q = 0
    · rw [if_pos k, join_cons _ _ (words_pos l q []), join_words l q [], k.1]
      rfl
    · rw [if_neg k, join_words l _ (c ++ [b]), List.append_assoc]
      rfl
theorem lom_join : ∀ X : List (List UInt8), lom (Lib.join X [32]) = Lib.join (X.map lom) [32]
  | [] => by unfold Lib.join; rfl
  | [x] => by rw [join_one, List.map_cons, List.map_nil, join_one]
  | x :: y :: X => by
    rw [join_cons x (y :: X) (by simp), List.map_cons, join_cons (lom x) ((y :: X).map lom) (by simp), ← lom_join (y :: X)]
    show (x ++ (32 :: Lib.join (y :: X) [32])).map loB = _
    rw [List.map_append, List.map_cons]
    rfl
theorem join_inj : ∀ X Y : List (List UInt8), X.map List.length = Y.map List.length → Lib.join X [32] = Lib.join Y [32] → X = Y
  | [], [], _, _ => rfl
  | [], _ :: _, h, _ => by simp at h
  | _ :: _, [], h, _ => by simp at h
  | [x], [y], _, h => by rw [join_one, join_one] at h; rw [h]
  | [x], y :: z :: Y, h, _ => by simp at h
  | x :: z :: X, [y], h, _ => by simp at h
  | x :: z :: X, y :: u :: Y, h, e => by
    rw [join_cons x _ (by simp), join_cons y _ (by simp)] at e
    rw [List.map_cons, List.map_cons] at h
    have h1 := (List.cons.inj h).1
    have h2 := (List.cons.inj h).2
    obtain ⟨e1, e2⟩ := List.append_inj e h1
    rw [e1, join_inj (z :: X) (u :: Y) h2 (List.cons.inj e2).2]
theorem words_back (l : List UInt8) (V : List (List UInt8)) (h : V.map lom = (wordsL 0 [] l).map lom) : wordsL 0 [] (Lib.join V [32]) = V ∧ lom (Lib.join V [32]) = lom l := by
  have e : lom (Lib.join V [32]) = lom l := by
    rw [lom_join, h, ← lom_join, join_words, List.nil_append]
  refine ⟨?_, e⟩
  have w := words_sim (Lib.join V [32]) l 0 [] [] e rfl
  apply join_inj
  · have hl : ∀ X : List (List UInt8), X.map List.length = (X.map lom).map List.length := fun X => by
      rw [List.map_map]
      exact List.map_congr_left fun x _ => by simp [lom]
    rw [hl, hl V, w, h]
  · rw [join_words, List.nil_append]
theorem lom_raise : ∀ l : List UInt8, lom (raiseL l) = lom l
  | [] => rfl
  | b :: l => by
    rw [raiseL]
    split
    · show loB (upB b) :: lom l = loB b :: lom l
      rw [lo_up]
    · show loB b :: lom (raiseL l) = loB b :: lom l
      rw [lom_raise l]
theorem lom_lom (l : List UInt8) : lom (lom l) = lom l := by
  unfold lom
  rw [List.map_map]
  exact List.map_congr_left fun x _ => lo_lo x
theorem lo_ite (c : Prop) [Decidable c] (b : UInt8) : loB (if c then b else loB b) = loB b := by
  split
  · rfl
  · exact lo_lo b
theorem lom_calm : ∀ (l : List UInt8) (p : Bool), lom (calmL p l) = lom l
  | [], _ => rfl
  | b :: l, p => by
    rw [calmL]
    show loB (if _ then b else loB b) :: lom (calmL _ l) = loB b :: lom l
    rw [lom_calm l, lo_ite]
theorem let_up (b : UInt8) (h : isLetB b = true) : isLetB (upB b) = true ∧ upB (upB b) = upB b := by
  have e := upB_nat b
  unfold isLetB isUpB isLoB at h
  simp only [Bool.or_eq_true, Bool.and_eq_true, decide_eq_true_eq] at h
  have k : 65 ≤ (upB b).toNat ∧ (upB b).toNat ≤ 90 := by
    by_cases c : isLoB b = true
    · rw [if_pos c] at e
      unfold isLoB at c
      simp only [Bool.and_eq_true, decide_eq_true_eq] at c
      omega
    · rw [if_neg c] at e
      unfold isLoB at c
      simp only [Bool.and_eq_true, decide_eq_true_eq] at c
      omega
  constructor
  · unfold isLetB isUpB
    rw [decide_eq_true (by omega), decide_eq_true (by omega)]
    rfl
  · generalize upB b = u at *
    unfold upB
    rw [if_neg]
    unfold isLoB
    simp only [Bool.and_eq_true, decide_eq_true_eq]
    omega
theorem raise_raise : ∀ l : List UInt8, raiseL (raiseL l) = raiseL l
  | [] => rfl
  | b :: l => by
    rw [raiseL]
    by_cases c : isLetB b = true
    · rw [if_pos c, raiseL, if_pos (let_up b c).1, (let_up b c).2]
    · rw [if_neg c, raiseL, if_neg c, raise_raise l]
theorem calm_plain : ∀ (l : List UInt8), brB l = false → calmL false l = lom l
  | [], _ => rfl
  | b :: l, h => by
    unfold brB at h
    rw [List.any_cons, Bool.or_eq_false_iff, Bool.or_eq_false_iff] at h
    have k : ¬ (b = 123 ∨ b = 125) := fun e => by
      rcases e with e | e
      · rw [e] at h; exact absurd h.1.1 (by decide)
      · rw [e] at h; exact absurd h.1.2 (by decide)
    rw [calmL]
    simp only [if_neg k, Bool.false_eq_true, if_false]
    rw [calm_plain l h.2]
    rfl
theorem calm_calm : ∀ (l : List UInt8) (p : Bool), calmL p (calmL p l) = calmL p l
  | [], _ => rfl
  | b :: l, p => by
    rw [calmL]
    by_cases k : b = 123 ∨ b = 125
    · have kb : loB b = b := by rcases k with k | k <;> rw [k] <;> decide
      simp only [if_pos k]
      have e : (if decide (b = 123) = true then b else loB b) = b := by rw [kb]; exact ite_self _
      rw [e, calmL]
      simp only [if_pos k]
      rw [e, calm_calm l]
    · simp only [if_neg k]
      have k2 : ∀ c, loB c = loB b → ¬ (c = 123 ∨ c = 125) := fun c hc e => by
        rw [lo_iff hc 123 (by decide), lo_iff hc 125 (by decide)] at e
        exact k e
      cases p with
      | true =>
        simp only [if_true]
        rw [calmL]
        simp only [if_neg k, if_true]
        rw [calm_calm l]
      | false =>
        simp only [Bool.false_eq_true, if_false]
        rw [calmL]
        simp only [if_neg (k2 (loB b) (lo_lo b)), Bool.false_eq_true, if_false]
        rw [calm_calm l, lo_lo]

end Go.Proofs.YtilchcponlgmjaaDoor.Pure
