/- The law FnExactTitleCase, as a statement over numbers and lists: the program's function and the reference's answer alike, for every input; no further condition. -/
import Derived.Test.YtilchcponlgmjaaDoorPx11
import Derived.Test.YtilchcponlgmjaaDoorPx14
import Derived.Test.YtilchcponlgmjaaDoorPx19
import Derived.Test.YtilchcponlgmjaaDoorPx20
import Derived.Test.YtilchcponlgmjaaDoorPx22
import Derived.Test.YtilchcponlgmjaaDoorQTitG
namespace Go.Proofs.YtilchcponlgmjaaDoor.Pure
open Go.RowKit Go.Proofs.YtilchcponlgmjaaDoor.Px Go.Proofs.YtilchcponlgmjaaDoorW.PrintWords Go.Proofs.YtilchcponlgmjaaDoorW.PrintLast
set_option linter.unusedVariables false
set_option linter.unusedSimpArgs false

theorem case_loop (ws : List ByteArray) (hl : ws.length ≤ 101) (hw : ∀ w ∈ ws, OkW w) : ∀ (d i : Nat) (out : List ByteArray), i + d = ws.length → out.length = i → (∀ x ∈ out, x.size ≤ 100) →
    ∃ R, Ev (fun k => spec_TitleCase.l0 k ws out (i : Int)) R ∧ Ev (fun k => impl_TitleCase.l0 k ws out ws (ws.length : Int) (i : Int)) R
  | 0, i, out, hi, ho, hx => by
    have ht := tot_le out 100 hx
    refine ⟨(JN out, true), ?_, ?_⟩
    · refine Ev.step (fun k => ?_) (Ev.bind (specJoin out (by omega) (by omega)) (f := fun _ t => some (t, true)) (Ev.now _))
      simp only [spec_TitleCase.l0]
      rw [if_neg (by omega)]
    · refine Ev.step (f := fun _ => some (JN out, true)) (fun k => ?_) (Ev.now _)
      simp only [impl_TitleCase.l0]
      rw [if_neg (by omega), implJoin out (by omega) (by omega)]
      rfl
  | d + 1, i, out, hi, ho, hx => by
    have hlt : i < ws.length := by omega
    have hwr : wrap64 ((i : Int) + 1) = ((i + 1 : Nat) : Int) := by rw [wrap_small (by omega) (by omega)]; rfl
    have e : rdOf ByteArray.empty ws (i : Int) = ws[i] := by
      unfold rdOf
      rw [Int.toNat_natCast, List.getD_eq_getElem?_getD, List.getElem?_eq_getElem hlt]
      rfl
    have o := hw _ (List.getElem_mem hlt)
    have n2 := o.n2
    have ho2 : out.length < 8796093022208 := by omega
    have next : ∀ v : ByteArray, v.size ≤ 100 → ∃ R, Ev (fun k => spec_TitleCase.l0 k ws (out ++ [v]) ((i + 1 : Nat) : Int)) R ∧ Ev (fun k => impl_TitleCase.l0 k ws (out ++ [v]) ws (ws.length : Int) ((i + 1 : Nat) : Int)) R := fun v hv =>
      case_loop ws hl hw d (i + 1) (out ++ [v]) (by omega) (by simp [ho]) (fun x hm => by
        rcases List.mem_append.1 hm with h | h
        · exact hx x h
        · rw [List.mem_singleton] at h; subst h; exact hv)
    have sb := specBrace ws[i] (by omega)
    have ib := implBrace ws[i] (by omega) o.asc
    obtain ⟨m, hm⟩ := implMinor (ofL ((ws[i]).data.toList.map loB))
    have sm := specMinor ws[i] (by omega) m hm
    have il := implLower ws[i] (by omega)
    have sl := specLower ws[i] (by omega)
    have sr := specRaise ws[i] (by omega)
    have ir := implRaise ws[i] (by omega)
    have ss := specStarts ws i hlt (by omega) hw
    have ib2 := implBegins ws i hlt (by omega) hw
    generalize ws[i] = w at *
    have zr : (ofL (raiseL w.data.toList)).size ≤ 100 := by rw [ofL_size, raise_len, data_length]; omega
    have zl : (ofL (w.data.toList.map loB)).size ≤ 100 := by rw [ofL_size, List.length_map, data_length]; omega
    cases hbr : brB w.data.toList with
    | true =>
      rw [hbr] at sb ib
      obtain ⟨R, e1, e2⟩ := next w n2
      refine ⟨R, ?_, ?_⟩
      · refine Ev.step (f := fun k => (spec_l6Brace.f k w).bind fun t => if t = true then spec_TitleCase.l0 k ws (out ++ [w]) ((i + 1 : Nat) : Int) else ((spec_l6Minor.f k w).bind fun t312 => (if t312 = true then ((spec_l6Starts.f ws (i : Int)).bind fun t313 => (if t313 = true then (spec_TitleCase.j1 k ws out (i : Int) w false) else (spec_TitleCase.j1 k ws out (i : Int) w (decide ((wrap64 ((i : Int) + 1)) < (ws.length : Int)))))) else (spec_TitleCase.j1 k ws out (i : Int) w false)))) (fun k => ?_) (Ev.bind sb (Ev.congr (fun _ => if_pos rfl) e1))
        simp only [spec_TitleCase.l0]
        rw [if_pos (by omega), if_pos (by omega), e, if_pos ho2, hwr]
      · refine Ev.step (fun k => ?_) e2
        simp only [impl_TitleCase.l0]
        rw [if_pos (by omega), if_pos (by omega), if_pos (by omega), e, ib, Option.bind_some, if_pos rfl, if_pos ho2, hwr]
    | false =>
      rw [hbr] at sb ib
      -- the last step, by the test
      have last : ∀ x : Bool, ∃ R, Ev (fun k => spec_TitleCase.j1 k ws out (i : Int) w x) R ∧ Ev (fun k => impl_TitleCase.j1 k ws out w ws (ws.length : Int) (i : Int) x) R := fun x => by
        cases x with
        | true =>
          obtain ⟨R, e1, e2⟩ := next _ zl
          refine ⟨R, ?_, ?_⟩
          · refine Ev.step (fun k => ?_) (Ev.bind sl (f := fun k t => if out.length < 8796093022208 then spec_TitleCase.l0 k ws (out ++ [t]) (wrap64 ((i : Int) + 1)) else none) (Ev.congr (fun _ => if_pos ho2) (by rw [hwr]; exact e1)))
            simp only [spec_TitleCase.j1]
            rw [if_pos trivial]
          · refine Ev.step (fun k => ?_) e2
            simp only [impl_TitleCase.j1]
            rw [if_pos trivial, il, Option.bind_some, if_pos ho2, hwr]
        | false =>
          obtain ⟨R, e1, e2⟩ := next _ zr
          refine ⟨R, ?_, ?_⟩
          · refine Ev.step (fun k => ?_) (Ev.bind sr (f := fun k t => if out.length < 8796093022208 then spec_TitleCase.l0 k ws (out ++ [t]) (wrap64 ((i : Int) + 1)) else none) (Ev.congr (fun _ => if_pos ho2) (by rw [hwr]; exact e1)))
            simp only [spec_TitleCase.j1]
            rw [if_neg (by decide)]
          · refine Ev.step (fun k => ?_) e2
            simp only [impl_TitleCase.j1]
            rw [if_neg (by decide), ir, Option.bind_some, if_pos ho2, hwr]
      have hdec : decide ((i : Int) < wrap64 ((ws.length : Int) - 1)) = decide (wrap64 ((i : Int) + 1) < (ws.length : Int)) := by
        rw [hwr, wrap_small (by omega) (by omega), decide_eq_decide]
        omega
      have top : ∀ (x : Bool) (R : ByteArray × Bool), (m = true ∧ begW ws i = true ∧ x = false ∨ m = true ∧ begW ws i = false ∧ x = decide (wrap64 ((i : Int) + 1) < (ws.length : Int)) ∨ m = false ∧ x = false) →
          Ev (fun k => spec_TitleCase.j1 k ws out (i : Int) w x) R → Ev (fun k => impl_TitleCase.j1 k ws out w ws (ws.length : Int) (i : Int) x) R →
          Ev (fun k => spec_TitleCase.l0 k ws out (i : Int)) R ∧ Ev (fun k => impl_TitleCase.l0 k ws out ws (ws.length : Int) (i : Int)) R := fun x R hc e1 e2 => by
        constructor
        · refine Ev.step (fun k => ?_) (Ev.bind sb (f := fun k t => if t = true then (if out.length < 8796093022208 then spec_TitleCase.l0 k ws (out ++ [w]) (wrap64 ((i : Int) + 1)) else none) else ((spec_l6Minor.f k w).bind fun t312 => (if t312 = true then ((spec_l6Starts.f ws (i : Int)).bind fun t313 => (if t313 = true then (spec_TitleCase.j1 k ws out (i : Int) w false) else (spec_TitleCase.j1 k ws out (i : Int) w (decide ((wrap64 ((i : Int) + 1)) < (ws.length : Int)))))) else (spec_TitleCase.j1 k ws out (i : Int) w false)))) (Ev.congr (fun _ => if_neg (by decide)) (Ev.bind sm ?_)))
          · simp only [spec_TitleCase.l0]
            rw [if_pos (by omega), if_pos (by omega), e]
          · rw [ss]
            simp only [Option.bind_some]
            rcases hc with ⟨a, b, c⟩ | ⟨a, b, c⟩ | ⟨a, c⟩
            · rw [a, b]; rw [c] at e1; simp only [if_true]; exact e1
            · rw [a, b]; rw [c] at e1; simp only [if_true, Bool.false_eq_true, if_false]; exact e1
            · rw [a]; rw [c] at e1; simp only [Bool.false_eq_true, if_false]; exact e1
        · refine Ev.step (fun k => ?_) e2
          simp only [impl_TitleCase.l0]
          rw [if_pos (by omega), if_pos (by omega), if_pos (by omega), e, ib, Option.bind_some, if_neg (by decide), il, Option.bind_some, hm, Option.bind_some, ib2, Option.bind_some]
          rcases hc with ⟨a, b, c⟩ | ⟨a, b, c⟩ | ⟨a, c⟩
          · rw [a, b, c]; simp only [if_true]
          · rw [a, b, c, hdec]; simp only [if_true, Bool.false_eq_true, if_false]
          · rw [a, c]; simp only [Bool.false_eq_true, if_false]
      obtain ⟨x, hx2⟩ : ∃ x : Bool, (m = true ∧ begW ws i = true ∧ x = false ∨ m = true ∧ begW ws i = false ∧ x = decide (wrap64 ((i : Int) + 1) < (ws.length : Int)) ∨ m = false ∧ x = false) := by
        cases m with
        | false => exact ⟨false, .inr (.inr ⟨rfl, rfl⟩)⟩
        | true =>
          cases begW ws i with
          | true => exact ⟨false, .inl ⟨rfl, rfl, rfl⟩⟩
          | false => exact ⟨_, .inr (.inl ⟨rfl, rfl, rfl⟩)⟩
      obtain ⟨R, e1, e2⟩ := last x
      exact ⟨R, top x R hx2 e1 e2⟩
theorem TitleCase_both (s : ByteArray) (hs : s.size ≤ 1048576) : ∃ R, Ev (fun k => spec_TitleCase.f k s) R ∧ Ev (fun k => impl_TitleCase.f k s) R := by
  have g1 := specGood s (by omega)
  have g2 := implValid s (by omega)
  unfold spec_TitleCase.f impl_TitleCase.f
  cases h : okTitle s.data.toList with
  | false =>
    rw [h] at g1 g2
    exact ⟨(⟨#[]⟩, false), Ev.bind g1 (Ev.congr (fun _ => if_neg (by decide)) (Ev.now _)), Ev.bind g2 (Ev.congr (fun _ => if_neg (by decide)) (Ev.now _))⟩
  | true =>
    rw [h] at g1 g2
    obtain ⟨w1, w2⟩ := words_both s (by omega) (by rw [(okT_of h).br]; rfl)
    obtain ⟨l1, _, l3⟩ := words_okw s h
    obtain ⟨R, e1, e2⟩ := case_loop (wordsOf s) l1 l3 _ 0 [] (Nat.zero_add _) rfl (fun x hx => by cases hx)
    exact ⟨R, Ev.bind g1 (Ev.congr (fun _ => if_pos rfl) (Ev.bind w1 e1)), Ev.bind g2 (Ev.congr (fun _ => if_pos rfl) (Ev.bind w2 e2))⟩
theorem FnExactTitleCase : laws_FnExactTitleCase.Pure := by
  intro s _
  refine Ev.rounds (g := fun k => laws_FnExactTitleCase.f k s) ?_
  unfold laws_FnExactTitleCase.f
  by_cases c : (s.size : Int) > 1048576
  · exact Ev.congr (fun _ => if_pos c) (Ev.now true)
  obtain ⟨R, e1, e2⟩ := TitleCase_both s (by omega)
  refine Ev.congr (fun _ => if_neg c) (Ev.bind e1 (Ev.bind e2 (Ev.congr (f := fun _ => some true) (fun _ => ?_) (Ev.now true))))
  rw [if_pos rfl, bne_self_eq_false]
  rfl

end Go.Proofs.YtilchcponlgmjaaDoor.Pure
