/- The law FnExactSentenceCase, as a statement over numbers and lists: the program's function and the reference's answer alike, for every input; no further condition. -/
import Derived.Test.YtilchcponlgmjaaDoorPx11
import Derived.Test.YtilchcponlgmjaaDoorPx14
import Derived.Test.YtilchcponlgmjaaDoorPx15
import Derived.Test.YtilchcponlgmjaaDoorPx16
import Derived.Test.YtilchcponlgmjaaDoorPx17
import Derived.Test.YtilchcponlgmjaaDoorPx18
import Derived.Test.YtilchcponlgmjaaDoorQTitG
namespace Go.Proofs.YtilchcponlgmjaaDoor.Pure
open Go.RowKit Go.Proofs.YtilchcponlgmjaaDoor.Px Go.Proofs.YtilchcponlgmjaaDoorW.PrintWords Go.Proofs.YtilchcponlgmjaaDoorW.PrintLast
set_option linter.unusedVariables false
set_option linter.unusedSimpArgs false

theorem sent_loop (ws : List ByteArray) (hl : ws.length ≤ 101) (hw : ∀ w ∈ ws, OkW w) : ∀ (d i : Nat) (out : List ByteArray), i + d = ws.length → out.length = i → (∀ x ∈ out, x.size ≤ 100) →
    ∃ R, Ev (fun k => spec_SentenceCase.l0 k ws out (i : Int)) R ∧ Ev (fun k => impl_SentenceCase.l0 k ws out ws (ws.length : Int) (i : Int)) R
  | 0, i, out, hi, ho, hx => by
    have ht := tot_le out 100 hx
    refine ⟨(JN out, true), ?_, ?_⟩
    · refine Ev.step (fun k => ?_) (Ev.bind (specJoin out (by omega) (by omega)) (f := fun _ t => some (t, true)) (Ev.now _))
      simp only [spec_SentenceCase.l0]
      rw [if_neg (by omega)]
    · refine Ev.step (f := fun _ => some (JN out, true)) (fun k => ?_) (Ev.now _)
      simp only [impl_SentenceCase.l0]
      rw [if_neg (by omega), implJoin out (by omega) (by omega)]
      rfl
  | d + 1, i, out, hi, ho, hx => by
    have hlt : i < ws.length := by omega
    have hwr : wrap64 ((i : Int) + 1) = ((i + 1 : Nat) : Int) := by rw [wrap_small (by omega) (by omega)]; rfl
    have e : rdOf ByteArray.empty ws (i : Int) = ws[i] := by
      unfold rdOf
      rw [Int.toNat_natCast, List.getD_eq_getElem?_getD, List.getElem?_eq_getElem hlt]
      rfl
    have o := hw _ (List.getElem_mem hlt)
    have n2 := o.n2
    have ho2 : out.length < 8796093022208 := by omega
    have next : ∀ v : ByteArray, v.size ≤ 100 → ∃ R, Ev (fun k => spec_SentenceCase.l0 k ws (out ++ [v]) ((i + 1 : Nat) : Int)) R ∧ Ev (fun k => impl_SentenceCase.l0 k ws (out ++ [v]) ws (ws.length : Int) ((i + 1 : Nat) : Int)) R := fun v hv =>
      sent_loop ws hl hw d (i + 1) (out ++ [v]) (by omega) (by simp [ho]) (fun x hm => by
        rcases List.mem_append.1 hm with h | h
        · exact hx x h
        · rw [List.mem_singleton] at h; subst h; exact hv)
    have ib := implBrace ws[i] (by omega) o.asc
    have sc := specCalm ws[i] (by omega)
    have ic := implCalm ws[i] (by omega) (by rw [o.br]; rfl)
    have ss := specStarts ws i hlt (by omega) hw
    have ib2 := implBegins ws i hlt (by omega) hw
    have hcb := calm_brB (ws[i]).data.toList false
    generalize ws[i] = w at *
    have zc : (ofL (calmL false w.data.toList)).size ≤ 100 := by rw [ofL_size, calm_len, data_length]; omega
    have sb := specBrace (ofL (calmL false w.data.toList)) (by omega)
    rw [ofL_toList, hcb] at sb
    have sr := specRaise (ofL (calmL false w.data.toList)) (by omega)
    have ir := implRaise (ofL (calmL false w.data.toList)) (by omega)
    rw [ofL_toList] at sr ir
    have zr : (ofL (raiseL (calmL false w.data.toList))).size ≤ 100 := by rw [ofL_size, raise_len, calm_len, data_length]; omega
    generalize ofL (calmL false w.data.toList) = t at *
    generalize ofL (raiseL (calmL false w.data.toList)) = u at *
    have top : ∀ (x : Bool) (R : ByteArray × Bool), begW ws i = x →
        Ev (fun k => if x = true then ((spec_l6Brace.f k t).bind fun t247 => (if t247 = true then (if out.length < 8796093022208 then (spec_SentenceCase.l0 k ws (out ++ [t]) ((i + 1 : Nat) : Int)) else (none)) else ((spec_l6Raise.f k t).bind fun t251 => (if out.length < 8796093022208 then (spec_SentenceCase.l0 k ws (out ++ [t251]) ((i + 1 : Nat) : Int)) else (none))))) else (if out.length < 8796093022208 then (spec_SentenceCase.l0 k ws (out ++ [t]) ((i + 1 : Nat) : Int)) else (none))) R →
        Ev (fun k => if x = true then ((impl_hasBrace.f w).bind fun t276 => (if t276 = true then (if out.length < 8796093022208 then (impl_SentenceCase.l0 k ws (out ++ [t]) ws (ws.length : Int) ((i + 1 : Nat) : Int)) else (none)) else ((impl_raised.f t).bind fun t280 => (if out.length < 8796093022208 then (impl_SentenceCase.l0 k ws (out ++ [t280]) ws (ws.length : Int) ((i + 1 : Nat) : Int)) else (none))))) else (if out.length < 8796093022208 then (impl_SentenceCase.l0 k ws (out ++ [t]) ws (ws.length : Int) ((i + 1 : Nat) : Int)) else (none))) R →
        Ev (fun k => spec_SentenceCase.l0 k ws out (i : Int)) R ∧ Ev (fun k => impl_SentenceCase.l0 k ws out ws (ws.length : Int) (i : Int)) R := fun x R hc e1 e2 => by
      constructor
      · refine Ev.step (fun k => ?_) (Ev.bind sc (f := fun k t245 => (spec_l6Starts.f ws (i : Int)).bind fun t246 => (if t246 = true then ((spec_l6Brace.f k t245).bind fun t247 => (if t247 = true then (if out.length < 8796093022208 then (spec_SentenceCase.l0 k ws (out ++ [t245]) ((i + 1 : Nat) : Int)) else (none)) else ((spec_l6Raise.f k t245).bind fun t251 => (if out.length < 8796093022208 then (spec_SentenceCase.l0 k ws (out ++ [t251]) ((i + 1 : Nat) : Int)) else (none))))) else (if out.length < 8796093022208 then (spec_SentenceCase.l0 k ws (out ++ [t245]) ((i + 1 : Nat) : Int)) else (none)))) ?_)
        · simp only [spec_SentenceCase.l0]
          rw [if_pos (by omega), if_pos (by omega), e, hwr]
        · rw [ss, hc]
          exact e1
      · refine Ev.step (fun k => ?_) (Ev.bind ic (f := fun k t274 => (impl_begins.f ws (i : Int)).bind fun t275 => (if t275 = true then ((impl_hasBrace.f w).bind fun t276 => (if t276 = true then (if out.length < 8796093022208 then (impl_SentenceCase.l0 k ws (out ++ [t274]) ws (ws.length : Int) ((i + 1 : Nat) : Int)) else (none)) else ((impl_raised.f t274).bind fun t280 => (if out.length < 8796093022208 then (impl_SentenceCase.l0 k ws (out ++ [t280]) ws (ws.length : Int) ((i + 1 : Nat) : Int)) else (none))))) else (if out.length < 8796093022208 then (impl_SentenceCase.l0 k ws (out ++ [t274]) ws (ws.length : Int) ((i + 1 : Nat) : Int)) else (none)))) ?_)
        · simp only [impl_SentenceCase.l0]
          rw [if_pos (by omega), if_pos (by omega), if_pos (by omega), e, hwr]
        · rw [ib2, hc]
          exact e2
    cases hb : begW ws i with
    | false =>
      obtain ⟨R, e1, e2⟩ := next t zc
      exact ⟨R, top false R hb (Ev.congr (fun _ => (if_neg (by decide)).trans (if_pos ho2)) e1) (Ev.congr (fun _ => (if_neg (by decide)).trans (if_pos ho2)) e2)⟩
    | true =>
      cases hbr : brB w.data.toList with
      | true =>
        rw [hbr] at sb ib
        obtain ⟨R, e1, e2⟩ := next t zc
        refine ⟨R, top true R hb (Ev.congr (fun _ => if_pos rfl) (Ev.bind sb (Ev.congr (fun _ => (if_pos rfl).trans (if_pos ho2)) e1))) (Ev.congr (fun _ => if_pos rfl) ?_)⟩
        rw [ib]
        simp only [Option.bind_some]
        exact Ev.congr (fun _ => (if_pos trivial).trans (if_pos ho2)) e2
      | false =>
        rw [hbr] at sb ib
        obtain ⟨R, e1, e2⟩ := next u zr
        refine ⟨R, top true R hb (Ev.congr (fun _ => if_pos rfl) (Ev.bind sb (Ev.congr (fun _ => if_neg (by decide)) (Ev.bind sr (Ev.congr (fun _ => if_pos ho2) e1))))) (Ev.congr (fun _ => if_pos rfl) ?_)⟩
        rw [ib, ir]
        simp only [Option.bind_some]
        exact Ev.congr (fun _ => (if_neg (by decide)).trans (if_pos ho2)) e2
theorem SentenceCase_both (s : ByteArray) (hs : s.size ≤ 1048576) : ∃ R, Ev (fun k => spec_SentenceCase.f k s) R ∧ Ev (fun k => impl_SentenceCase.f k s) R := by
  have g1 := specGood s (by omega)
  have g2 := implValid s (by omega)
  unfold spec_SentenceCase.f impl_SentenceCase.f
  cases h : okTitle s.data.toList with
  | false =>
    rw [h] at g1 g2
    exact ⟨(⟨#[]⟩, false), Ev.bind g1 (Ev.congr (fun _ => if_neg (by decide)) (Ev.now _)), Ev.bind g2 (Ev.congr (fun _ => if_neg (by decide)) (Ev.now _))⟩
  | true =>
    rw [h] at g1 g2
    obtain ⟨w1, w2⟩ := words_both s (by omega) (by rw [(okT_of h).br]; rfl)
    obtain ⟨l1, _, l3⟩ := words_okw s h
    obtain ⟨R, e1, e2⟩ := sent_loop (wordsOf s) l1 l3 _ 0 [] (Nat.zero_add _) rfl (fun x hx => by cases hx)
    exact ⟨R, Ev.bind g1 (Ev.congr (fun _ => if_pos rfl) (Ev.bind w1 e1)), Ev.bind g2 (Ev.congr (fun _ => if_pos rfl) (Ev.bind w2 e2))⟩
theorem FnExactSentenceCase : laws_FnExactSentenceCase.Pure := by
  intro s _
  refine Ev.rounds (g := fun k => laws_FnExactSentenceCase.f k s) ?_
  unfold laws_FnExactSentenceCase.f
  by_cases c : (s.size : Int) > 1048576
  · exact Ev.congr (fun _ => if_pos c) (Ev.now true)
  obtain ⟨R, e1, e2⟩ := SentenceCase_both s (by omega)
  refine Ev.congr (fun _ => if_neg c) (Ev.bind e1 (Ev.bind e2 (Ev.congr (f := fun _ => some true) (fun _ => ?_) (Ev.now true))))
  rw [if_pos rfl, bne_self_eq_false]
  rfl

end Go.Proofs.YtilchcponlgmjaaDoor.Pure
