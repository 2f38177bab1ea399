/- Lemmas on the printed functions, without Go and memory. -/
import Derived.Test.YtilchcponlgmjaaDoorPx10
import Derived.Test.YtilchcponlgmjaaDoorPx11
import Derived.Test.YtilchcponlgmjaaDoorPx12
import Derived.Test.YtilchcponlgmjaaDoorPx3
import Derived.Test.YtilchcponlgmjaaDoorPx4
import Derived.Test.YtilchcponlgmjaaDoorPx5
import Derived.Test.YtilchcponlgmjaaDoorPx8
import Derived.Test.YtilchcponlgmjaaDoorPx9
import Derived.Test.YtilchcponlgmjaaDoorQTitG
namespace Go.Proofs.YtilchcponlgmjaaDoor.Pure
open Go.RowKit Go.Proofs.YtilchcponlgmjaaDoor.Px Go.Proofs.YtilchcponlgmjaaDoorW.PrintWords Go.Proofs.YtilchcponlgmjaaDoorW.PrintLast
set_option linter.unusedVariables false
set_option linter.unusedSimpArgs false

def minorB (w : ByteArray) : Bool := (impl_isMinor.f (ofL (w.data.toList.map loB))).getD false
/-- A word in the title's case. -/
def tcB (w : ByteArray) (m bg lt : Bool) : ByteArray := if brB w.data.toList = true then w else if (m && (!bg && lt)) = true then ofL (w.data.toList.map loB) else ofL (raiseL w.data.toList)
def tcW (ws : List ByteArray) (i : Nat) : ByteArray := tcB (ws.getD i ByteArray.empty) (minorB (ws.getD i ByteArray.empty)) (begW ws i) (decide (i + 1 < ws.length))
def tcs (ws : List ByteArray) : List ByteArray := (List.range ws.length).map (tcW ws)
theorem case_loop (ws : List ByteArray) (hl : ws.length ≤ 101) (hw : ∀ w ∈ ws, OkW w) : ∀ (d i : Nat) (out : List ByteArray), i + d = ws.length → out = (List.range i).map (tcW ws) → (∀ x ∈ out, x.size ≤ 100) →
    Ev (fun k => spec_TitleCase.l0 k ws out (i : Int)) (JN (tcs ws), true) ∧ Ev (fun k => impl_TitleCase.l0 k ws out ws (ws.length : Int) (i : Int)) (JN (tcs ws), true)
  | 0, i, out, hi, ho, hx => by
    have hout : out = tcs ws := by rw [ho]; unfold tcs; rw [show i = ws.length from by omega]
    have ho : out.length = i := by rw [ho]; simp
    have ht := tot_le out 100 hx
    rw [← hout]
    refine ⟨?_, ?_⟩
    · refine Ev.step (fun k => ?_) (Ev.bind (specJoin out (by omega) (by omega)) (f := fun _ t => some (t, true)) (Ev.now _))
      simp only [spec_TitleCase.l0]
      rw [if_neg (by omega)]
    · refine Ev.step (f := fun _ => some (JN out, true)) (fun k => ?_) (Ev.now _)
      simp only [impl_TitleCase.l0]
      rw [if_neg (by omega), implJoin out (by omega) (by omega)]
      rfl
  | d + 1, i, out, hi, hot, hx => by
    have ho : out.length = i := by rw [hot]; simp
    have hlt : i < ws.length := by omega
    have hget : ws.getD i ByteArray.empty = ws[i] := by rw [List.getD_eq_getElem?_getD, List.getElem?_eq_getElem hlt]; rfl
    have htc : tcW ws i = tcB ws[i] (minorB ws[i]) (begW ws i) (decide (i + 1 < ws.length)) := by unfold tcW; rw [hget]
    have hwr : wrap64 ((i : Int) + 1) = ((i + 1 : Nat) : Int) := by rw [wrap_small (by omega) (by omega)]; rfl
    have e : rdOf ByteArray.empty ws (i : Int) = ws[i] := by
      unfold rdOf
      rw [Int.toNat_natCast, List.getD_eq_getElem?_getD, List.getElem?_eq_getElem hlt]
      rfl
    have o := hw _ (List.getElem_mem hlt)
    have n2 := o.n2
    have ho2 : out.length < 8796093022208 := by omega
    have next : ∀ v : ByteArray, v.size ≤ 100 → tcW ws i = v → Ev (fun k => spec_TitleCase.l0 k ws (out ++ [v]) ((i + 1 : Nat) : Int)) (JN (tcs ws), true) ∧ Ev (fun k => impl_TitleCase.l0 k ws (out ++ [v]) ws (ws.length : Int) ((i + 1 : Nat) : Int)) (JN (tcs ws), true) := fun v hv hvt =>
      case_loop ws hl hw d (i + 1) (out ++ [v]) (by omega) (by rw [hot, List.range_succ, List.map_append, ← hvt]; rfl) (fun x hm => by
        rcases List.mem_append.1 hm with h | h
        · exact hx x h
        · rw [List.mem_singleton] at h; subst h; exact hv)
    have sb := specBrace ws[i] (by omega)
    have ib := implBrace ws[i] (by omega) o.asc
    obtain ⟨m, hm⟩ := implMinor (ofL ((ws[i]).data.toList.map loB))
    have hmb : minorB ws[i] = m := by unfold minorB; rw [hm]; rfl
    have sm := specMinor ws[i] (by omega) m hm
    have il := implLower ws[i] (by omega)
    have sl := specLower ws[i] (by omega)
    have sr := specRaise ws[i] (by omega)
    have ir := implRaise ws[i] (by omega)
    have ss := specStarts ws i hlt (by omega) hw
    have ib2 := implBegins ws i hlt (by omega) hw
    clear hget
    generalize ws[i] = w at *
    have zr : (ofL (raiseL w.data.toList)).size ≤ 100 := by rw [ofL_size, raise_len, data_length]; omega
    have zl : (ofL (w.data.toList.map loB)).size ≤ 100 := by rw [ofL_size, List.length_map, data_length]; omega
    cases hbr : brB w.data.toList with
    | true =>
      rw [hbr] at sb ib
      obtain ⟨e1, e2⟩ := next w n2 (by rw [htc]; unfold tcB; rw [if_pos hbr])
      refine ⟨?_, ?_⟩
      · refine Ev.step (f := fun k => (spec_l6Brace.f k w).bind fun t => if t = true then spec_TitleCase.l0 k ws (out ++ [w]) ((i + 1 : Nat) : Int) else ((spec_l6Minor.f k w).bind fun t312 => (if t312 = true then ((spec_l6Starts.f ws (i : Int)).bind fun t313 => (if t313 = true then (spec_TitleCase.j1 k ws out (i : Int) w false) else (spec_TitleCase.j1 k ws out (i : Int) w (decide ((wrap64 ((i : Int) + 1)) < (ws.length : Int)))))) else (spec_TitleCase.j1 k ws out (i : Int) w false)))) (fun k => ?_) (Ev.bind sb (Ev.congr (fun _ => if_pos rfl) e1))
        simp only [spec_TitleCase.l0]
        rw [if_pos (by omega), if_pos (by omega), e, if_pos ho2, hwr]
      · refine Ev.step (fun k => ?_) e2
        simp only [impl_TitleCase.l0]
        rw [if_pos (by omega), if_pos (by omega), if_pos (by omega), e, ib, Option.bind_some, if_pos rfl, if_pos ho2, hwr]
    | false =>
      rw [hbr] at sb ib
      -- the last step, by the test
      have last : ∀ x : Bool, (m && (!(begW ws i) && decide (i + 1 < ws.length))) = x → Ev (fun k => spec_TitleCase.j1 k ws out (i : Int) w x) (JN (tcs ws), true) ∧ Ev (fun k => impl_TitleCase.j1 k ws out w ws (ws.length : Int) (i : Int) x) (JN (tcs ws), true) := fun x hxx => by
        cases x with
        | true =>
          obtain ⟨e1, e2⟩ := next _ zl (by rw [htc]; unfold tcB; rw [if_neg (by rw [hbr]; decide), hmb, if_pos hxx])
          refine ⟨?_, ?_⟩
          · refine Ev.step (fun k => ?_) (Ev.bind sl (f := fun k t => if out.length < 8796093022208 then spec_TitleCase.l0 k ws (out ++ [t]) (wrap64 ((i : Int) + 1)) else none) (Ev.congr (fun _ => if_pos ho2) (by rw [hwr]; exact e1)))
            simp only [spec_TitleCase.j1]
            rw [if_pos trivial]
          · refine Ev.step (fun k => ?_) e2
            simp only [impl_TitleCase.j1]
            rw [if_pos trivial, il, Option.bind_some, if_pos ho2, hwr]
        | false =>
          obtain ⟨e1, e2⟩ := next _ zr (by rw [htc]; unfold tcB; rw [if_neg (by rw [hbr]; decide), hmb, if_neg (by rw [hxx]; decide)])
          refine ⟨?_, ?_⟩
          · refine Ev.step (fun k => ?_) (Ev.bind sr (f := fun k t => if out.length < 8796093022208 then spec_TitleCase.l0 k ws (out ++ [t]) (wrap64 ((i : Int) + 1)) else none) (Ev.congr (fun _ => if_pos ho2) (by rw [hwr]; exact e1)))
            simp only [spec_TitleCase.j1]
            rw [if_neg (by decide)]
          · refine Ev.step (fun k => ?_) e2
            simp only [impl_TitleCase.j1]
            rw [if_neg (by decide), ir, Option.bind_some, if_pos ho2, hwr]
      have hdec : decide ((i : Int) < wrap64 ((ws.length : Int) - 1)) = decide (wrap64 ((i : Int) + 1) < (ws.length : Int)) := by
        rw [hwr, wrap_small (by omega) (by omega), decide_eq_decide]
        omega
      have top : ∀ (x : Bool) (R : ByteArray × Bool), (m = true ∧ begW ws i = true ∧ x = false ∨ m = true ∧ begW ws i = false ∧ x = decide (wrap64 ((i : Int) + 1) < (ws.length : Int)) ∨ m = false ∧ x = false) →
          Ev (fun k => spec_TitleCase.j1 k ws out (i : Int) w x) R → Ev (fun k => impl_TitleCase.j1 k ws out w ws (ws.length : Int) (i : Int) x) R →
          Ev (fun k => spec_TitleCase.l0 k ws out (i : Int)) R ∧ Ev (fun k => impl_TitleCase.l0 k ws out ws (ws.length : Int) (i : Int)) R := fun x R hc e1 e2 => by
        constructor
        · refine Ev.step (fun k => ?_) (Ev.bind sb (f := fun k t => if t = true then (if out.length < 8796093022208 then spec_TitleCase.l0 k ws (out ++ [w]) (wrap64 ((i : Int) + 1)) else none) else ((spec_l6Minor.f k w).bind fun t312 => (if t312 = true then ((spec_l6Starts.f ws (i : Int)).bind fun t313 => (if t313 = true then (spec_TitleCase.j1 k ws out (i : Int) w false) else (spec_TitleCase.j1 k ws out (i : Int) w (decide ((wrap64 ((i : Int) + 1)) < (ws.length : Int)))))) else (spec_TitleCase.j1 k ws out (i : Int) w false)))) (Ev.congr (fun _ => if_neg (by decide)) (Ev.bind sm ?_)))
          · simp only [spec_TitleCase.l0]
            rw [if_pos (by omega), if_pos (by omega), e]
          · rw [ss]
            simp only [Option.bind_some]
            rcases hc with ⟨a, b, c⟩ | ⟨a, b, c⟩ | ⟨a, c⟩
            · rw [a, b]; rw [c] at e1; simp only [if_true]; exact e1
            · rw [a, b]; rw [c] at e1; simp only [if_true, Bool.false_eq_true, if_false]; exact e1
            · rw [a]; rw [c] at e1; simp only [Bool.false_eq_true, if_false]; exact e1
        · refine Ev.step (fun k => ?_) e2
          simp only [impl_TitleCase.l0]
          rw [if_pos (by omega), if_pos (by omega), if_pos (by omega), e, ib, Option.bind_some, if_neg (by decide), il, Option.bind_some, hm, Option.bind_some, ib2, Option.bind_some]
          rcases hc with ⟨a, b, c⟩ | ⟨a, b, c⟩ | ⟨a, c⟩
          · rw [a, b, c]; simp only [if_true]
          · rw [a, b, c, hdec]; simp only [if_true, Bool.false_eq_true, if_false]
          · rw [a, c]; simp only [Bool.false_eq_true, if_false]
      obtain ⟨x, hx2⟩ : ∃ x : Bool, (m = true ∧ begW ws i = true ∧ x = false ∨ m = true ∧ begW ws i = false ∧ x = decide (wrap64 ((i : Int) + 1) < (ws.length : Int)) ∨ m = false ∧ x = false) := by
        cases m with
        | false => exact ⟨false, .inr (.inr ⟨rfl, rfl⟩)⟩
        | true =>
          cases begW ws i with
          | true => exact ⟨false, .inl ⟨rfl, rfl, rfl⟩⟩
          | false => exact ⟨_, .inr (.inl ⟨rfl, rfl, rfl⟩)⟩
      have hd2 : decide (wrap64 ((i : Int) + 1) < (ws.length : Int)) = decide (i + 1 < ws.length) := by rw [hwr, decide_eq_decide]; omega
      obtain ⟨e1, e2⟩ := last x (by
        rcases hx2 with ⟨a, b, c⟩ | ⟨a, b, c⟩ | ⟨a, c⟩
        · rw [a, b, c]; rfl
        · rw [a, b, c, hd2]; rfl
        · rw [a, c]; rfl)
      exact top x _ hx2 e1 e2
theorem TitleCase_x (s : ByteArray) (hs : s.size ≤ 1048576) : Ev (fun k => spec_TitleCase.f k s) (if okTitle s.data.toList = true then (JN (tcs (wordsOf s)), true) else (⟨#[]⟩, false)) ∧ Ev (fun k => impl_TitleCase.f k s) (if okTitle s.data.toList = true then (JN (tcs (wordsOf s)), true) else (⟨#[]⟩, false)) := by
  have g1 := specGood s (by omega)
  have g2 := implValid s (by omega)
  unfold spec_TitleCase.f impl_TitleCase.f
  cases h : okTitle s.data.toList with
  | false =>
    rw [h] at g1 g2
    exact ⟨Ev.bind g1 (Ev.congr (fun _ => if_neg (by decide)) (Ev.now _)), Ev.bind g2 (Ev.congr (fun _ => if_neg (by decide)) (Ev.now _))⟩
  | true =>
    rw [h] at g1 g2
    obtain ⟨w1, w2⟩ := words_both s (by omega) (by rw [(okT_of h).br]; rfl)
    obtain ⟨l1, _, l3⟩ := words_okw s h
    obtain ⟨e1, e2⟩ := case_loop (wordsOf s) l1 l3 _ 0 [] (Nat.zero_add _) rfl (fun x hx => by cases hx)
    exact ⟨Ev.bind g1 (Ev.congr (fun _ => if_pos rfl) (Ev.bind w1 e1)), Ev.bind g2 (Ev.congr (fun _ => if_pos rfl) (Ev.bind w2 e2))⟩

/-- A word in the sentence's case. -/
def scB (w : ByteArray) (bg : Bool) : ByteArray := if (bg && !(brB w.data.toList)) = true then ofL (raiseL (calmL false w.data.toList)) else ofL (calmL false w.data.toList)
def scW (ws : List ByteArray) (i : Nat) : ByteArray := scB (ws.getD i ByteArray.empty) (begW ws i)
def scs (ws : List ByteArray) : List ByteArray := (List.range ws.length).map (scW ws)
theorem sent_loop (ws : List ByteArray) (hl : ws.length ≤ 101) (hw : ∀ w ∈ ws, OkW w) : ∀ (d i : Nat) (out : List ByteArray), i + d = ws.length → out = (List.range i).map (scW ws) → (∀ x ∈ out, x.size ≤ 100) →
    Ev (fun k => spec_SentenceCase.l0 k ws out (i : Int)) (JN (scs ws), true) ∧ Ev (fun k => impl_SentenceCase.l0 k ws out ws (ws.length : Int) (i : Int)) (JN (scs ws), true)
  | 0, i, out, hi, ho, hx => by
    have hout : out = scs ws := by rw [ho]; unfold scs; rw [show i = ws.length from by omega]
    have ho : out.length = i := by rw [ho]; simp
    have ht := tot_le out 100 hx
    rw [← hout]
    refine ⟨?_, ?_⟩
    · refine Ev.step (fun k => ?_) (Ev.bind (specJoin out (by omega) (by omega)) (f := fun _ t => some (t, true)) (Ev.now _))
      simp only [spec_SentenceCase.l0]
      rw [if_neg (by omega)]
    · refine Ev.step (f := fun _ => some (JN out, true)) (fun k => ?_) (Ev.now _)
      simp only [impl_SentenceCase.l0]
      rw [if_neg (by omega), implJoin out (by omega) (by omega)]
      rfl
  | d + 1, i, out, hi, hot, hx => by
    have ho : out.length = i := by rw [hot]; simp
    have hlt : i < ws.length := by omega
    have hget : ws.getD i ByteArray.empty = ws[i] := by rw [List.getD_eq_getElem?_getD, List.getElem?_eq_getElem hlt]; rfl
    have htc : scW ws i = scB ws[i] (begW ws i) := by unfold scW; rw [hget]
    have hwr : wrap64 ((i : Int) + 1) = ((i + 1 : Nat) : Int) := by rw [wrap_small (by omega) (by omega)]; rfl
    have e : rdOf ByteArray.empty ws (i : Int) = ws[i] := by
      unfold rdOf
      rw [Int.toNat_natCast, List.getD_eq_getElem?_getD, List.getElem?_eq_getElem hlt]
      rfl
    have o := hw _ (List.getElem_mem hlt)
    have n2 := o.n2
    have ho2 : out.length < 8796093022208 := by omega
    have next : ∀ v : ByteArray, v.size ≤ 100 → scW ws i = v → Ev (fun k => spec_SentenceCase.l0 k ws (out ++ [v]) ((i + 1 : Nat) : Int)) (JN (scs ws), true) ∧ Ev (fun k => impl_SentenceCase.l0 k ws (out ++ [v]) ws (ws.length : Int) ((i + 1 : Nat) : Int)) (JN (scs ws), true) := fun v hv hvt =>
      sent_loop ws hl hw d (i + 1) (out ++ [v]) (by omega) (by rw [hot, List.range_succ, List.map_append, ← hvt]; rfl) (fun x hm => by
        rcases List.mem_append.1 hm with h | h
        · exact hx x h
        · rw [List.mem_singleton] at h; subst h; exact hv)
    have ib := implBrace ws[i] (by omega) o.asc
    have sc := specCalm ws[i] (by omega)
    have ic := implCalm ws[i] (by omega) (by rw [o.br]; rfl)
    have ss := specStarts ws i hlt (by omega) hw
    have ib2 := implBegins ws i hlt (by omega) hw
    have hcb := calm_brB (ws[i]).data.toList false
    clear hget
    generalize ws[i] = w at *
    unfold scB at htc
    have zc : (ofL (calmL false w.data.toList)).size ≤ 100 := by rw [ofL_size, calm_len, data_length]; omega
    have sb := specBrace (ofL (calmL false w.data.toList)) (by omega)
    rw [ofL_toList, hcb] at sb
    have sr := specRaise (ofL (calmL false w.data.toList)) (by omega)
    have ir := implRaise (ofL (calmL false w.data.toList)) (by omega)
    rw [ofL_toList] at sr ir
    have zr : (ofL (raiseL (calmL false w.data.toList))).size ≤ 100 := by rw [ofL_size, raise_len, calm_len, data_length]; omega
    generalize ofL (calmL false w.data.toList) = t at *
    generalize ofL (raiseL (calmL false w.data.toList)) = u at *
    have top : ∀ (x : Bool) (R : ByteArray × Bool), begW ws i = x →
        Ev (fun k => if x = true then ((spec_l6Brace.f k t).bind fun t247 => (if t247 = true then (if out.length < 8796093022208 then (spec_SentenceCase.l0 k ws (out ++ [t]) ((i + 1 : Nat) : Int)) else (none)) else ((spec_l6Raise.f k t).bind fun t251 => (if out.length < 8796093022208 then (spec_SentenceCase.l0 k ws (out ++ [t251]) ((i + 1 : Nat) : Int)) else (none))))) else (if out.length < 8796093022208 then (spec_SentenceCase.l0 k ws (out ++ [t]) ((i + 1 : Nat) : Int)) else (none))) R →
        Ev (fun k => if x = true then ((impl_hasBrace.f w).bind fun t276 => (if t276 = true then (if out.length < 8796093022208 then (impl_SentenceCase.l0 k ws (out ++ [t]) ws (ws.length : Int) ((i + 1 : Nat) : Int)) else (none)) else ((impl_raised.f t).bind fun t280 => (if out.length < 8796093022208 then (impl_SentenceCase.l0 k ws (out ++ [t280]) ws (ws.length : Int) ((i + 1 : Nat) : Int)) else (none))))) else (if out.length < 8796093022208 then (impl_SentenceCase.l0 k ws (out ++ [t]) ws (ws.length : Int) ((i + 1 : Nat) : Int)) else (none))) R →
        Ev (fun k => spec_SentenceCase.l0 k ws out (i : Int)) R ∧ Ev (fun k => impl_SentenceCase.l0 k ws out ws (ws.length : Int) (i : Int)) R := fun x R hc e1 e2 => by
      constructor
      · refine Ev.step (fun k => ?_) (Ev.bind sc (f := fun k t245 => (spec_l6Starts.f ws (i : Int)).bind fun t246 => (if t246 = true then ((spec_l6Brace.f k t245).bind fun t247 => (if t247 = true then (if out.length < 8796093022208 then (spec_SentenceCase.l0 k ws (out ++ [t245]) ((i + 1 : Nat) : Int)) else (none)) else ((spec_l6Raise.f k t245).bind fun t251 => (if out.length < 8796093022208 then (spec_SentenceCase.l0 k ws (out ++ [t251]) ((i + 1 : Nat) : Int)) else (none))))) else (if out.length < 8796093022208 then (spec_SentenceCase.l0 k ws (out ++ [t245]) ((i + 1 : Nat) : Int)) else (none)))) ?_)
        · simp only [spec_SentenceCase.l0]
          rw [if_pos (by omega), if_pos (by omega), e, hwr]
        · rw [ss, hc]
          exact e1
      · refine Ev.step (fun k => ?_) (Ev.bind ic (f := fun k t274 => (impl_begins.f ws (i : Int)).bind fun t275 => (if t275 = true then ((impl_hasBrace.f w).bind fun t276 => (if t276 = true then (if out.length < 8796093022208 then (impl_SentenceCase.l0 k ws (out ++ [t274]) ws (ws.length : Int) ((i + 1 : Nat) : Int)) else (none)) else ((impl_raised.f t274).bind fun t280 => (if out.length < 8796093022208 then (impl_SentenceCase.l0 k ws (out ++ [t280]) ws (ws.length : Int) ((i + 1 : Nat) : Int)) else (none))))) else (if out.length < 8796093022208 then (impl_SentenceCase.l0 k ws (out ++ [t274]) ws (ws.length : Int) ((i + 1 : Nat) : Int)) else (none)))) ?_)
        · simp only [impl_SentenceCase.l0]
          rw [if_pos (by omega), if_pos (by omega), if_pos (by omega), e, hwr]
        · rw [ib2, hc]
          exact e2
    cases hb : begW ws i with
    | false =>
      obtain ⟨e1, e2⟩ := next t zc (by rw [htc, hb, if_neg (by simp)])
      exact (top false _ hb (Ev.congr (fun _ => (if_neg (by decide)).trans (if_pos ho2)) e1) (Ev.congr (fun _ => (if_neg (by decide)).trans (if_pos ho2)) e2))
    | true =>
      cases hbr : brB w.data.toList with
      | true =>
        rw [hbr] at sb ib
        obtain ⟨e1, e2⟩ := next t zc (by rw [htc, hbr, hb, if_neg (by simp)])
        refine (top true _ hb (Ev.congr (fun _ => if_pos rfl) (Ev.bind sb (Ev.congr (fun _ => (if_pos rfl).trans (if_pos ho2)) e1))) (Ev.congr (fun _ => if_pos rfl) ?_))
        rw [ib]
        simp only [Option.bind_some]
        exact Ev.congr (fun _ => (if_pos trivial).trans (if_pos ho2)) e2
      | false =>
        rw [hbr] at sb ib
        obtain ⟨e1, e2⟩ := next u zr (by rw [htc, hbr, hb, if_pos (by simp)])
        refine (top true _ hb (Ev.congr (fun _ => if_pos rfl) (Ev.bind sb (Ev.congr (fun _ => if_neg (by decide)) (Ev.bind sr (Ev.congr (fun _ => if_pos ho2) e1))))) (Ev.congr (fun _ => if_pos rfl) ?_))
        rw [ib, ir]
        simp only [Option.bind_some]
        exact Ev.congr (fun _ => (if_neg (by decide)).trans (if_pos ho2)) e2
theorem SentenceCase_x (s : ByteArray) (hs : s.size ≤ 1048576) : Ev (fun k => spec_SentenceCase.f k s) (if okTitle s.data.toList = true then (JN (scs (wordsOf s)), true) else (⟨#[]⟩, false)) ∧ Ev (fun k => impl_SentenceCase.f k s) (if okTitle s.data.toList = true then (JN (scs (wordsOf s)), true) else (⟨#[]⟩, false)) := by
  have g1 := specGood s (by omega)
  have g2 := implValid s (by omega)
  unfold spec_SentenceCase.f impl_SentenceCase.f
  cases h : okTitle s.data.toList with
  | false =>
    rw [h] at g1 g2
    exact ⟨Ev.bind g1 (Ev.congr (fun _ => if_neg (by decide)) (Ev.now _)), Ev.bind g2 (Ev.congr (fun _ => if_neg (by decide)) (Ev.now _))⟩
  | true =>
    rw [h] at g1 g2
    obtain ⟨w1, w2⟩ := words_both s (by omega) (by rw [(okT_of h).br]; rfl)
    obtain ⟨l1, _, l3⟩ := words_okw s h
    obtain ⟨e1, e2⟩ := sent_loop (wordsOf s) l1 l3 _ 0 [] (Nat.zero_add _) rfl (fun x hx => by cases hx)
    exact ⟨Ev.bind g1 (Ev.congr (fun _ => if_pos rfl) (Ev.bind w1 e1)), Ev.bind g2 (Ev.congr (fun _ => if_pos rfl) (Ev.bind w2 e2))⟩

end Go.Proofs.YtilchcponlgmjaaDoor.Pure
