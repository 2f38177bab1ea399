/- Lemmas on the printed functions, without Go and memory. -/
import Derived.Test.YthcccgnhokncdaaGreatDoorPx11
import Derived.Test.YthcccgnhokncdaaGreatDoorPx5
import Derived.Test.YthcccgnhokncdaaGreatDoorPx6
import Derived.Test.YthcccgnhokncdaaGreatDoorPx9
import Derived.Test.YthcccgnhokncdaaGreatDoorQRnD
namespace Go.Proofs.YthcccgnhokncdaaGreatDoor.Pure
open Go.RowKit Go.Proofs.YthcccgnhokncdaaGreatDoor.Px Go.Proofs.YthcccgnhokncdaaGreatDoorW.PrintWords Go.Proofs.YthcccgnhokncdaaGreatDoorW.PrintLast
set_option linter.unusedVariables false
set_option linter.unusedSimpArgs false

abbrev lF (k : Nat) (e : En) (n : Int) (f : ByteArray) := spec_l10Field.f k e.key e.kind e.au e.ed e.ti e.co e.pu e.y e.m e.d e.c e.vol e.pg e.cr n f
abbrev iF (k : Nat) (e : En) (n : Int) (f : ByteArray) := impl_renderField.f k e.key e.kind e.au e.ed e.ti e.co e.pu e.y e.m e.d e.c e.vol e.pg e.cr n false f
theorem val_parts (e : En) (h : valB e = true) : namesB e.au = true ∧ namesB e.ed = true ∧ dateB e.y e.m e.d e.c = true ∧ inI e.vol 0 9999 = true := by
  unfold valB at h
  simp only [Bool.and_eq_true] at h
  obtain ⟨_, _, h1, h2, _, _, _, _, h3, h4, _⟩ := h
  exact ⟨h1, h2, h3, h4⟩
theorem field_both (e : En) (o : EnOk e) (hv : valB e = true) (n : Int) (hn : 1 ≤ n) (f : ByteArray) : ∃ r : ByteArray, Ev (fun k => lF k e n f) r ∧ Ev (fun k => iF k e n f) r := by
  obtain ⟨ha, hed, hd, hvol⟩ := val_parts e hv
  have va := ns_v e.au o.au ha
  have ve := ns_v e.ed o.ed hed
  have vd := dt_v e.y e.m e.d e.c hd
  have hb := inI_parts _ _ _ hvol
  unfold lF iF spec_l10Field.f impl_renderField.f
  by_cases c1 : f.toList = [97, 117, 116, 104, 111, 114, 115]
  · exact ⟨nmV e.au n, Ev.congr (fun _ => if_pos c1) (Ev.bind (names_sV e.au va n) (Ev.now _)), Ev.congr (fun _ => (if_pos c1).trans (if_neg (by decide))) (Ev.bind (names_iV e.au va n hn) (Ev.now _))⟩
  by_cases c2 : f.toList = [101, 100, 105, 116, 111, 114, 115]
  · exact ⟨nmV e.ed n, Ev.congr (fun _ => (if_neg c1).trans (if_pos c2)) (Ev.bind (names_sV e.ed ve n) (Ev.now _)), Ev.congr (fun _ => (if_neg c1).trans (if_pos c2)) (Ev.bind (names_iV e.ed ve n hn) (Ev.now _))⟩
  by_cases c3 : f.toList = [121, 101, 97, 114]
  · have c4 : ¬ f.toList = [100, 97, 116, 101] := fun h => by rw [c3] at h; exact absurd h (by decide)
    refine ⟨yeaV e.y e.c, Ev.congr (fun _ => (if_neg c1).trans ((if_neg c2).trans (if_pos c3))) (Ev.bind (year_s e.y e.m e.d e.c vd) (Ev.now _)), ?_⟩
    rw [year_i e.y e.m e.d e.c vd]
    exact Ev.congr (fun _ => (if_neg c1).trans ((if_neg c2).trans ((if_neg c4).trans (if_pos c3)))) (Ev.now _)
  by_cases c4 : f.toList = [107, 101, 121]
  · have c5 : ¬ f.toList = [100, 97, 116, 101] := fun h => by rw [c4] at h; exact absurd h (by decide)
    exact ⟨e.key, Ev.congr (fun _ => (if_neg c1).trans ((if_neg c2).trans ((if_neg c3).trans (if_pos c4)))) (Ev.now _), Ev.congr (fun _ => (if_neg c1).trans ((if_neg c2).trans ((if_neg c5).trans ((if_neg c3).trans (if_pos c4))))) (Ev.now _)⟩
  by_cases c5 : f.toList = [100, 97, 116, 101]
  · by_cases z : e.y = 0
    · exact ⟨⟨#[]⟩, Ev.congr (fun _ => (if_neg c1).trans ((if_neg c2).trans ((if_neg c3).trans ((if_neg c4).trans ((if_pos c5).trans (if_pos z)))))) (Ev.now _), Ev.congr (fun _ => (if_neg c1).trans ((if_neg c2).trans ((if_pos c5).trans (if_pos z)))) (Ev.now _)⟩
    · exact ⟨lonV e.y e.m e.d e.c, Ev.congr (fun _ => (if_neg c1).trans ((if_neg c2).trans ((if_neg c3).trans ((if_neg c4).trans ((if_pos c5).trans (if_neg z)))))) (Ev.bind (long_s e.y e.m e.d e.c vd z) (Ev.now _)), Ev.congr (fun _ => (if_neg c1).trans ((if_neg c2).trans ((if_pos c5).trans (if_neg z)))) (Ev.bind (long_i e.y e.m e.d e.c vd z) (Ev.now _))⟩
  have S : ∀ r : ByteArray, Ev (fun k => (spec_l4Field.f k e.key e.kind e.au e.ed e.ti e.co e.pu e.y e.m e.d e.c e.vol e.pg e.cr f).bind fun b => some b.1) r → Ev (fun k => lF k e n f) r := fun r h => by
    unfold lF spec_l10Field.f
    exact Ev.congr (fun _ => (if_neg c1).trans ((if_neg c2).trans ((if_neg c3).trans ((if_neg c4).trans (if_neg c5))))) h
  have I : ∀ r : ByteArray, Ev (fun k => impl_fieldText.f k e.key e.kind e.au e.ed e.ti e.co e.pu e.y e.m e.d e.c e.vol e.pg e.cr f) r → Ev (fun k => iF k e n f) r := fun r h => by
    unfold iF impl_renderField.f
    exact Ev.congr (fun _ => (if_neg c1).trans ((if_neg c2).trans ((if_neg c5).trans ((if_neg c3).trans (if_neg c4))))) (Ev.bind h (Ev.now _))
  suffices hs : ∃ r : ByteArray, (∃ b, Ev (fun k => spec_l4Field.f k e.key e.kind e.au e.ed e.ti e.co e.pu e.y e.m e.d e.c e.vol e.pg e.cr f) (r, b)) ∧ Ev (fun k => impl_fieldText.f k e.key e.kind e.au e.ed e.ti e.co e.pu e.y e.m e.d e.c e.vol e.pg e.cr f) r by
    obtain ⟨r, ⟨b, h1⟩, h2⟩ := hs
    exact ⟨r, S r (Ev.bind h1 (Ev.now _)), I r h2⟩
  unfold spec_l4Field.f impl_fieldText.f
  by_cases d1 : f.toList = [116, 105, 116, 108, 101]
  · exact ⟨e.ti, ⟨true, Ev.congr (fun _ => (if_neg c1).trans ((if_neg c2).trans (if_pos d1))) (Ev.now _)⟩, Ev.congr (fun _ => (if_neg c1).trans ((if_neg c2).trans (if_pos d1))) (Ev.now _)⟩
  by_cases d2 : f.toList = [99, 111, 110, 116, 97, 105, 110, 101, 114]
  · exact ⟨e.co, ⟨true, Ev.congr (fun _ => (if_neg c1).trans ((if_neg c2).trans ((if_neg d1).trans (if_pos d2)))) (Ev.now _)⟩, Ev.congr (fun _ => (if_neg c1).trans ((if_neg c2).trans ((if_neg d1).trans (if_pos d2)))) (Ev.now _)⟩
  by_cases d3 : f.toList = [112, 117, 98, 108, 105, 115, 104, 101, 114]
  · exact ⟨e.pu, ⟨true, Ev.congr (fun _ => (if_neg c1).trans ((if_neg c2).trans ((if_neg d1).trans ((if_neg d2).trans (if_pos d3))))) (Ev.now _)⟩, Ev.congr (fun _ => (if_neg c1).trans ((if_neg c2).trans ((if_neg d1).trans ((if_neg d2).trans (if_pos d3))))) (Ev.now _)⟩
  by_cases d4 : f.toList = [112, 97, 103, 101, 115]
  · have d5 : ¬ f.toList = [118, 111, 108, 117, 109, 101] := fun h => by rw [d4] at h; exact absurd h (by decide)
    exact ⟨e.pg, ⟨true, Ev.congr (fun _ => (if_neg c1).trans ((if_neg c2).trans ((if_neg d1).trans ((if_neg d2).trans ((if_neg d3).trans (if_pos d4)))))) (Ev.now _)⟩, Ev.congr (fun _ => (if_neg c1).trans ((if_neg c2).trans ((if_neg d1).trans ((if_neg d2).trans ((if_neg d3).trans ((if_neg c5).trans ((if_neg d5).trans (if_pos d4)))))))) (Ev.now _)⟩
  by_cases d5 : f.toList = [118, 111, 108, 117, 109, 101]
  · by_cases z : e.vol = 0
    · exact ⟨⟨#[]⟩, ⟨true, Ev.congr (fun _ => (if_neg c1).trans ((if_neg c2).trans ((if_neg d1).trans ((if_neg d2).trans ((if_neg d3).trans ((if_neg d4).trans ((if_neg c5).trans ((if_pos d5).trans (if_pos z))))))))) (Ev.now _)⟩, Ev.congr (fun _ => (if_neg c1).trans ((if_neg c2).trans ((if_neg d1).trans ((if_neg d2).trans ((if_neg d3).trans ((if_neg c5).trans ((if_pos d5).trans (if_neg (by omega))))))))) (Ev.now _)⟩
    · refine ⟨numT e.vol, ⟨true, Ev.congr (fun _ => (if_neg c1).trans ((if_neg c2).trans ((if_neg d1).trans ((if_neg d2).trans ((if_neg d3).trans ((if_neg d4).trans ((if_neg c5).trans ((if_pos d5).trans (if_neg z))))))))) (Ev.bind (num_evI e.vol hb.1 (by omega)) (Ev.now _))⟩, ?_⟩
      rw [itoa_some e.vol (by omega) (by omega)]
      exact Ev.congr (fun _ => (if_neg c1).trans ((if_neg c2).trans ((if_neg d1).trans ((if_neg d2).trans ((if_neg d3).trans ((if_neg c5).trans ((if_pos d5).trans (if_pos (by omega))))))))) (Ev.now _)
  · exact ⟨⟨#[]⟩, ⟨false, Ev.congr (fun _ => (if_neg c1).trans ((if_neg c2).trans ((if_neg d1).trans ((if_neg d2).trans ((if_neg d3).trans ((if_neg d4).trans ((if_neg c5).trans (if_neg d5)))))))) (Ev.now _)⟩, Ev.congr (fun _ => (if_neg c1).trans ((if_neg c2).trans ((if_neg d1).trans ((if_neg d2).trans ((if_neg d3).trans ((if_neg c5).trans ((if_neg d5).trans (if_neg d4)))))))) (Ev.now _)⟩
abbrev lA (k : Nat) (e : En) (n : Int) (f : ByteArray) := spec_RenderField.f k e.key e.kind e.au e.ed e.ti e.co e.pu e.y e.m e.d e.c e.vol e.pg e.cr n f
abbrev iA (k : Nat) (e : En) (n : Int) (f : ByteArray) := impl_RenderField.f k e.key e.kind e.au e.ed e.ti e.co e.pu e.y e.m e.d e.c e.vol e.pg e.cr n f
theorem ans_both (e : En) (o : EnOk e) (n : Int) (f : ByteArray) : ∃ r : ByteArray × Bool, Ev (fun k => lA k e n f) r ∧ Ev (fun k => iA k e n f) r := by
  have li : impl_isLimit.f n = some (inI n 1 4) := by unfold impl_isLimit.f; rw [in_i]; rfl
  unfold lA iA spec_RenderField.f impl_RenderField.f
  simp only [in_s, li, Option.bind_some]
  have vs := val_s e o
  have vi := val_i e o
  cases hv : valB e with
  | false =>
    rw [hv] at vs vi
    exact ⟨(⟨#[]⟩, false), Ev.bind vs (Ev.congr (fun _ => if_neg (by decide)) (Ev.now _)), Ev.bind vi (Ev.congr (fun _ => if_neg (by decide)) (Ev.now _))⟩
  | true =>
    rw [hv] at vs vi
    cases hn : inI n 1 4 with
    | false => exact ⟨(⟨#[]⟩, false), Ev.bind vs (Ev.congr (fun _ => (if_pos rfl).trans (if_neg (by decide))) (Ev.now _)), Ev.bind vi (Ev.congr (fun _ => (if_pos rfl).trans (if_neg (by decide))) (Ev.now _))⟩
    | true =>
      have ss := sty_s f
      have si := sty_i f
      cases hf : styB f with
      | false =>
        rw [hf] at ss si
        exact ⟨(⟨#[]⟩, false), Ev.bind vs (Ev.congr (fun _ => (if_pos rfl).trans (if_pos rfl)) (Ev.bind ss (Ev.congr (fun _ => if_neg (by decide)) (Ev.now _)))), Ev.bind vi (Ev.congr (fun _ => (if_pos rfl).trans (if_pos rfl)) (Ev.bind si (Ev.congr (fun _ => if_neg (by decide)) (Ev.now _))))⟩
      | true =>
        rw [hf] at ss si
        obtain ⟨r, h1, h2⟩ := field_both e o hv n (inI_parts _ _ _ hn).1 f
        exact ⟨(r, true), Ev.bind vs (Ev.congr (fun _ => (if_pos rfl).trans (if_pos rfl)) (Ev.bind ss (Ev.congr (fun _ => if_pos rfl) (Ev.bind h1 (Ev.now _))))), Ev.bind vi (Ev.congr (fun _ => (if_pos rfl).trans (if_pos rfl)) (Ev.bind si (Ev.congr (fun _ => if_pos rfl) (Ev.bind h2 (Ev.now _)))))⟩

end Go.Proofs.YthcccgnhokncdaaGreatDoor.Pure
