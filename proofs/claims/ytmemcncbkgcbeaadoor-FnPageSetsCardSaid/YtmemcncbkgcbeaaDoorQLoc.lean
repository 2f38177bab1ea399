/- Lemmas on the printed functions, without Go and memory. -/
import Derived.Test.YtmemcncbkgcbeaaDoorPx11
import Derived.Test.YtmemcncbkgcbeaaDoorPx12
import Derived.Test.YtmemcncbkgcbeaaDoorPx13
import Derived.Test.YtmemcncbkgcbeaaDoorPx14
import Derived.Test.YtmemcncbkgcbeaaDoorPx15
import Derived.Test.YtmemcncbkgcbeaaDoorQList
import Derived.Test.YtmemcncbkgcbeaaDoorQCount
namespace Go.Proofs.YtmemcncbkgcbeaaDoor.Pure
open Go.RowKit Go.Proofs.YtmemcncbkgcbeaaDoor.Px Go.Proofs.YtmemcncbkgcbeaaDoorW.PrintWords Go.Proofs.YtmemcncbkgcbeaaDoorW.PrintLast
set_option linter.unusedVariables false
set_option linter.unusedSimpArgs false

theorem is_text (a : ByteArray) (s : List UInt8) : a.toList = s ↔ a = ⟨s.toArray⟩ := by
  rw [Lib.toList_data]
  constructor
  · intro h
    exact ext_list _ _ (by rw [h])
  · rintro rfl
    rfl
theorem spec_loc (L : List Sp) (h : okl L = true) (n : Int) (hn : Ev (fun k => spec_l7Count.f k L) n) (one many : ByteArray) (h1 : one.size ≤ 9) (h2 : many.size ≤ 9) :
    Ev (fun k => spec_LocatorText.j0 k L one many) (((if n > 1 then many else one) ++ (⟨#[32]⟩ : ByteArray)) ++ LT L, true) := by
  obtain ⟨hs, e1, _⟩ := list_both L h
  have hsz : (⟨#[32]⟩ : ByteArray).size = 1 := rfl
  have fin : ∀ w : ByteArray, w.size ≤ 9 → Ev (fun k => (if w.size + 1 ≤ 9223372036854775807 then ((spec_l7List.f k L).bind fun t542 => (if (w ++ (⟨#[32]⟩ : ByteArray)).size + t542.size ≤ 9223372036854775807 then (some ((w ++ (⟨#[32]⟩ : ByteArray)) ++ t542, true)) else (none))) else (none))) ((w ++ (⟨#[32]⟩ : ByteArray)) ++ LT L, true) := fun w hw =>
    Ev.congr (fun _ => if_pos (by omega)) (Ev.bind e1 (Ev.congr (fun _ => if_pos (by simp only [ByteArray.size_append, hsz]; omega)) (Ev.now _)))
  refine Ev.step (fun k => rfl) (Ev.bind hn ?_)
  by_cases c : n > 1
  · rw [if_pos c]
    exact Ev.congr (fun _ => if_pos c) (fin many h2)
  · rw [if_neg c]
    exact Ev.congr (fun _ => if_neg c) (fin one h1)
theorem Locator_both (a : ByteArray) (L : List Sp) (hl : L.length ≤ 1048576) : ∃ R : ByteArray × Bool, Ev (fun k => spec_LocatorText.f k a L) R ∧ Ev (fun k => impl_LocatorText.f k a L) R := by
  unfold spec_LocatorText.f impl_LocatorText.f
  simp only [implValid_eq, Option.bind_some]
  have g := good_ev L hl
  cases h : okl L with
  | false =>
    rw [h] at g
    exact ⟨(⟨#[]⟩, false), Ev.bind g (Ev.congr (fun _ => if_neg (by decide)) (Ev.now _)), Ev.congr (fun _ => if_neg (by decide)) (Ev.now _)⟩
  | true =>
    rw [h] at g
    obtain ⟨hs, _, e2⟩ := list_both L h
    obtain ⟨n, n1, n2⟩ := count_both L h
    have hsz : (⟨#[32]⟩ : ByteArray).size = 1 := rfl
    have fin : ∀ (w : ByteArray × Bool) (r : ByteArray × Bool), impl_locatorWord.f a (decide (n > 1)) = some w → (w.2 = true → w.1.size ≤ 9) → r = (if w.2 = true then ((w.1 ++ (⟨#[32]⟩ : ByteArray)) ++ LT L, true) else (⟨#[]⟩, false)) → Ev (fun k => if true = true then ((impl_countPages.f k L).bind fun t531 => ((impl_locatorWord.f a (decide (t531 > 1))).bind fun bt532 => (if bt532.2 = true then (if bt532.1.size + 1 ≤ 9223372036854775807 then ((impl_formatPages.f k L).bind fun t534 => (if (bt532.1 ++ (⟨#[32]⟩ : ByteArray)).size + t534.size ≤ 9223372036854775807 then (some ((bt532.1 ++ (⟨#[32]⟩ : ByteArray)) ++ t534, true)) else (none))) else (none)) else (some ((⟨#[]⟩ : ByteArray), false))))) else (some ((⟨#[]⟩ : ByteArray), false))) r := fun w r hw hz hr => by
      subst hr
      refine Ev.congr (fun _ => if_pos rfl) (Ev.bind n2 ?_)
      rw [hw]
      simp only [Option.bind_some]
      by_cases c : w.2 = true
      · rw [if_pos c]
        have := hz c
        exact Ev.congr (fun _ => if_pos c) (Ev.congr (fun _ => if_pos (by omega)) (Ev.bind e2 (Ev.congr (fun _ => if_pos (by simp only [ByteArray.size_append, hsz]; omega)) (Ev.now _))))
      · rw [if_neg c]
        exact Ev.congr (fun _ => if_neg c) (Ev.now _)
    have pick : ∀ (p q : ByteArray), (if decide (n > 1) = true then p else q) = if n > 1 then p else q := fun p q => by by_cases c : n > 1 <;> simp [c]
    by_cases c1 : a.toList = [112, 97, 103, 101]
    · refine ⟨_, Ev.bind g (Ev.congr (fun _ => if_pos rfl) (Ev.congr (fun _ => if_pos c1) (spec_loc L h n n1 _ _ (by decide) (by decide)))), fin (if n > 1 then ⟨#[112, 112, 46]⟩ else ⟨#[112, 46]⟩, true) _ ?_ ?_ ?_⟩
      · unfold impl_locatorWord.f
        rw [if_pos ((is_text a _).1 c1), pick]
      · intro _; show ByteArray.size (if n > 1 then _ else _) ≤ 9; split <;> decide
      · rfl
    by_cases c2 : a.toList = [108, 105, 110, 101]
    · refine ⟨_, Ev.bind g (Ev.congr (fun _ => if_pos rfl) (Ev.congr (fun _ => if_neg c1) (Ev.congr (fun _ => if_pos c2) (spec_loc L h n n1 _ _ (by decide) (by decide))))), fin (if n > 1 then ⟨#[108, 108, 46]⟩ else ⟨#[108, 46]⟩, true) _ ?_ ?_ ?_⟩
      · unfold impl_locatorWord.f
        rw [if_neg (fun e => c1 ((is_text a _).2 e)), if_pos ((is_text a _).1 c2), pick]
      · intro _; show ByteArray.size (if n > 1 then _ else _) ≤ 9; split <;> decide
      · rfl
    by_cases c3 : a.toList = [99, 104, 97, 112, 116, 101, 114]
    · refine ⟨_, Ev.bind g (Ev.congr (fun _ => if_pos rfl) (Ev.congr (fun _ => if_neg c1) (Ev.congr (fun _ => if_neg c2) (Ev.congr (fun _ => if_pos c3) (spec_loc L h n n1 _ _ (by decide) (by decide)))))), fin (if n > 1 then ⟨#[99, 104, 115, 46]⟩ else ⟨#[99, 104, 46]⟩, true) _ ?_ ?_ ?_⟩
      · unfold impl_locatorWord.f
        rw [if_neg (fun e => c1 ((is_text a _).2 e)), if_neg (fun e => c2 ((is_text a _).2 e)), if_pos ((is_text a _).1 c3), pick]
      · intro _; show ByteArray.size (if n > 1 then _ else _) ≤ 9; split <;> decide
      · rfl
    by_cases c4 : a.toList = [115, 101, 99, 116, 105, 111, 110]
    · refine ⟨_, Ev.bind g (Ev.congr (fun _ => if_pos rfl) (Ev.congr (fun _ => if_neg c1) (Ev.congr (fun _ => if_neg c2) (Ev.congr (fun _ => if_neg c3) (Ev.congr (fun _ => if_pos c4) (spec_loc L h n n1 _ _ (by decide) (by decide))))))), fin (if n > 1 then ⟨#[115, 101, 99, 115, 46]⟩ else ⟨#[115, 101, 99, 46]⟩, true) _ ?_ ?_ ?_⟩
      · unfold impl_locatorWord.f
        rw [if_neg (fun e => c1 ((is_text a _).2 e)), if_neg (fun e => c2 ((is_text a _).2 e)), if_neg (fun e => c3 ((is_text a _).2 e)), if_pos ((is_text a _).1 c4), pick]
      · intro _; show ByteArray.size (if n > 1 then _ else _) ≤ 9; split <;> decide
      · rfl
    refine ⟨(⟨#[]⟩, false), Ev.bind g (Ev.congr (fun _ => if_pos rfl) (Ev.congr (fun _ => if_neg c1) (Ev.congr (fun _ => if_neg c2) (Ev.congr (fun _ => if_neg c3) (Ev.congr (fun _ => if_neg c4) (Ev.now _)))))), fin (⟨#[]⟩, false) _ ?_ (fun h => by cases h) rfl⟩
    unfold impl_locatorWord.f
    rw [if_neg (fun e => c1 ((is_text a _).2 e)), if_neg (fun e => c2 ((is_text a _).2 e)), if_neg (fun e => c3 ((is_text a _).2 e)), if_neg (fun e => c4 ((is_text a _).2 e))]

end Go.Proofs.YtmemcncbkgcbeaaDoor.Pure
