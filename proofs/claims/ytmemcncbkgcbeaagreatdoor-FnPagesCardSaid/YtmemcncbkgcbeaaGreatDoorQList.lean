/- Lemmas on the printed functions, without Go and memory. -/
import Derived.Lib.Join
import Derived.Test.YtmemcncbkgcbeaaGreatDoorPx3
import Derived.Test.YtmemcncbkgcbeaaGreatDoorPx4
import Derived.Test.YtmemcncbkgcbeaaGreatDoorQText
namespace Go.Proofs.YtmemcncbkgcbeaaGreatDoor.Pure
open Go.RowKit Go.Proofs.YtmemcncbkgcbeaaGreatDoor.Px Go.Proofs.YtmemcncbkgcbeaaGreatDoorW.PrintWords Go.Proofs.YtmemcncbkgcbeaaGreatDoorW.PrintLast
set_option linter.unusedVariables false
set_option linter.unusedSimpArgs false

def tx (x : Sp) : ByteArray := rText x.f0 x.f1 x.f2
def jn (ps : List (List UInt8)) : List UInt8 := Lib.join ps [44, 32]
theorem jn_snoc (ps : List (List UInt8)) (p : List UInt8) (h : ps ≠ []) : jn (ps ++ [p]) = jn ps ++ ([44, 32] ++ p) := by
  obtain ⟨x, r, rfl⟩ : ∃ x r, ps = x :: r := by cases ps with
    | nil => exact absurd rfl h
    | cons x r => exact ⟨x, r, rfl⟩
  unfold jn
  rw [List.cons_append, Lib.join_cons, Lib.join_cons]
  simp [Lib.joinTail]
def bl (l : List Sp) : List (List UInt8) := l.map fun x => (tx x).data.toList
def LT (l : List Sp) : ByteArray := ⟨(jn (bl l)).toArray⟩
theorem bl_take (l : List Sp) (i : Nat) (hi : i < l.length) : bl (l.take (i + 1)) = bl (l.take i) ++ [(tx (l.getD i z34)).data.toList] := by
  unfold bl
  rw [List.take_succ_eq_append_getElem hi, List.map_append, List.map_cons, List.map_nil, List.getD_eq_getElem?_getD, List.getElem?_eq_getElem hi]
  rfl
theorem okl_parts (L : List Sp) (h : okl L = true) : (∀ x ∈ L, okr x = true) ∧ 1 ≤ L.length ∧ L.length ≤ 8 := by
  unfold okl inN at h
  simp only [Bool.and_eq_true, decide_eq_true_eq, List.all_eq_true] at h
  exact ⟨h.1, h.2⟩
theorem ext_list (a b : ByteArray) (h : a.data.toList = b.data.toList) : a = b := ByteArray.ext (Array.toList_inj.1 h)
theorem list_k (s : List UInt8) : (⟨s.toArray⟩ : ByteArray).data.toList = s := by simp
theorem app_list (a b : ByteArray) : (a ++ b).data.toList = a.data.toList ++ b.data.toList := by simp
theorem tx_le (L : List Sp) (ho : ∀ x ∈ L, okr x = true) (i : Nat) (hi : i < L.length) : Fit (L.getD i z34).f0 (L.getD i z34).f1 (L.getD i z34).f2 :=
  fit_of _ (ho _ (by have := getD_mem z34 L (i : Int) (by omega) (by omega); simpa using this))
theorem spec_list (L : List Sp) (ho : ∀ x ∈ L, okr x = true) (hl : L.length ≤ 8) : ∀ (d i : Nat) (acc : ByteArray), i + d = L.length → acc.data.toList = jn (bl (L.take i)) → acc.size ≤ 47 * i →
    Ev (fun k => spec_l7List.l0 k L acc (i : Int)) (LT L) ∧ (LT L).size ≤ 47 * L.length
  | 0, i, acc, hi, ha, hs => by
    have e : acc = LT L := ext_list _ _ (by rw [ha, List.take_of_length_le (by omega)]; unfold LT; rw [list_k])
    refine ⟨Ev.step (f := fun _ => some (LT L)) (fun k => ?_) (Ev.now _), by rw [← e]; omega⟩
    simp only [spec_l7List.l0]
    rw [if_neg (by omega), e]
  | d + 1, i, acc, hi, ha, hs => by
    have hf := tx_le L ho i (by omega)
    have et := specText _ _ _ hf
    have ts := rText_size _ _ _ hf
    have e : ∀ x, rd_T34 L (i : Int) = x ↔ L.getD i z34 = x := fun x => by unfold rd_T34; rw [Int.toNat_natCast]
    have er : rd_T34 L (i : Int) = L.getD i z34 := (e _).2 rfl
    have hb := bl_take L i (by omega)
    have hsz : (⟨#[44, 32]⟩ : ByteArray).size = 2 := rfl
    by_cases c : 0 < i
    · have ih := spec_list L ho hl d (i + 1) ((acc ++ (⟨#[44, 32]⟩ : ByteArray)) ++ tx (L.getD i z34)) (by omega) (by
        rw [hb, jn_snoc _ _ (by intro h0; have := congrArg List.length h0; unfold bl at this; rw [List.length_map, List.length_take, List.length_nil] at this; omega), app_list, app_list, ha, List.append_assoc]) (by unfold tx; simp only [ByteArray.size_append, hsz]; omega)
      refine ⟨Ev.step (f := fun k => (spec_l7Text.f k ((rd_T34 L (i : Int)).f0) ((rd_T34 L (i : Int)).f1) ((rd_T34 L (i : Int)).f2)).bind fun t156 => (if (acc ++ (⟨#[44, 32]⟩ : ByteArray)).size + t156.size ≤ 9223372036854775807 then (spec_l7List.l0 k L ((acc ++ (⟨#[44, 32]⟩ : ByteArray)) ++ t156) (wrap64 ((i : Int) + 1))) else none)) (fun k => ?_) ?_, ih.2⟩
      · simp only [spec_l7List.l0]
        rw [if_pos (by omega), if_pos (by omega), if_pos (by omega), if_pos (by omega)]
      · rw [er]
        refine Ev.bind et (Ev.congr (fun _ => if_pos (by simp only [ByteArray.size_append, hsz]; omega)) ?_)
        rw [wrap_small (by omega) (by omega)]
        exact ih.1
    · obtain rfl : i = 0 := by omega
      have ih := spec_list L ho hl d (0 + 1) (acc ++ tx (L.getD 0 z34)) (by omega) (by
        rw [hb, app_list, ha, List.take_zero]
        unfold bl jn
        rw [List.map_nil, List.nil_append, Lib.join_nil, Lib.join_one, List.nil_append]) (by unfold tx; simp only [ByteArray.size_append]; omega)
      refine ⟨Ev.step (f := fun k => (spec_l7Text.f k ((rd_T34 L ((0 : Nat) : Int)).f0) ((rd_T34 L ((0 : Nat) : Int)).f1) ((rd_T34 L ((0 : Nat) : Int)).f2)).bind fun t158 => (if acc.size + t158.size ≤ 9223372036854775807 then (spec_l7List.l0 k L (acc ++ t158) (wrap64 (((0 : Nat) : Int) + 1))) else none)) (fun k => ?_) ?_, ih.2⟩
      · simp only [spec_l7List.l0]
        rw [if_pos (by omega), if_neg (by omega), if_pos (by omega)]
      · rw [er]
        refine Ev.bind et (Ev.congr (fun _ => if_pos (by omega)) ?_)
        rw [wrap_small (by omega) (by omega)]
        exact ih.1
theorem list_spec (L : List Sp) (h : okl L = true) : (LT L).size ≤ 376 ∧ Ev (fun k => spec_l7List.f k L) (LT L) := by
  obtain ⟨ho, h1, h2⟩ := okl_parts L h
  obtain ⟨e, hs⟩ := spec_list L ho h2 L.length 0 ⟨#[]⟩ (by omega) rfl (by show 0 ≤ _; omega)
  exact ⟨by omega, e⟩

theorem impl_list (L : List Sp) (ho : ∀ x ∈ L, okr x = true) (hl : L.length ≤ 8) (hz : (LT L).size ≤ 376) : ∀ (d i : Nat), i + d = L.length →
    Ev (fun k => impl_formatPages.l0 k ((L.take i).map tx) L (L.length : Int) (i : Int)) (LT L)
  | 0, i, hi => by
    have e : strings_Join.f ((L.take i).map tx) (⟨#[44, 32]⟩ : ByteArray) = some (LT L) := by
      have e1 : ((L.take i).map tx).map (fun x => x.data.toList) = bl L := by
        rw [List.take_of_length_le (by omega), List.map_map]
        rfl
      have e2 : (Lib.join (((L.take i).map tx).map (·.data.toList)) (⟨#[44, 32]⟩ : ByteArray).data.toList) = jn (bl L) := by rw [e1]; rfl
      have e3 : (jn (bl L)).length = (LT L).size := by rw [← data_length]; unfold LT; rw [list_k]
      unfold strings_Join.f
      rw [e2, if_pos ⟨by omega, by rw [List.length_map, List.length_take]; omega⟩]
      rfl
    refine Ev.step (f := fun _ => some (LT L)) (fun k => ?_) (Ev.now _)
    simp only [impl_formatPages.l0]
    rw [if_neg (by omega), e, Option.bind_some]
  | d + 1, i, hi => by
    have hf := tx_le L ho i (by omega)
    have er : rd_T34 L (i : Int) = L.getD i z34 := by unfold rd_T34; rw [Int.toNat_natCast]
    refine Ev.step (fun k => ?_) (impl_list L ho hl hz d (i + 1) (by omega))
    simp only [impl_formatPages.l0]
    rw [if_pos (by omega), if_pos (by omega), if_pos (by omega), er, implText _ _ _ hf, Option.bind_some, if_pos (by rw [List.length_map, List.length_take]; omega), wrap_small (by omega) (by omega)]
    rw [List.take_succ_eq_append_getElem (by omega : i < L.length), List.map_append, List.map_cons, List.map_nil, List.getD_eq_getElem?_getD, List.getElem?_eq_getElem (by omega : i < L.length)]
    rfl
theorem list_both (L : List Sp) (h : okl L = true) : (LT L).size ≤ 376 ∧ Ev (fun k => spec_l7List.f k L) (LT L) ∧ Ev (fun k => impl_formatPages.f k L) (LT L) := by
  obtain ⟨ho, h1, h2⟩ := okl_parts L h
  obtain ⟨e, hs⟩ := spec_list L ho h2 L.length 0 ⟨#[]⟩ (by omega) rfl (by show 0 ≤ _; omega)
  have hz : (LT L).size ≤ 376 := by omega
  exact ⟨hz, e, impl_list L ho h2 hz L.length 0 (by omega)⟩


end Go.Proofs.YtmemcncbkgcbeaaGreatDoor.Pure
