/- That calls of Go functions come to what the Lean functions beside them say; written by a program of this session (wip/xprint) over the printed words; no conditions. -/
import Derived.Test.YtciminppeclofaaDoorPx0
import Derived.Test.YtciminppeclofaaDoorPx5
namespace Go.Proofs.YtciminppeclofaaDoor.Px
open Go.RowKit Go.Proofs.YtciminppeclofaaDoorW.PrintWords Go.Proofs.YtciminppeclofaaDoorW.PrintLast Go.Proofs.YtciminppeclofaaDoorW.PrintMore
attribute [local go_sem] max2_int min2_int max_two min_two max_three min_three max_four min_four   -- for this text's walks alone
set_option linter.unusedVariables false
set_option linter.unusedSimpArgs false

/-! ### impl_mergeMarks: function 29 -/
def impl_mergeMarks.row (a : Int) : ByteArray :=
  if a = 46 then ⟨#[46, 43, 43, 43, 33, 63]⟩ else if a = 44 then ⟨#[46, 44, 59, 58, 33, 63]⟩ else if a = 59 then ⟨#[46, 59, 59, 58, 33, 63]⟩ else if a = 58 then ⟨#[58, 58, 59, 58, 33, 63]⟩ else if a = 33 then ⟨#[33, 33, 43, 43, 33, 43]⟩ else ⟨#[63, 63, 43, 43, 43, 63]⟩
def impl_mergeMarks.col (a : Int) : Nat := if a = 46 then 0 else if a = 44 then 1 else if a = 59 then 2 else if a = 58 then 3 else if a = 33 then 4 else 5
def impl_mergeMarks.mark (a : Int) : Bool := a == 46 || a == 44 || a == 59 || a == 58 || a == 33 || a == 63
def impl_mergeMarks.f (a0 : Int) (a1 : Int) : Option (ByteArray) := if (impl_mergeMarks.mark a0 && impl_mergeMarks.mark a1) = true then (if (impl_mergeMarks.row a0).extract (impl_mergeMarks.col a1) (impl_mergeMarks.col a1 + 1) = ⟨#[43]⟩ then some (strOfNums [a0, a1]) else some ((impl_mergeMarks.row a0).extract (impl_mergeMarks.col a1) (impl_mergeMarks.col a1 + 1))) else none
theorem impl_mergeMarks.mark_cases {a : Int} (h : impl_mergeMarks.mark a = true) : a = 46 ∨ a = 44 ∨ a = 59 ∨ a = 58 ∨ a = 33 ∨ a = 63 := by simp [impl_mergeMarks.mark] at h; omega
set_option maxHeartbeats 8000000 in
set_option maxRecDepth 100000 in
theorem impl_mergeMarks.calls0 (a1 : Int) (h1 : impl_mergeMarks.mark a1 = true) (r : ByteArray) (w : World) (h : impl_mergeMarks.f 46 a1 = some r) :
    Calls Tryd.prog 29 #[.int .u8 46, .int .u8 a1] w fun e w' => e = .returned (.string r) ∧ Below w.heap.size w w' := by
  rcases impl_mergeMarks.mark_cases h1 with rfl | rfl | rfl | rfl | rfl | rfl
  · have hf : impl_mergeMarks.f 46 46 = some ⟨#[46]⟩ := by decide
    rw [hf] at h
    clear hf h1
    obtain rfl := Option.some.inj h
    clear h
    have i0 : Lib.indexByte [46, 44, 59, 58, 33, 63] 46 = 0 := by decide
    have ht : (!((⟨#[46, 43, 43, 43, 33, 63]⟩ : ByteArray).extract 0 1).toList == [43]) = true := by rw [Lib.toList_data]; decide
    go_enter Tryd.func29, Tryd.ntmps29
    go_wp2_with (go_at_call 24; (with_reducible refine (strings_IndexByte.calls _ _ _ _ rfl).mono ?_); rintro e w' ⟨rfl, ⟨nq, rfl⟩⟩)
    go_ret
    exact ⟨by first | rfl | (simp; done) | (congr 1), by repeat (first | exact Below.refl _ _ | apply below_alloc | apply pw_below_drewN | apply below_drew1)⟩
  · have hf : impl_mergeMarks.f 46 44 = some ⟨#[46, 44]⟩ := by decide
    rw [hf] at h
    clear hf h1
    obtain rfl := Option.some.inj h
    clear h
    have i0 : Lib.indexByte [46, 44, 59, 58, 33, 63] 46 = 0 := by decide
    have i1 : Lib.indexByte [46, 44, 59, 58, 33, 63] 44 = 1 := by decide
    have ht : (!((⟨#[46, 43, 43, 43, 33, 63]⟩ : ByteArray).extract 1 2).toList == [43]) = false := by rw [Lib.toList_data]; decide
    have hc : ∀ (W : World) (n : Nat), W.heap.size = n → (convert 29 9 (.slice (some ⟨n, 0, none⟩) 2 2)).run Tryd.prog (W.alloc (.cells #[.int .u8 46, .int .u8 44] 5)) = .ok (.string ⟨#[46, 44]⟩) (W.alloc (.cells #[.int .u8 46, .int .u8 44] 5)) := by
      intro W n hn
      subst hn
      exact run_convert_bytes_arg (P := Tryd.prog) _ 29 5 Tryd.underlying29 Tryd.underlying5 W.heap.size 0 2 2 [46, 44] rfl (fun i hi => by
        have hb : (W.alloc (.cells #[.int .u8 46, .int .u8 44] 5)).heap[W.heap.size]? = some (.cells #[.int .u8 46, .int .u8 44] 5 (0, 0)) := heap_alloc_new W _
        rw [cell_of_row _ _ _ _ _ _ hb]
        match i, hi with
        | 0, _ => rfl
        | 1, _ => rfl) 9 Tryd.underlying9
    go_enter Tryd.func29, Tryd.ntmps29
    go_wp2_with (go_at_call 24; (with_reducible refine (strings_IndexByte.calls _ _ _ _ rfl).mono ?_); rintro e w' ⟨rfl, ⟨nq, rfl⟩⟩)
    go_ret
    exact ⟨rfl, by repeat (first | exact Below.refl _ _ | apply below_alloc | apply pw_below_drewN | apply below_drew1)⟩
  · have hf : impl_mergeMarks.f 46 59 = some ⟨#[46, 59]⟩ := by decide
    rw [hf] at h
    clear hf h1
    obtain rfl := Option.some.inj h
    clear h
    have i0 : Lib.indexByte [46, 44, 59, 58, 33, 63] 46 = 0 := by decide
    have i2 : Lib.indexByte [46, 44, 59, 58, 33, 63] 59 = 2 := by decide
    have ht : (!((⟨#[46, 43, 43, 43, 33, 63]⟩ : ByteArray).extract 2 3).toList == [43]) = false := by rw [Lib.toList_data]; decide
    have hc : ∀ (W : World) (n : Nat), W.heap.size = n → (convert 29 9 (.slice (some ⟨n, 0, none⟩) 2 2)).run Tryd.prog (W.alloc (.cells #[.int .u8 46, .int .u8 59] 5)) = .ok (.string ⟨#[46, 59]⟩) (W.alloc (.cells #[.int .u8 46, .int .u8 59] 5)) := by
      intro W n hn
      subst hn
      exact run_convert_bytes_arg (P := Tryd.prog) _ 29 5 Tryd.underlying29 Tryd.underlying5 W.heap.size 0 2 2 [46, 59] rfl (fun i hi => by
        have hb : (W.alloc (.cells #[.int .u8 46, .int .u8 59] 5)).heap[W.heap.size]? = some (.cells #[.int .u8 46, .int .u8 59] 5 (0, 0)) := heap_alloc_new W _
        rw [cell_of_row _ _ _ _ _ _ hb]
        match i, hi with
        | 0, _ => rfl
        | 1, _ => rfl) 9 Tryd.underlying9
    go_enter Tryd.func29, Tryd.ntmps29
    go_wp2_with (go_at_call 24; (with_reducible refine (strings_IndexByte.calls _ _ _ _ rfl).mono ?_); rintro e w' ⟨rfl, ⟨nq, rfl⟩⟩)
    go_ret
    exact ⟨rfl, by repeat (first | exact Below.refl _ _ | apply below_alloc | apply pw_below_drewN | apply below_drew1)⟩
  · have hf : impl_mergeMarks.f 46 58 = some ⟨#[46, 58]⟩ := by decide
    rw [hf] at h
    clear hf h1
    obtain rfl := Option.some.inj h
    clear h
    have i0 : Lib.indexByte [46, 44, 59, 58, 33, 63] 46 = 0 := by decide
    have i3 : Lib.indexByte [46, 44, 59, 58, 33, 63] 58 = 3 := by decide
    have ht : (!((⟨#[46, 43, 43, 43, 33, 63]⟩ : ByteArray).extract 3 4).toList == [43]) = false := by rw [Lib.toList_data]; decide
    have hc : ∀ (W : World) (n : Nat), W.heap.size = n → (convert 29 9 (.slice (some ⟨n, 0, none⟩) 2 2)).run Tryd.prog (W.alloc (.cells #[.int .u8 46, .int .u8 58] 5)) = .ok (.string ⟨#[46, 58]⟩) (W.alloc (.cells #[.int .u8 46, .int .u8 58] 5)) := by
      intro W n hn
      subst hn
      exact run_convert_bytes_arg (P := Tryd.prog) _ 29 5 Tryd.underlying29 Tryd.underlying5 W.heap.size 0 2 2 [46, 58] rfl (fun i hi => by
        have hb : (W.alloc (.cells #[.int .u8 46, .int .u8 58] 5)).heap[W.heap.size]? = some (.cells #[.int .u8 46, .int .u8 58] 5 (0, 0)) := heap_alloc_new W _
        rw [cell_of_row _ _ _ _ _ _ hb]
        match i, hi with
        | 0, _ => rfl
        | 1, _ => rfl) 9 Tryd.underlying9
    go_enter Tryd.func29, Tryd.ntmps29
    go_wp2_with (go_at_call 24; (with_reducible refine (strings_IndexByte.calls _ _ _ _ rfl).mono ?_); rintro e w' ⟨rfl, ⟨nq, rfl⟩⟩)
    go_ret
    exact ⟨rfl, by repeat (first | exact Below.refl _ _ | apply below_alloc | apply pw_below_drewN | apply below_drew1)⟩
  · have hf : impl_mergeMarks.f 46 33 = some ⟨#[33]⟩ := by decide
    rw [hf] at h
    clear hf h1
    obtain rfl := Option.some.inj h
    clear h
    have i0 : Lib.indexByte [46, 44, 59, 58, 33, 63] 46 = 0 := by decide
    have i4 : Lib.indexByte [46, 44, 59, 58, 33, 63] 33 = 4 := by decide
    have ht : (!((⟨#[46, 43, 43, 43, 33, 63]⟩ : ByteArray).extract 4 5).toList == [43]) = true := by rw [Lib.toList_data]; decide
    go_enter Tryd.func29, Tryd.ntmps29
    go_wp2_with (go_at_call 24; (with_reducible refine (strings_IndexByte.calls _ _ _ _ rfl).mono ?_); rintro e w' ⟨rfl, ⟨nq, rfl⟩⟩)
    go_ret
    exact ⟨by first | rfl | (simp; done) | (congr 1), by repeat (first | exact Below.refl _ _ | apply below_alloc | apply pw_below_drewN | apply below_drew1)⟩
  · have hf : impl_mergeMarks.f 46 63 = some ⟨#[63]⟩ := by decide
    rw [hf] at h
    clear hf h1
    obtain rfl := Option.some.inj h
    clear h
    have i0 : Lib.indexByte [46, 44, 59, 58, 33, 63] 46 = 0 := by decide
    have i5 : Lib.indexByte [46, 44, 59, 58, 33, 63] 63 = 5 := by decide
    have ht : (!((⟨#[46, 43, 43, 43, 33, 63]⟩ : ByteArray).extract 5 6).toList == [43]) = true := by rw [Lib.toList_data]; decide
    go_enter Tryd.func29, Tryd.ntmps29
    go_wp2_with (go_at_call 24; (with_reducible refine (strings_IndexByte.calls _ _ _ _ rfl).mono ?_); rintro e w' ⟨rfl, ⟨nq, rfl⟩⟩)
    go_ret
    exact ⟨by first | rfl | (simp; done) | (congr 1), by repeat (first | exact Below.refl _ _ | apply below_alloc | apply pw_below_drewN | apply below_drew1)⟩
set_option maxHeartbeats 8000000 in
set_option maxRecDepth 100000 in
theorem impl_mergeMarks.calls1 (a1 : Int) (h1 : impl_mergeMarks.mark a1 = true) (r : ByteArray) (w : World) (h : impl_mergeMarks.f 44 a1 = some r) :
    Calls Tryd.prog 29 #[.int .u8 44, .int .u8 a1] w fun e w' => e = .returned (.string r) ∧ Below w.heap.size w w' := by
  rcases impl_mergeMarks.mark_cases h1 with rfl | rfl | rfl | rfl | rfl | rfl
  · have hf : impl_mergeMarks.f 44 46 = some ⟨#[46]⟩ := by decide
    rw [hf] at h
    clear hf h1
    obtain rfl := Option.some.inj h
    clear h
    have i0 : Lib.indexByte [46, 44, 59, 58, 33, 63] 46 = 0 := by decide
    have i1 : Lib.indexByte [46, 44, 59, 58, 33, 63] 44 = 1 := by decide
    have ht : (!((⟨#[46, 44, 59, 58, 33, 63]⟩ : ByteArray).extract 0 1).toList == [43]) = true := by rw [Lib.toList_data]; decide
    go_enter Tryd.func29, Tryd.ntmps29
    go_wp2_with (go_at_call 24; (with_reducible refine (strings_IndexByte.calls _ _ _ _ rfl).mono ?_); rintro e w' ⟨rfl, ⟨nq, rfl⟩⟩)
    go_ret
    exact ⟨by first | rfl | (simp; done) | (congr 1), by repeat (first | exact Below.refl _ _ | apply below_alloc | apply pw_below_drewN | apply below_drew1)⟩
  · have hf : impl_mergeMarks.f 44 44 = some ⟨#[44]⟩ := by decide
    rw [hf] at h
    clear hf h1
    obtain rfl := Option.some.inj h
    clear h
    have i1 : Lib.indexByte [46, 44, 59, 58, 33, 63] 44 = 1 := by decide
    have ht : (!((⟨#[46, 44, 59, 58, 33, 63]⟩ : ByteArray).extract 1 2).toList == [43]) = true := by rw [Lib.toList_data]; decide
    go_enter Tryd.func29, Tryd.ntmps29
    go_wp2_with (go_at_call 24; (with_reducible refine (strings_IndexByte.calls _ _ _ _ rfl).mono ?_); rintro e w' ⟨rfl, ⟨nq, rfl⟩⟩)
    go_ret
    exact ⟨by first | rfl | (simp; done) | (congr 1), by repeat (first | exact Below.refl _ _ | apply below_alloc | apply pw_below_drewN | apply below_drew1)⟩
  · have hf : impl_mergeMarks.f 44 59 = some ⟨#[59]⟩ := by decide
    rw [hf] at h
    clear hf h1
    obtain rfl := Option.some.inj h
    clear h
    have i1 : Lib.indexByte [46, 44, 59, 58, 33, 63] 44 = 1 := by decide
    have i2 : Lib.indexByte [46, 44, 59, 58, 33, 63] 59 = 2 := by decide
    have ht : (!((⟨#[46, 44, 59, 58, 33, 63]⟩ : ByteArray).extract 2 3).toList == [43]) = true := by rw [Lib.toList_data]; decide
    go_enter Tryd.func29, Tryd.ntmps29
    go_wp2_with (go_at_call 24; (with_reducible refine (strings_IndexByte.calls _ _ _ _ rfl).mono ?_); rintro e w' ⟨rfl, ⟨nq, rfl⟩⟩)
    go_ret
    exact ⟨by first | rfl | (simp; done) | (congr 1), by repeat (first | exact Below.refl _ _ | apply below_alloc | apply pw_below_drewN | apply below_drew1)⟩
  · have hf : impl_mergeMarks.f 44 58 = some ⟨#[58]⟩ := by decide
    rw [hf] at h
    clear hf h1
    obtain rfl := Option.some.inj h
    clear h
    have i1 : Lib.indexByte [46, 44, 59, 58, 33, 63] 44 = 1 := by decide
    have i3 : Lib.indexByte [46, 44, 59, 58, 33, 63] 58 = 3 := by decide
    have ht : (!((⟨#[46, 44, 59, 58, 33, 63]⟩ : ByteArray).extract 3 4).toList == [43]) = true := by rw [Lib.toList_data]; decide
    go_enter Tryd.func29, Tryd.ntmps29
    go_wp2_with (go_at_call 24; (with_reducible refine (strings_IndexByte.calls _ _ _ _ rfl).mono ?_); rintro e w' ⟨rfl, ⟨nq, rfl⟩⟩)
    go_ret
    exact ⟨by first | rfl | (simp; done) | (congr 1), by repeat (first | exact Below.refl _ _ | apply below_alloc | apply pw_below_drewN | apply below_drew1)⟩
  · have hf : impl_mergeMarks.f 44 33 = some ⟨#[33]⟩ := by decide
    rw [hf] at h
    clear hf h1
    obtain rfl := Option.some.inj h
    clear h
    have i1 : Lib.indexByte [46, 44, 59, 58, 33, 63] 44 = 1 := by decide
    have i4 : Lib.indexByte [46, 44, 59, 58, 33, 63] 33 = 4 := by decide
    have ht : (!((⟨#[46, 44, 59, 58, 33, 63]⟩ : ByteArray).extract 4 5).toList == [43]) = true := by rw [Lib.toList_data]; decide
    go_enter Tryd.func29, Tryd.ntmps29
    go_wp2_with (go_at_call 24; (with_reducible refine (strings_IndexByte.calls _ _ _ _ rfl).mono ?_); rintro e w' ⟨rfl, ⟨nq, rfl⟩⟩)
    go_ret
    exact ⟨by first | rfl | (simp; done) | (congr 1), by repeat (first | exact Below.refl _ _ | apply below_alloc | apply pw_below_drewN | apply below_drew1)⟩
  · have hf : impl_mergeMarks.f 44 63 = some ⟨#[63]⟩ := by decide
    rw [hf] at h
    clear hf h1
    obtain rfl := Option.some.inj h
    clear h
    have i1 : Lib.indexByte [46, 44, 59, 58, 33, 63] 44 = 1 := by decide
    have i5 : Lib.indexByte [46, 44, 59, 58, 33, 63] 63 = 5 := by decide
    have ht : (!((⟨#[46, 44, 59, 58, 33, 63]⟩ : ByteArray).extract 5 6).toList == [43]) = true := by rw [Lib.toList_data]; decide
    go_enter Tryd.func29, Tryd.ntmps29
    go_wp2_with (go_at_call 24; (with_reducible refine (strings_IndexByte.calls _ _ _ _ rfl).mono ?_); rintro e w' ⟨rfl, ⟨nq, rfl⟩⟩)
    go_ret
    exact ⟨by first | rfl | (simp; done) | (congr 1), by repeat (first | exact Below.refl _ _ | apply below_alloc | apply pw_below_drewN | apply below_drew1)⟩
set_option maxHeartbeats 8000000 in
set_option maxRecDepth 100000 in
theorem impl_mergeMarks.calls2 (a1 : Int) (h1 : impl_mergeMarks.mark a1 = true) (r : ByteArray) (w : World) (h : impl_mergeMarks.f 59 a1 = some r) :
    Calls Tryd.prog 29 #[.int .u8 59, .int .u8 a1] w fun e w' => e = .returned (.string r) ∧ Below w.heap.size w w' := by
  rcases impl_mergeMarks.mark_cases h1 with rfl | rfl | rfl | rfl | rfl | rfl
  · have hf : impl_mergeMarks.f 59 46 = some ⟨#[46]⟩ := by decide
    rw [hf] at h
    clear hf h1
    obtain rfl := Option.some.inj h
    clear h
    have i0 : Lib.indexByte [46, 44, 59, 58, 33, 63] 46 = 0 := by decide
    have i2 : Lib.indexByte [46, 44, 59, 58, 33, 63] 59 = 2 := by decide
    have ht : (!((⟨#[46, 59, 59, 58, 33, 63]⟩ : ByteArray).extract 0 1).toList == [43]) = true := by rw [Lib.toList_data]; decide
    go_enter Tryd.func29, Tryd.ntmps29
    go_wp2_with (go_at_call 24; (with_reducible refine (strings_IndexByte.calls _ _ _ _ rfl).mono ?_); rintro e w' ⟨rfl, ⟨nq, rfl⟩⟩)
    go_ret
    exact ⟨by first | rfl | (simp; done) | (congr 1), by repeat (first | exact Below.refl _ _ | apply below_alloc | apply pw_below_drewN | apply below_drew1)⟩
  · have hf : impl_mergeMarks.f 59 44 = some ⟨#[59]⟩ := by decide
    rw [hf] at h
    clear hf h1
    obtain rfl := Option.some.inj h
    clear h
    have i1 : Lib.indexByte [46, 44, 59, 58, 33, 63] 44 = 1 := by decide
    have i2 : Lib.indexByte [46, 44, 59, 58, 33, 63] 59 = 2 := by decide
    have ht : (!((⟨#[46, 59, 59, 58, 33, 63]⟩ : ByteArray).extract 1 2).toList == [43]) = true := by rw [Lib.toList_data]; decide
    go_enter Tryd.func29, Tryd.ntmps29
    go_wp2_with (go_at_call 24; (with_reducible refine (strings_IndexByte.calls _ _ _ _ rfl).mono ?_); rintro e w' ⟨rfl, ⟨nq, rfl⟩⟩)
    go_ret
    exact ⟨by first | rfl | (simp; done) | (congr 1), by repeat (first | exact Below.refl _ _ | apply below_alloc | apply pw_below_drewN | apply below_drew1)⟩
  · have hf : impl_mergeMarks.f 59 59 = some ⟨#[59]⟩ := by decide
    rw [hf] at h
    clear hf h1
    obtain rfl := Option.some.inj h
    clear h
    have i2 : Lib.indexByte [46, 44, 59, 58, 33, 63] 59 = 2 := by decide
    have ht : (!((⟨#[46, 59, 59, 58, 33, 63]⟩ : ByteArray).extract 2 3).toList == [43]) = true := by rw [Lib.toList_data]; decide
    go_enter Tryd.func29, Tryd.ntmps29
    go_wp2_with (go_at_call 24; (with_reducible refine (strings_IndexByte.calls _ _ _ _ rfl).mono ?_); rintro e w' ⟨rfl, ⟨nq, rfl⟩⟩)
    go_ret
    exact ⟨by first | rfl | (simp; done) | (congr 1), by repeat (first | exact Below.refl _ _ | apply below_alloc | apply pw_below_drewN | apply below_drew1)⟩
  · have hf : impl_mergeMarks.f 59 58 = some ⟨#[58]⟩ := by decide
    rw [hf] at h
    clear hf h1
    obtain rfl := Option.some.inj h
    clear h
    have i2 : Lib.indexByte [46, 44, 59, 58, 33, 63] 59 = 2 := by decide
    have i3 : Lib.indexByte [46, 44, 59, 58, 33, 63] 58 = 3 := by decide
    have ht : (!((⟨#[46, 59, 59, 58, 33, 63]⟩ : ByteArray).extract 3 4).toList == [43]) = true := by rw [Lib.toList_data]; decide
    go_enter Tryd.func29, Tryd.ntmps29
    go_wp2_with (go_at_call 24; (with_reducible refine (strings_IndexByte.calls _ _ _ _ rfl).mono ?_); rintro e w' ⟨rfl, ⟨nq, rfl⟩⟩)
    go_ret
    exact ⟨by first | rfl | (simp; done) | (congr 1), by repeat (first | exact Below.refl _ _ | apply below_alloc | apply pw_below_drewN | apply below_drew1)⟩
  · have hf : impl_mergeMarks.f 59 33 = some ⟨#[33]⟩ := by decide
    rw [hf] at h
    clear hf h1
    obtain rfl := Option.some.inj h
    clear h
    have i2 : Lib.indexByte [46, 44, 59, 58, 33, 63] 59 = 2 := by decide
    have i4 : Lib.indexByte [46, 44, 59, 58, 33, 63] 33 = 4 := by decide
    have ht : (!((⟨#[46, 59, 59, 58, 33, 63]⟩ : ByteArray).extract 4 5).toList == [43]) = true := by rw [Lib.toList_data]; decide
    go_enter Tryd.func29, Tryd.ntmps29
    go_wp2_with (go_at_call 24; (with_reducible refine (strings_IndexByte.calls _ _ _ _ rfl).mono ?_); rintro e w' ⟨rfl, ⟨nq, rfl⟩⟩)
    go_ret
    exact ⟨by first | rfl | (simp; done) | (congr 1), by repeat (first | exact Below.refl _ _ | apply below_alloc | apply pw_below_drewN | apply below_drew1)⟩
  · have hf : impl_mergeMarks.f 59 63 = some ⟨#[63]⟩ := by decide
    rw [hf] at h
    clear hf h1
    obtain rfl := Option.some.inj h
    clear h
    have i2 : Lib.indexByte [46, 44, 59, 58, 33, 63] 59 = 2 := by decide
    have i5 : Lib.indexByte [46, 44, 59, 58, 33, 63] 63 = 5 := by decide
    have ht : (!((⟨#[46, 59, 59, 58, 33, 63]⟩ : ByteArray).extract 5 6).toList == [43]) = true := by rw [Lib.toList_data]; decide
    go_enter Tryd.func29, Tryd.ntmps29
    go_wp2_with (go_at_call 24; (with_reducible refine (strings_IndexByte.calls _ _ _ _ rfl).mono ?_); rintro e w' ⟨rfl, ⟨nq, rfl⟩⟩)
    go_ret
    exact ⟨by first | rfl | (simp; done) | (congr 1), by repeat (first | exact Below.refl _ _ | apply below_alloc | apply pw_below_drewN | apply below_drew1)⟩
set_option maxHeartbeats 8000000 in
set_option maxRecDepth 100000 in
theorem impl_mergeMarks.calls3 (a1 : Int) (h1 : impl_mergeMarks.mark a1 = true) (r : ByteArray) (w : World) (h : impl_mergeMarks.f 58 a1 = some r) :
    Calls Tryd.prog 29 #[.int .u8 58, .int .u8 a1] w fun e w' => e = .returned (.string r) ∧ Below w.heap.size w w' := by
  rcases impl_mergeMarks.mark_cases h1 with rfl | rfl | rfl | rfl | rfl | rfl
  · have hf : impl_mergeMarks.f 58 46 = some ⟨#[58]⟩ := by decide
    rw [hf] at h
    clear hf h1
    obtain rfl := Option.some.inj h
    clear h
    have i0 : Lib.indexByte [46, 44, 59, 58, 33, 63] 46 = 0 := by decide
    have i3 : Lib.indexByte [46, 44, 59, 58, 33, 63] 58 = 3 := by decide
    have ht : (!((⟨#[58, 58, 59, 58, 33, 63]⟩ : ByteArray).extract 0 1).toList == [43]) = true := by rw [Lib.toList_data]; decide
    go_enter Tryd.func29, Tryd.ntmps29
    go_wp2_with (go_at_call 24; (with_reducible refine (strings_IndexByte.calls _ _ _ _ rfl).mono ?_); rintro e w' ⟨rfl, ⟨nq, rfl⟩⟩)
    go_ret
    exact ⟨by first | rfl | (simp; done) | (congr 1), by repeat (first | exact Below.refl _ _ | apply below_alloc | apply pw_below_drewN | apply below_drew1)⟩
  · have hf : impl_mergeMarks.f 58 44 = some ⟨#[58]⟩ := by decide
    rw [hf] at h
    clear hf h1
    obtain rfl := Option.some.inj h
    clear h
    have i1 : Lib.indexByte [46, 44, 59, 58, 33, 63] 44 = 1 := by decide
    have i3 : Lib.indexByte [46, 44, 59, 58, 33, 63] 58 = 3 := by decide
    have ht : (!((⟨#[58, 58, 59, 58, 33, 63]⟩ : ByteArray).extract 1 2).toList == [43]) = true := by rw [Lib.toList_data]; decide
    go_enter Tryd.func29, Tryd.ntmps29
    go_wp2_with (go_at_call 24; (with_reducible refine (strings_IndexByte.calls _ _ _ _ rfl).mono ?_); rintro e w' ⟨rfl, ⟨nq, rfl⟩⟩)
    go_ret
    exact ⟨by first | rfl | (simp; done) | (congr 1), by repeat (first | exact Below.refl _ _ | apply below_alloc | apply pw_below_drewN | apply below_drew1)⟩
  · have hf : impl_mergeMarks.f 58 59 = some ⟨#[59]⟩ := by decide
    rw [hf] at h
    clear hf h1
    obtain rfl := Option.some.inj h
    clear h
    have i2 : Lib.indexByte [46, 44, 59, 58, 33, 63] 59 = 2 := by decide
    have i3 : Lib.indexByte [46, 44, 59, 58, 33, 63] 58 = 3 := by decide
    have ht : (!((⟨#[58, 58, 59, 58, 33, 63]⟩ : ByteArray).extract 2 3).toList == [43]) = true := by rw [Lib.toList_data]; decide
    go_enter Tryd.func29, Tryd.ntmps29
    go_wp2_with (go_at_call 24; (with_reducible refine (strings_IndexByte.calls _ _ _ _ rfl).mono ?_); rintro e w' ⟨rfl, ⟨nq, rfl⟩⟩)
    go_ret
    exact ⟨by first | rfl | (simp; done) | (congr 1), by repeat (first | exact Below.refl _ _ | apply below_alloc | apply pw_below_drewN | apply below_drew1)⟩
  · have hf : impl_mergeMarks.f 58 58 = some ⟨#[58]⟩ := by decide
    rw [hf] at h
    clear hf h1
    obtain rfl := Option.some.inj h
    clear h
    have i3 : Lib.indexByte [46, 44, 59, 58, 33, 63] 58 = 3 := by decide
    have ht : (!((⟨#[58, 58, 59, 58, 33, 63]⟩ : ByteArray).extract 3 4).toList == [43]) = true := by rw [Lib.toList_data]; decide
    go_enter Tryd.func29, Tryd.ntmps29
    go_wp2_with (go_at_call 24; (with_reducible refine (strings_IndexByte.calls _ _ _ _ rfl).mono ?_); rintro e w' ⟨rfl, ⟨nq, rfl⟩⟩)
    go_ret
    exact ⟨by first | rfl | (simp; done) | (congr 1), by repeat (first | exact Below.refl _ _ | apply below_alloc | apply pw_below_drewN | apply below_drew1)⟩
  · have hf : impl_mergeMarks.f 58 33 = some ⟨#[33]⟩ := by decide
    rw [hf] at h
    clear hf h1
    obtain rfl := Option.some.inj h
    clear h
    have i3 : Lib.indexByte [46, 44, 59, 58, 33, 63] 58 = 3 := by decide
    have i4 : Lib.indexByte [46, 44, 59, 58, 33, 63] 33 = 4 := by decide
    have ht : (!((⟨#[58, 58, 59, 58, 33, 63]⟩ : ByteArray).extract 4 5).toList == [43]) = true := by rw [Lib.toList_data]; decide
    go_enter Tryd.func29, Tryd.ntmps29
    go_wp2_with (go_at_call 24; (with_reducible refine (strings_IndexByte.calls _ _ _ _ rfl).mono ?_); rintro e w' ⟨rfl, ⟨nq, rfl⟩⟩)
    go_ret
    exact ⟨by first | rfl | (simp; done) | (congr 1), by repeat (first | exact Below.refl _ _ | apply below_alloc | apply pw_below_drewN | apply below_drew1)⟩
  · have hf : impl_mergeMarks.f 58 63 = some ⟨#[63]⟩ := by decide
    rw [hf] at h
    clear hf h1
    obtain rfl := Option.some.inj h
    clear h
    have i3 : Lib.indexByte [46, 44, 59, 58, 33, 63] 58 = 3 := by decide
    have i5 : Lib.indexByte [46, 44, 59, 58, 33, 63] 63 = 5 := by decide
    have ht : (!((⟨#[58, 58, 59, 58, 33, 63]⟩ : ByteArray).extract 5 6).toList == [43]) = true := by rw [Lib.toList_data]; decide
    go_enter Tryd.func29, Tryd.ntmps29
    go_wp2_with (go_at_call 24; (with_reducible refine (strings_IndexByte.calls _ _ _ _ rfl).mono ?_); rintro e w' ⟨rfl, ⟨nq, rfl⟩⟩)
    go_ret
    exact ⟨by first | rfl | (simp; done) | (congr 1), by repeat (first | exact Below.refl _ _ | apply below_alloc | apply pw_below_drewN | apply below_drew1)⟩
set_option maxHeartbeats 8000000 in
set_option maxRecDepth 100000 in
theorem impl_mergeMarks.calls4 (a1 : Int) (h1 : impl_mergeMarks.mark a1 = true) (r : ByteArray) (w : World) (h : impl_mergeMarks.f 33 a1 = some r) :
    Calls Tryd.prog 29 #[.int .u8 33, .int .u8 a1] w fun e w' => e = .returned (.string r) ∧ Below w.heap.size w w' := by
  rcases impl_mergeMarks.mark_cases h1 with rfl | rfl | rfl | rfl | rfl | rfl
  · have hf : impl_mergeMarks.f 33 46 = some ⟨#[33]⟩ := by decide
    rw [hf] at h
    clear hf h1
    obtain rfl := Option.some.inj h
    clear h
    have i0 : Lib.indexByte [46, 44, 59, 58, 33, 63] 46 = 0 := by decide
    have i4 : Lib.indexByte [46, 44, 59, 58, 33, 63] 33 = 4 := by decide
    have ht : (!((⟨#[33, 33, 43, 43, 33, 43]⟩ : ByteArray).extract 0 1).toList == [43]) = true := by rw [Lib.toList_data]; decide
    go_enter Tryd.func29, Tryd.ntmps29
    go_wp2_with (go_at_call 24; (with_reducible refine (strings_IndexByte.calls _ _ _ _ rfl).mono ?_); rintro e w' ⟨rfl, ⟨nq, rfl⟩⟩)
    go_ret
    exact ⟨by first | rfl | (simp; done) | (congr 1), by repeat (first | exact Below.refl _ _ | apply below_alloc | apply pw_below_drewN | apply below_drew1)⟩
  · have hf : impl_mergeMarks.f 33 44 = some ⟨#[33]⟩ := by decide
    rw [hf] at h
    clear hf h1
    obtain rfl := Option.some.inj h
    clear h
    have i1 : Lib.indexByte [46, 44, 59, 58, 33, 63] 44 = 1 := by decide
    have i4 : Lib.indexByte [46, 44, 59, 58, 33, 63] 33 = 4 := by decide
    have ht : (!((⟨#[33, 33, 43, 43, 33, 43]⟩ : ByteArray).extract 1 2).toList == [43]) = true := by rw [Lib.toList_data]; decide
    go_enter Tryd.func29, Tryd.ntmps29
    go_wp2_with (go_at_call 24; (with_reducible refine (strings_IndexByte.calls _ _ _ _ rfl).mono ?_); rintro e w' ⟨rfl, ⟨nq, rfl⟩⟩)
    go_ret
    exact ⟨by first | rfl | (simp; done) | (congr 1), by repeat (first | exact Below.refl _ _ | apply below_alloc | apply pw_below_drewN | apply below_drew1)⟩
  · have hf : impl_mergeMarks.f 33 59 = some ⟨#[33, 59]⟩ := by decide
    rw [hf] at h
    clear hf h1
    obtain rfl := Option.some.inj h
    clear h
    have i2 : Lib.indexByte [46, 44, 59, 58, 33, 63] 59 = 2 := by decide
    have i4 : Lib.indexByte [46, 44, 59, 58, 33, 63] 33 = 4 := by decide
    have ht : (!((⟨#[33, 33, 43, 43, 33, 43]⟩ : ByteArray).extract 2 3).toList == [43]) = false := by rw [Lib.toList_data]; decide
    have hc : ∀ (W : World) (n : Nat), W.heap.size = n → (convert 29 9 (.slice (some ⟨n, 0, none⟩) 2 2)).run Tryd.prog (W.alloc (.cells #[.int .u8 33, .int .u8 59] 5)) = .ok (.string ⟨#[33, 59]⟩) (W.alloc (.cells #[.int .u8 33, .int .u8 59] 5)) := by
      intro W n hn
      subst hn
      exact run_convert_bytes_arg (P := Tryd.prog) _ 29 5 Tryd.underlying29 Tryd.underlying5 W.heap.size 0 2 2 [33, 59] rfl (fun i hi => by
        have hb : (W.alloc (.cells #[.int .u8 33, .int .u8 59] 5)).heap[W.heap.size]? = some (.cells #[.int .u8 33, .int .u8 59] 5 (0, 0)) := heap_alloc_new W _
        rw [cell_of_row _ _ _ _ _ _ hb]
        match i, hi with
        | 0, _ => rfl
        | 1, _ => rfl) 9 Tryd.underlying9
    go_enter Tryd.func29, Tryd.ntmps29
    go_wp2_with (go_at_call 24; (with_reducible refine (strings_IndexByte.calls _ _ _ _ rfl).mono ?_); rintro e w' ⟨rfl, ⟨nq, rfl⟩⟩)
    go_ret
    exact ⟨rfl, by repeat (first | exact Below.refl _ _ | apply below_alloc | apply pw_below_drewN | apply below_drew1)⟩
  · have hf : impl_mergeMarks.f 33 58 = some ⟨#[33, 58]⟩ := by decide
    rw [hf] at h
    clear hf h1
    obtain rfl := Option.some.inj h
    clear h
    have i3 : Lib.indexByte [46, 44, 59, 58, 33, 63] 58 = 3 := by decide
    have i4 : Lib.indexByte [46, 44, 59, 58, 33, 63] 33 = 4 := by decide
    have ht : (!((⟨#[33, 33, 43, 43, 33, 43]⟩ : ByteArray).extract 3 4).toList == [43]) = false := by rw [Lib.toList_data]; decide
    have hc : ∀ (W : World) (n : Nat), W.heap.size = n → (convert 29 9 (.slice (some ⟨n, 0, none⟩) 2 2)).run Tryd.prog (W.alloc (.cells #[.int .u8 33, .int .u8 58] 5)) = .ok (.string ⟨#[33, 58]⟩) (W.alloc (.cells #[.int .u8 33, .int .u8 58] 5)) := by
      intro W n hn
      subst hn
      exact run_convert_bytes_arg (P := Tryd.prog) _ 29 5 Tryd.underlying29 Tryd.underlying5 W.heap.size 0 2 2 [33, 58] rfl (fun i hi => by
        have hb : (W.alloc (.cells #[.int .u8 33, .int .u8 58] 5)).heap[W.heap.size]? = some (.cells #[.int .u8 33, .int .u8 58] 5 (0, 0)) := heap_alloc_new W _
        rw [cell_of_row _ _ _ _ _ _ hb]
        match i, hi with
        | 0, _ => rfl
        | 1, _ => rfl) 9 Tryd.underlying9
    go_enter Tryd.func29, Tryd.ntmps29
    go_wp2_with (go_at_call 24; (with_reducible refine (strings_IndexByte.calls _ _ _ _ rfl).mono ?_); rintro e w' ⟨rfl, ⟨nq, rfl⟩⟩)
    go_ret
    exact ⟨rfl, by repeat (first | exact Below.refl _ _ | apply below_alloc | apply pw_below_drewN | apply below_drew1)⟩
  · have hf : impl_mergeMarks.f 33 33 = some ⟨#[33]⟩ := by decide
    rw [hf] at h
    clear hf h1
    obtain rfl := Option.some.inj h
    clear h
    have i4 : Lib.indexByte [46, 44, 59, 58, 33, 63] 33 = 4 := by decide
    have ht : (!((⟨#[33, 33, 43, 43, 33, 43]⟩ : ByteArray).extract 4 5).toList == [43]) = true := by rw [Lib.toList_data]; decide
    go_enter Tryd.func29, Tryd.ntmps29
    go_wp2_with (go_at_call 24; (with_reducible refine (strings_IndexByte.calls _ _ _ _ rfl).mono ?_); rintro e w' ⟨rfl, ⟨nq, rfl⟩⟩)
    go_ret
    exact ⟨by first | rfl | (simp; done) | (congr 1), by repeat (first | exact Below.refl _ _ | apply below_alloc | apply pw_below_drewN | apply below_drew1)⟩
  · have hf : impl_mergeMarks.f 33 63 = some ⟨#[33, 63]⟩ := by decide
    rw [hf] at h
    clear hf h1
    obtain rfl := Option.some.inj h
    clear h
    have i4 : Lib.indexByte [46, 44, 59, 58, 33, 63] 33 = 4 := by decide
    have i5 : Lib.indexByte [46, 44, 59, 58, 33, 63] 63 = 5 := by decide
    have ht : (!((⟨#[33, 33, 43, 43, 33, 43]⟩ : ByteArray).extract 5 6).toList == [43]) = false := by rw [Lib.toList_data]; decide
    have hc : ∀ (W : World) (n : Nat), W.heap.size = n → (convert 29 9 (.slice (some ⟨n, 0, none⟩) 2 2)).run Tryd.prog (W.alloc (.cells #[.int .u8 33, .int .u8 63] 5)) = .ok (.string ⟨#[33, 63]⟩) (W.alloc (.cells #[.int .u8 33, .int .u8 63] 5)) := by
      intro W n hn
      subst hn
      exact run_convert_bytes_arg (P := Tryd.prog) _ 29 5 Tryd.underlying29 Tryd.underlying5 W.heap.size 0 2 2 [33, 63] rfl (fun i hi => by
        have hb : (W.alloc (.cells #[.int .u8 33, .int .u8 63] 5)).heap[W.heap.size]? = some (.cells #[.int .u8 33, .int .u8 63] 5 (0, 0)) := heap_alloc_new W _
        rw [cell_of_row _ _ _ _ _ _ hb]
        match i, hi with
        | 0, _ => rfl
        | 1, _ => rfl) 9 Tryd.underlying9
    go_enter Tryd.func29, Tryd.ntmps29
    go_wp2_with (go_at_call 24; (with_reducible refine (strings_IndexByte.calls _ _ _ _ rfl).mono ?_); rintro e w' ⟨rfl, ⟨nq, rfl⟩⟩)
    go_ret
    exact ⟨rfl, by repeat (first | exact Below.refl _ _ | apply below_alloc | apply pw_below_drewN | apply below_drew1)⟩
set_option maxHeartbeats 8000000 in
set_option maxRecDepth 100000 in
theorem impl_mergeMarks.calls5 (a1 : Int) (h1 : impl_mergeMarks.mark a1 = true) (r : ByteArray) (w : World) (h : impl_mergeMarks.f 63 a1 = some r) :
    Calls Tryd.prog 29 #[.int .u8 63, .int .u8 a1] w fun e w' => e = .returned (.string r) ∧ Below w.heap.size w w' := by
  rcases impl_mergeMarks.mark_cases h1 with rfl | rfl | rfl | rfl | rfl | rfl
  · have hf : impl_mergeMarks.f 63 46 = some ⟨#[63]⟩ := by decide
    rw [hf] at h
    clear hf h1
    obtain rfl := Option.some.inj h
    clear h
    have i0 : Lib.indexByte [46, 44, 59, 58, 33, 63] 46 = 0 := by decide
    have i5 : Lib.indexByte [46, 44, 59, 58, 33, 63] 63 = 5 := by decide
    have ht : (!((⟨#[63, 63, 43, 43, 43, 63]⟩ : ByteArray).extract 0 1).toList == [43]) = true := by rw [Lib.toList_data]; decide
    go_enter Tryd.func29, Tryd.ntmps29
    go_wp2_with (go_at_call 24; (with_reducible refine (strings_IndexByte.calls _ _ _ _ rfl).mono ?_); rintro e w' ⟨rfl, ⟨nq, rfl⟩⟩)
    go_ret
    exact ⟨by first | rfl | (simp; done) | (congr 1), by repeat (first | exact Below.refl _ _ | apply below_alloc | apply pw_below_drewN | apply below_drew1)⟩
  · have hf : impl_mergeMarks.f 63 44 = some ⟨#[63]⟩ := by decide
    rw [hf] at h
    clear hf h1
    obtain rfl := Option.some.inj h
    clear h
    have i1 : Lib.indexByte [46, 44, 59, 58, 33, 63] 44 = 1 := by decide
    have i5 : Lib.indexByte [46, 44, 59, 58, 33, 63] 63 = 5 := by decide
    have ht : (!((⟨#[63, 63, 43, 43, 43, 63]⟩ : ByteArray).extract 1 2).toList == [43]) = true := by rw [Lib.toList_data]; decide
    go_enter Tryd.func29, Tryd.ntmps29
    go_wp2_with (go_at_call 24; (with_reducible refine (strings_IndexByte.calls _ _ _ _ rfl).mono ?_); rintro e w' ⟨rfl, ⟨nq, rfl⟩⟩)
    go_ret
    exact ⟨by first | rfl | (simp; done) | (congr 1), by repeat (first | exact Below.refl _ _ | apply below_alloc | apply pw_below_drewN | apply below_drew1)⟩
  · have hf : impl_mergeMarks.f 63 59 = some ⟨#[63, 59]⟩ := by decide
    rw [hf] at h
    clear hf h1
    obtain rfl := Option.some.inj h
    clear h
    have i2 : Lib.indexByte [46, 44, 59, 58, 33, 63] 59 = 2 := by decide
    have i5 : Lib.indexByte [46, 44, 59, 58, 33, 63] 63 = 5 := by decide
    have ht : (!((⟨#[63, 63, 43, 43, 43, 63]⟩ : ByteArray).extract 2 3).toList == [43]) = false := by rw [Lib.toList_data]; decide
    have hc : ∀ (W : World) (n : Nat), W.heap.size = n → (convert 29 9 (.slice (some ⟨n, 0, none⟩) 2 2)).run Tryd.prog (W.alloc (.cells #[.int .u8 63, .int .u8 59] 5)) = .ok (.string ⟨#[63, 59]⟩) (W.alloc (.cells #[.int .u8 63, .int .u8 59] 5)) := by
      intro W n hn
      subst hn
      exact run_convert_bytes_arg (P := Tryd.prog) _ 29 5 Tryd.underlying29 Tryd.underlying5 W.heap.size 0 2 2 [63, 59] rfl (fun i hi => by
        have hb : (W.alloc (.cells #[.int .u8 63, .int .u8 59] 5)).heap[W.heap.size]? = some (.cells #[.int .u8 63, .int .u8 59] 5 (0, 0)) := heap_alloc_new W _
        rw [cell_of_row _ _ _ _ _ _ hb]
        match i, hi with
        | 0, _ => rfl
        | 1, _ => rfl) 9 Tryd.underlying9
    go_enter Tryd.func29, Tryd.ntmps29
    go_wp2_with (go_at_call 24; (with_reducible refine (strings_IndexByte.calls _ _ _ _ rfl).mono ?_); rintro e w' ⟨rfl, ⟨nq, rfl⟩⟩)
    go_ret
    exact ⟨rfl, by repeat (first | exact Below.refl _ _ | apply below_alloc | apply pw_below_drewN | apply below_drew1)⟩
  · have hf : impl_mergeMarks.f 63 58 = some ⟨#[63, 58]⟩ := by decide
    rw [hf] at h
    clear hf h1
    obtain rfl := Option.some.inj h
    clear h
    have i3 : Lib.indexByte [46, 44, 59, 58, 33, 63] 58 = 3 := by decide
    have i5 : Lib.indexByte [46, 44, 59, 58, 33, 63] 63 = 5 := by decide
    have ht : (!((⟨#[63, 63, 43, 43, 43, 63]⟩ : ByteArray).extract 3 4).toList == [43]) = false := by rw [Lib.toList_data]; decide
    have hc : ∀ (W : World) (n : Nat), W.heap.size = n → (convert 29 9 (.slice (some ⟨n, 0, none⟩) 2 2)).run Tryd.prog (W.alloc (.cells #[.int .u8 63, .int .u8 58] 5)) = .ok (.string ⟨#[63, 58]⟩) (W.alloc (.cells #[.int .u8 63, .int .u8 58] 5)) := by
      intro W n hn
      subst hn
      exact run_convert_bytes_arg (P := Tryd.prog) _ 29 5 Tryd.underlying29 Tryd.underlying5 W.heap.size 0 2 2 [63, 58] rfl (fun i hi => by
        have hb : (W.alloc (.cells #[.int .u8 63, .int .u8 58] 5)).heap[W.heap.size]? = some (.cells #[.int .u8 63, .int .u8 58] 5 (0, 0)) := heap_alloc_new W _
        rw [cell_of_row _ _ _ _ _ _ hb]
        match i, hi with
        | 0, _ => rfl
        | 1, _ => rfl) 9 Tryd.underlying9
    go_enter Tryd.func29, Tryd.ntmps29
    go_wp2_with (go_at_call 24; (with_reducible refine (strings_IndexByte.calls _ _ _ _ rfl).mono ?_); rintro e w' ⟨rfl, ⟨nq, rfl⟩⟩)
    go_ret
    exact ⟨rfl, by repeat (first | exact Below.refl _ _ | apply below_alloc | apply pw_below_drewN | apply below_drew1)⟩
  · have hf : impl_mergeMarks.f 63 33 = some ⟨#[63, 33]⟩ := by decide
    rw [hf] at h
    clear hf h1
    obtain rfl := Option.some.inj h
    clear h
    have i4 : Lib.indexByte [46, 44, 59, 58, 33, 63] 33 = 4 := by decide
    have i5 : Lib.indexByte [46, 44, 59, 58, 33, 63] 63 = 5 := by decide
    have ht : (!((⟨#[63, 63, 43, 43, 43, 63]⟩ : ByteArray).extract 4 5).toList == [43]) = false := by rw [Lib.toList_data]; decide
    have hc : ∀ (W : World) (n : Nat), W.heap.size = n → (convert 29 9 (.slice (some ⟨n, 0, none⟩) 2 2)).run Tryd.prog (W.alloc (.cells #[.int .u8 63, .int .u8 33] 5)) = .ok (.string ⟨#[63, 33]⟩) (W.alloc (.cells #[.int .u8 63, .int .u8 33] 5)) := by
      intro W n hn
      subst hn
      exact run_convert_bytes_arg (P := Tryd.prog) _ 29 5 Tryd.underlying29 Tryd.underlying5 W.heap.size 0 2 2 [63, 33] rfl (fun i hi => by
        have hb : (W.alloc (.cells #[.int .u8 63, .int .u8 33] 5)).heap[W.heap.size]? = some (.cells #[.int .u8 63, .int .u8 33] 5 (0, 0)) := heap_alloc_new W _
        rw [cell_of_row _ _ _ _ _ _ hb]
        match i, hi with
        | 0, _ => rfl
        | 1, _ => rfl) 9 Tryd.underlying9
    go_enter Tryd.func29, Tryd.ntmps29
    go_wp2_with (go_at_call 24; (with_reducible refine (strings_IndexByte.calls _ _ _ _ rfl).mono ?_); rintro e w' ⟨rfl, ⟨nq, rfl⟩⟩)
    go_ret
    exact ⟨rfl, by repeat (first | exact Below.refl _ _ | apply below_alloc | apply pw_below_drewN | apply below_drew1)⟩
  · have hf : impl_mergeMarks.f 63 63 = some ⟨#[63]⟩ := by decide
    rw [hf] at h
    clear hf h1
    obtain rfl := Option.some.inj h
    clear h
    have i5 : Lib.indexByte [46, 44, 59, 58, 33, 63] 63 = 5 := by decide
    have ht : (!((⟨#[63, 63, 43, 43, 43, 63]⟩ : ByteArray).extract 5 6).toList == [43]) = true := by rw [Lib.toList_data]; decide
    go_enter Tryd.func29, Tryd.ntmps29
    go_wp2_with (go_at_call 24; (with_reducible refine (strings_IndexByte.calls _ _ _ _ rfl).mono ?_); rintro e w' ⟨rfl, ⟨nq, rfl⟩⟩)
    go_ret
    exact ⟨by first | rfl | (simp; done) | (congr 1), by repeat (first | exact Below.refl _ _ | apply below_alloc | apply pw_below_drewN | apply below_drew1)⟩
theorem impl_mergeMarks.calls (a0 : Int) (a1 : Int) (r : ByteArray) (w : World) (h : impl_mergeMarks.f a0 a1 = some r) :
    Calls Tryd.prog 29 #[.int .u8 a0, .int .u8 a1] w fun e w' => e = .returned (.string r) ∧ Below w.heap.size w w' := by
  by_cases hm : (impl_mergeMarks.mark a0 && impl_mergeMarks.mark a1) = true
  · obtain ⟨h0, h1⟩ := Bool.and_eq_true_iff.1 hm
    rcases impl_mergeMarks.mark_cases h0 with rfl | rfl | rfl | rfl | rfl | rfl
    · exact impl_mergeMarks.calls0 a1 h1 r w h
    · exact impl_mergeMarks.calls1 a1 h1 r w h
    · exact impl_mergeMarks.calls2 a1 h1 r w h
    · exact impl_mergeMarks.calls3 a1 h1 r w h
    · exact impl_mergeMarks.calls4 a1 h1 r w h
    · exact impl_mergeMarks.calls5 a1 h1 r w h
  · unfold impl_mergeMarks.f at h
    rw [if_neg hm] at h
    cases h

end Go.Proofs.YtciminppeclofaaDoor.Px
