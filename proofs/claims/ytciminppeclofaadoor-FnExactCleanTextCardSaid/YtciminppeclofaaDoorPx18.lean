/- That calls of Go functions come to what the Lean functions beside them say; written by a program of this session (wip/xprint) over the printed words; no conditions. -/
import Derived.Test.YtciminppeclofaaDoorPx0
import Derived.Test.YtciminppeclofaaDoorPx5
import Derived.Test.YtciminppeclofaaDoorPx8
import Derived.Test.YtciminppeclofaaDoorPx13
namespace Go.Proofs.YtciminppeclofaaDoor.Px
open Go.RowKit Go.Proofs.YtciminppeclofaaDoorW.PrintWords Go.Proofs.YtciminppeclofaaDoorW.PrintLast Go.Proofs.YtciminppeclofaaDoorW.PrintMore
attribute [local go_sem] max2_int min2_int max_two min_two max_three min_three max_four min_four   -- for this text's walks alone
set_option linter.unusedVariables false
set_option linter.unusedSimpArgs false

/-! ### impl_cleanText: function 21 -/
mutual
def impl_cleanText.l0 : Nat → ByteArray → Int → Option (ByteArray)
  | 0, _, _ => none
  | k + 1, x0, x3 => if (wrap64 (x3 + 1)) < (x0.size : Int) then (if 0 ≤ x3 then (if x3 < (x0.size : Int) then (if 0 ≤ (wrap64 (x3 + 1)) then (if (bt x0 x3) = 32 then (if (bt x0 (wrap64 (x3 + 1))) = 32 then (impl_cleanText.j1 k x0 x3 (bt x0 x3) (bt x0 (wrap64 (x3 + 1))) true) else ((impl_isMark.f (bt x0 (wrap64 (x3 + 1)))).bind fun t200 => (impl_cleanText.j1 k x0 x3 (bt x0 x3) (bt x0 (wrap64 (x3 + 1))) t200))) else (impl_cleanText.j1 k x0 x3 (bt x0 x3) (bt x0 (wrap64 (x3 + 1))) false)) else (none)) else (none)) else (none)) else ((strings_Trim.f k x0 (⟨#[32]⟩ : ByteArray)).bind fun t199 => (some t199))
def impl_cleanText.j1 : Nat → ByteArray → Int → Int → Int → Bool → Option (ByteArray)
  | 0, _, _, _, _, _ => none
  | k + 1, x0, x3, x4, x5, x20 => if x20 = true then (if 0 ≤ x3 then (if x3 ≤ (x0.size : Int) then (if 0 ≤ (wrap64 (x3 + 1)) then (if (wrap64 (x3 + 1)) ≤ (x0.size : Int) then (if (x0.extract 0 (x3 : Int).toNat).size + (x0.extract ((wrap64 (x3 + 1)) : Int).toNat x0.size).size ≤ 9223372036854775807 then (impl_cleanText.l0 k ((x0.extract 0 (x3 : Int).toNat) ++ (x0.extract ((wrap64 (x3 + 1)) : Int).toNat x0.size)) (mx (wrap64 (x3 - 1)) 0)) else (none)) else (none)) else (none)) else (none)) else (none)) else ((impl_isMark.f x4).bind fun t201 => (if t201 = true then ((impl_isMark.f x5).bind fun t202 => (if t202 = true then ((impl_mergeMarks.f x4 x5).bind fun t203 => (if (t203.size : Int) = 1 then (if 0 ≤ x3 then (if x3 ≤ (x0.size : Int) then ((impl_mergeMarks.f x4 x5).bind fun t204 => (if (x0.extract 0 (x3 : Int).toNat).size + t204.size ≤ 9223372036854775807 then (if 0 ≤ (wrap64 (x3 + 2)) then (if (wrap64 (x3 + 2)) ≤ (x0.size : Int) then (if ((x0.extract 0 (x3 : Int).toNat) ++ t204).size + (x0.extract ((wrap64 (x3 + 2)) : Int).toNat x0.size).size ≤ 9223372036854775807 then (impl_cleanText.l0 k (((x0.extract 0 (x3 : Int).toNat) ++ t204) ++ (x0.extract ((wrap64 (x3 + 2)) : Int).toNat x0.size)) (mx (wrap64 (x3 - 1)) 0)) else (none)) else (none)) else (none)) else (none))) else (none)) else (none)) else (impl_cleanText.l0 k x0 (wrap64 (x3 + 1))))) else (impl_cleanText.l0 k x0 (wrap64 (x3 + 1))))) else (impl_cleanText.l0 k x0 (wrap64 (x3 + 1)))))
end
def impl_cleanText.f (k : Nat) (a0 : ByteArray) : Option (ByteArray) := impl_cleanText.l0 k a0 0
theorem impl_cleanText.mono_l : ∀ k, (∀ y0 y1, LeO (impl_cleanText.l0 k y0 y1) (impl_cleanText.l0 (k + 1) y0 y1)) ∧ (∀ y0 y1 y2 y3 y4, LeO (impl_cleanText.j1 k y0 y1 y2 y3 y4) (impl_cleanText.j1 (k + 1) y0 y1 y2 y3 y4))
  | 0 => ⟨fun _ _ r h => by simp [impl_cleanText.l0] at h, fun _ _ _ _ _ r h => by simp [impl_cleanText.j1] at h⟩
  | k + 1 => by
    obtain ⟨ih0, ih1⟩ := impl_cleanText.mono_l k
    refine ⟨?_, ?_⟩
    · intro y0 y1
      unfold impl_cleanText.l0
      repeat' first
      | (with_reducible exact ih0 _ _)
      | (with_reducible exact ih1 _ _ _ _ _)
      | (with_reducible exact strings_Trim.mono _ _ _)
      | (with_reducible exact LeO.refl _)
      | (with_reducible exact LeO.none _)
      | (with_reducible refine LeO.ite ?_ ?_)
      | (with_reducible refine LeO.bind ?_ (fun _ => ?_))
      | exact ih0 _ _
      | exact ih1 _ _ _ _ _
      | exact strings_Trim.mono _ _ _
      | exact LeO.none _
      | refine LeO.ite ?_ ?_
      | refine LeO.bind ?_ (fun _ => ?_)
    · intro y0 y1 y2 y3 y4
      unfold impl_cleanText.j1
      repeat' first
      | (with_reducible exact ih0 _ _)
      | (with_reducible exact ih1 _ _ _ _ _)
      | (with_reducible exact strings_Trim.mono _ _ _)
      | (with_reducible exact LeO.refl _)
      | (with_reducible exact LeO.none _)
      | (with_reducible refine LeO.ite ?_ ?_)
      | (with_reducible refine LeO.bind ?_ (fun _ => ?_))
      | exact ih0 _ _
      | exact ih1 _ _ _ _ _
      | exact strings_Trim.mono _ _ _
      | exact LeO.none _
      | refine LeO.ite ?_ ?_
      | refine LeO.bind ?_ (fun _ => ?_)
theorem impl_cleanText.mono : ∀ a0 k, LeO (impl_cleanText.f k a0) (impl_cleanText.f (k + 1) a0) := by
  intro a0 k
  obtain ⟨ih0, ih1⟩ := impl_cleanText.mono_l k
  unfold impl_cleanText.f
  repeat' first
      | (with_reducible exact ih0 _ _)
      | (with_reducible exact ih1 _ _ _ _ _)
      | (with_reducible exact strings_Trim.mono _ _ _)
      | (with_reducible exact LeO.refl _)
      | (with_reducible exact LeO.none _)
      | (with_reducible refine LeO.ite ?_ ?_)
      | (with_reducible refine LeO.bind ?_ (fun _ => ?_))
      | exact ih0 _ _
      | exact ih1 _ _ _ _ _
      | exact strings_Trim.mono _ _ _
      | exact LeO.none _
      | refine LeO.ite ?_ ?_
      | refine LeO.bind ?_ (fun _ => ?_)
def impl_cleanText.T3 : Bool × List (List Nat × List Nat) := (true, [([], []), ([], []), ([0, 1], [0, 1]), ([], []), ([], []), ([4], [4]), ([3, 5], [3, 5]), ([2, 0, 1, 2], [2]), ([6, 7, 0, 1, 2, 3, 4, 5, 6, 7], [6])])
def impl_cleanText.B3 : List Nat := [0, 0, 3, 0, 0, 16, 56, 7, 255]
theorem impl_cleanText.tab3 : rtab .any (opsOf Tryd.f21 3) = impl_cleanText.T3 := by kernel_rfl
theorem impl_cleanText.bits3 : waitsOk impl_cleanText.T3.2 impl_cleanText.B3 = true := by kernel_rfl
def impl_cleanText.T6 : Bool × List (List Nat × List Nat) := (true, [([], []), ([], []), ([0, 1], [0, 1]), ([], []), ([], []), ([4], [4]), ([3, 5], [3, 5]), ([2, 6], [2, 6]), ([7, 0, 1, 2, 3, 4, 5, 6, 7], [0, 3, 7])])
def impl_cleanText.B6 : List Nat := [0, 0, 3, 0, 0, 16, 56, 127, 255]
theorem impl_cleanText.tab6 : rtab .any (opsOf Tryd.f21 6) = impl_cleanText.T6 := by kernel_rfl
theorem impl_cleanText.bits6 : waitsOk impl_cleanText.T6.2 impl_cleanText.B6 = true := by kernel_rfl
def impl_cleanText.T9 : Bool × List (List Nat × List Nat) := (true, [([], []), ([], []), ([0, 1], [0, 1]), ([], []), ([], []), ([3, 4], [3, 4]), ([2, 5], [2, 5]), ([], []), ([], []), ([8], [8]), ([7, 9], [7, 9]), ([6, 10], [6, 10]), ([11, 5, 0, 1, 2, 3, 4, 5, 6, 7, 8, 9, 10, 11], [0, 7, 11])])
def impl_cleanText.B9 : List Nat := [0, 0, 3, 0, 0, 24, 63, 0, 0, 256, 896, 2047, 4095]
theorem impl_cleanText.tab9 : rtab .any (opsOf Tryd.f21 9) = impl_cleanText.T9 := by kernel_rfl
theorem impl_cleanText.bits9 : waitsOk impl_cleanText.T9.2 impl_cleanText.B9 = true := by kernel_rfl
set_option maxHeartbeats 8000000 in
set_option maxRecDepth 100000 in
theorem impl_cleanText.calls (k : Nat) (a0 : ByteArray) (r : ByteArray) (w : World) (h : impl_cleanText.f k a0 = some r) :
    Calls Tryd.prog 21 #[.string a0] w fun e w' => e = .returned (.string r) ∧ Below w.heap.size w w' := by
  have HB := Aside0.mk (Below.refl w.heap.size w)
  have H : (impl_cleanText.l0 k a0 0) = some r := h
  clear h
  have H' := Aside0.mk H
  clear H
  go_enter Tryd.func21, Tryd.ntmps21
  go_wp2
  go_loopg [0, 3] k (fun kq v0 v3 w' => ∃ (x0_1 : ByteArray) (x3_1 : Int), v0 = .string x0_1 ∧ v3 = .int .i64 x3_1 ∧ Aside0 (impl_cleanText.l0 kq x0_1 x3_1 = some r) ∧ Aside0 (kq ≤ k) ∧ Aside0 (Below w.heap.size w w'))
  case atStart => exact ⟨(a0), (0), (by first | rfl | (simp; done) | (simp [*]; done)), (by first | rfl | (simp; done) | (simp [*]; done)), H', ⟨Nat.le_refl _⟩, ⟨by repeat (first | (with_reducible first | exact HB.out | apply below_alloc | apply pw_below_drewN | apply below_drew1) | exact HB.out)⟩⟩
  case round =>
    clear H'
    obtain ⟨x0_1, x3_1, rfl, rfl, HA, HK1, HB⟩ := hrel
    cases gk with
    | zero => exact absurd HA.out (by simp [impl_cleanText.l0])
    | succ k1 =>
      have H := HA.out
      clear HA
      simp only [impl_cleanText.l0] at H
      by_cases c2 : (wrap64 (x3_1 + 1)) < (x0_1.size : Int)
      · rw [if_pos c2] at H
        have c2b0 : decide ((wrap64 (x3_1 + 1)) < (x0_1.size : Int)) = true := decide_eq_true c2
        clear c2
        by_cases c3 : 0 ≤ x3_1
        · rw [if_pos c3] at H
          have c3b0 : decide (0 ≤ x3_1) = true := decide_eq_true c3
          clear c3
          by_cases c4 : x3_1 < (x0_1.size : Int)
          · rw [if_pos c4] at H
            have c4b0 : decide (x3_1 < (x0_1.size : Int)) = true := decide_eq_true c4
            clear c4
            obtain ⟨ji6, hji6⟩ : ∃ j_ : Int, (wrap64 (x3_1 + 1)) = j_ := ⟨_, rfl⟩
            replace H : (if 0 ≤ (ji6) then (if (bt x0_1 x3_1) = 32 then (if (bt x0_1 (ji6)) = 32 then (impl_cleanText.j1 k1 x0_1 x3_1 (bt x0_1 x3_1) (bt x0_1 (ji6)) true) else ((impl_isMark.f (bt x0_1 (ji6))).bind fun t200 => (impl_cleanText.j1 k1 x0_1 x3_1 (bt x0_1 x3_1) (bt x0_1 (ji6)) t200))) else (impl_cleanText.j1 k1 x0_1 x3_1 (bt x0_1 x3_1) (bt x0_1 (ji6)) false)) else (none)) = some r := by first | (rw [hji6] at H; exact H) | (simp only [hji6] at H ⊢; exact H)
            (try rw [hji6] at c2b0)
            have hji6w : (IntKind.i64.wrap (x3_1 + 1)) = ji6 := (i64_w _).trans hji6
            by_cases c7 : 0 ≤ (ji6)
            · rw [if_pos c7] at H
              have c7b0 : decide (0 ≤ (ji6)) = true := decide_eq_true c7
              clear c7
              have HC9 := Aside0.mk H
              clear H
              try go_wp2
              have n0_ := Aside0.mk (below_drew1 HB.out)
              clear HB
              have HB := n0_
              clear n0_
              have p5 : 0 ≤ (x3_1 : Int) := of_decide_eq_true (by first | (with_reducible assumption) | assumption)
              have q5 : x3_1 < (x0_1.size : Int) := of_decide_eq_true (by first | (with_reducible assumption) | assumption)
              have hx5 := bt_at x0_1 x3_1
              replace p5 := eq_true p5
              replace q5 := eq_true q5
              have p8 : 0 ≤ ((ji6) : Int) := of_decide_eq_true (by first | (with_reducible assumption) | assumption)
              have q8 : (ji6) < (x0_1.size : Int) := of_decide_eq_true (by first | (with_reducible assumption) | assumption)
              have hx8 := bt_at x0_1 (ji6)
              replace p8 := eq_true p8
              replace q8 := eq_true q8
              refine start_ (n := 9) (S := fun w' => True) (ds := []) #[false, false, false, false, false, false, false, false, false] (by kernel_rfl) rfl rfl trivial (fun hHeld => ?_); refine with_tabW impl_cleanText.tab3 impl_cleanText.bits3 (fun HT_ HW_ => ?_)
              generalize wr.drew = w10 at HB hHeld ⊢
              refine pure_ (i := 0) (N := some 11) (v := ?_) (a' := ?_) #[true, false, false, false, false, false, false, false, false] rfl rfl (any_of HT_.out (by kernel_rfl)) (fun _ _ _ h => h) (Or.inl ⟨by rfl, ?_⟩) ?_ ?_
              rotate_left
              · intro w'
                go_simp
                with_reducible rfl
              rotate_left
              · simp only [Act.put, List.setIfInBounds_toArray, List.set_cons_zero, List.set_cons_succ, i64_w, i32_w]
                rfl
              refine pure_ (i := 1) (N := some 12) (v := ?_) (a' := ?_) #[true, true, false, false, false, false, false, false, false] rfl rfl (any_of HT_.out (by kernel_rfl)) (fun _ _ _ h => h) (Or.inl ⟨by rfl, ?_⟩) ?_ ?_
              rotate_left
              · intro w'
                go_simp
                with_reducible rfl
              rotate_left
              · simp only [Act.put, List.setIfInBounds_toArray, List.set_cons_zero, List.set_cons_succ, i64_w, i32_w]
                rfl
              refine pure_ (i := 3) (N := some 14) (v := ?_) (a' := ?_) #[true, true, false, true, false, false, false, false, false] rfl rfl (any_of HT_.out (by kernel_rfl)) (fun _ _ _ h => h) (Or.inl ⟨by rfl, ?_⟩) ?_ ?_
              rotate_left
              · intro w'
                go_simp
                with_reducible rfl
              rotate_left
              · simp only [Act.put, List.setIfInBounds_toArray, List.set_cons_zero, List.set_cons_succ, i64_w, i32_w]
                rfl
              refine pure_ (i := 4) (N := some 15) (v := ?_) (a' := ?_) #[true, true, false, true, true, false, false, false, false] rfl rfl (any_of HT_.out (by kernel_rfl)) (fun _ _ _ h => h) (Or.inl ⟨by rfl, ?_⟩) ?_ ?_
              rotate_left
              · intro w'
                go_simp
                with_reducible rfl
              rotate_left
              · simp only [Act.put, List.setIfInBounds_toArray, List.set_cons_zero, List.set_cons_succ, i64_w, i32_w]
                rfl
              refine pure_ (i := 5) (N := some 16) (v := ?_) (a' := ?_) #[true, true, false, true, true, true, false, false, false] rfl rfl (any_of HT_.out (by kernel_rfl)) (fun _ _ _ h => h) (Or.inl ⟨by rfl, ?_⟩) ?_ ?_
              rotate_left
              · intro w'
                go_simp
                with_reducible rfl
              rotate_left
              · simp only [Act.put, List.setIfInBounds_toArray, List.set_cons_zero, List.set_cons_succ, i64_w, i32_w]
                rfl
              refine take_ (i := 2) (N := some 13) (v := ?_) (a' := ?_) #[true, true, true, true, true, true, false, false, false] rfl rfl (take_ofW HT_.out HW_.out (by kernel_rfl)) (fun _ _ _ h => h) (Or.inl ⟨by rfl, ?_⟩) hHeld ?_ ?_
              rotate_left
              · intro w' _
                go_simp
                with_reducible rfl
              rotate_left
              · simp only [Act.put, List.setIfInBounds_toArray, List.set_cons_zero, List.set_cons_succ, i64_w, i32_w]
                rfl
              refine pure_ (i := 7) (N := some 4) (v := ?_) (a' := ?_) #[true, true, true, true, true, true, false, true, false] rfl rfl (any_of HT_.out (by kernel_rfl)) (fun _ _ _ h => h) (Or.inl ⟨by rfl, ?_⟩) ?_ ?_
              rotate_left
              · intro w'
                go_simp
                with_reducible rfl
              rotate_left
              · simp only [Act.put, List.setIfInBounds_toArray, List.set_cons_zero, List.set_cons_succ, i64_w, i32_w]
                rfl
              refine take_ (i := 6) (N := some 17) (v := ?_) (a' := ?_) #[true, true, true, true, true, true, true, true, false] rfl rfl (take_ofW HT_.out HW_.out (by kernel_rfl)) (fun _ _ _ h => h) (Or.inl ⟨by rfl, ?_⟩) hHeld ?_ ?_
              rotate_left
              · intro w' _
                go_simp
                with_reducible rfl
              rotate_left
              · simp only [Act.put, List.setIfInBounds_toArray, List.set_cons_zero, List.set_cons_succ, i64_w, i32_w]
                rfl
              refine pure_ (i := 8) (N := some 5) (v := ?_) (a' := ?_) #[true, true, true, true, true, true, true, true, true] rfl rfl (any_of HT_.out (by kernel_rfl)) (fun _ _ _ h => h) (Or.inl ⟨by rfl, ?_⟩) ?_ ?_
              rotate_left
              · intro w'
                go_simp
                with_reducible rfl
              rotate_left
              · simp only [Act.put, List.setIfInBounds_toArray, List.set_cons_zero, List.set_cons_succ, i64_w, i32_w]
                rfl
              refine done_ (done_of HT_.out (by kernel_rfl)) ?_
              go_upto_region 5 with (fail)
              go_cut [20] (fun v20 wc => ∃ (kq : Nat) (x20_8 : Bool), v20 = .bool x20_8 ∧ Aside0 (impl_cleanText.j1 kq x0_1 x3_1 (bt x0_1 x3_1) (bt x0_1 (ji6)) x20_8 = some r) ∧ Aside0 (kq ≤ k1) ∧ Aside0 (Below w.heap.size w wc))
              case first =>
                have H := HC9.out
                clear HC9
                by_cases c11 : (bt x0_1 x3_1) = 32
                · rw [if_pos c11] at H
                  have c11b0 : ((bt x0_1 x3_1) == 32) = true := beq_iff_eq.mpr c11
                  have c11b1 : ((bt x0_1 x3_1) != 32) = false := bne_eq_false_iff_eq.mpr c11
                  clear c11
                  (first | rw [c11b0] | (simp only [i64_w, i32_w]; rw [c11b0]) | skip)
                  by_cases c12 : (bt x0_1 (ji6)) = 32
                  · rw [if_pos c12] at H
                    have c12b0 : ((bt x0_1 (ji6)) == 32) = true := beq_iff_eq.mpr c12
                    have c12b1 : ((bt x0_1 (ji6)) != 32) = false := bne_eq_false_iff_eq.mpr c12
                    clear c12
                    have H' := Aside0.mk H
                    clear H
                    go_wp2
                    go_meet
                    case rel => exact ⟨_, (true), (by first | rfl | (simp; done) | (simp [*]; done)), H', ⟨by have := HK1.out; first | omega | exact Nat.le_refl _⟩, ⟨by repeat (first | (with_reducible first | exact HB.out | apply below_alloc | apply pw_below_drewN | apply below_drew1) | exact HB.out)⟩⟩
                  · rw [if_neg c12] at H
                    have c12b0 : ((bt x0_1 (ji6)) == 32) = false := beq_eq_false_iff_ne.mpr c12
                    have c12b1 : ((bt x0_1 (ji6)) != 32) = true := bne_iff_ne.mpr c12
                    replace H := Option.bind_eq_some_iff.mp H
                    obtain ⟨t200, A130, H⟩ := H
                    replace H : (impl_cleanText.j1 k1 x0_1 x3_1 (bt x0_1 x3_1) (bt x0_1 (ji6)) t200) = some r := H
                    have A13 := Aside0.mk A130
                    clear A130
                    have H' := Aside0.mk H
                    clear H
                    go_wp2_with (first | (go_at_call 16; (with_reducible refine (impl_isMark.calls (bt x0_1 (ji6)) t200 _ A13.out).mono ?_); rintro e w' ⟨rfl, ⟨nd, rfl⟩⟩))
                    go_meet
                    case rel => exact ⟨_, (t200), (by first | rfl | (simp; done) | (simp [*]; done)), H', ⟨by have := HK1.out; first | omega | exact Nat.le_refl _⟩, ⟨by repeat (first | (with_reducible first | exact HB.out | apply below_alloc | apply pw_below_drewN | apply below_drew1) | exact HB.out)⟩⟩
                · rw [if_neg c11] at H
                  have c11b0 : ((bt x0_1 x3_1) == 32) = false := beq_eq_false_iff_ne.mpr c11
                  have c11b1 : ((bt x0_1 x3_1) != 32) = true := bne_iff_ne.mpr c11
                  (first | rw [c11b0] | (simp only [i64_w, i32_w]; rw [c11b0]) | skip)
                  have H' := Aside0.mk H
                  clear H
                  go_wp2
                  go_meet
                  case rel => exact ⟨_, (false), (by first | rfl | (simp; done) | (simp [*]; done)), H', ⟨by have := HK1.out; first | omega | exact Nat.le_refl _⟩, ⟨by repeat (first | (with_reducible first | exact HB.out | apply below_alloc | apply pw_below_drewN | apply below_drew1) | exact HB.out)⟩⟩
              case rest =>
                clear HC9
                try clear c1
                try clear c2
                try clear c2b0
                try clear p2
                try clear c3
                try clear c3b0
                try clear c4
                try clear c4b0
                try clear p5
                try clear q5
                try clear hx5
                try clear p6
                try clear c7
                try clear c7b0
                try clear p8
                try clear q8
                try clear hx8
                try clear c11
                try clear c11b0
                try clear c11b1
                try clear c12
                try clear c12b0
                try clear c12b1
                try clear p5
                try clear p8
                try clear q5
                try clear q8
                obtain ⟨kq, x20_8, rfl, HA, HJ8, HB⟩ := hcut
                cases kq with
                | zero => exact absurd HA.out (by simp [impl_cleanText.j1])
                | succ kj8 =>
                  have H := HA.out
                  clear HA
                  simp only [impl_cleanText.j1] at H
                  by_cases c14 : x20_8 = true
                  · subst c14
                    have H1 : (if 0 ≤ x3_1 then (if x3_1 ≤ (x0_1.size : Int) then (if 0 ≤ (wrap64 (x3_1 + 1)) then (if (wrap64 (x3_1 + 1)) ≤ (x0_1.size : Int) then (if (x0_1.extract 0 (x3_1 : Int).toNat).size + (x0_1.extract ((wrap64 (x3_1 + 1)) : Int).toNat x0_1.size).size ≤ 9223372036854775807 then (impl_cleanText.l0 kj8 ((x0_1.extract 0 (x3_1 : Int).toNat) ++ (x0_1.extract ((wrap64 (x3_1 + 1)) : Int).toNat x0_1.size)) (mx (wrap64 (x3_1 - 1)) 0)) else (none)) else (none)) else (none)) else (none)) else (none)) = some r := by rw [if_pos rfl] at H; exact H
                    clear H
                    have H := H1
                    clear H1
                    by_cases c15 : 0 ≤ x3_1
                    · rw [if_pos c15] at H
                      have c15b0 := eq_true c15
                      have c15b1 : decide (0 ≤ x3_1) = true := decide_eq_true c15
                      clear c15
                      by_cases c16 : x3_1 ≤ (x0_1.size : Int)
                      · rw [if_pos c16] at H
                        have c16b0 := eq_true c16
                        have c16b1 : decide (x3_1 ≤ (x0_1.size : Int)) = true := decide_eq_true c16
                        clear c16
                        replace H : (if 0 ≤ (ji6) then (if (ji6) ≤ (x0_1.size : Int) then (if (x0_1.extract 0 (x3_1 : Int).toNat).size + (x0_1.extract ((ji6) : Int).toNat x0_1.size).size ≤ 9223372036854775807 then (impl_cleanText.l0 kj8 ((x0_1.extract 0 (x3_1 : Int).toNat) ++ (x0_1.extract ((ji6) : Int).toNat x0_1.size)) (mx (wrap64 (x3_1 - 1)) 0)) else (none)) else (none)) else (none)) = some r := by first | (rw [hji6] at H; exact H) | (simp only [hji6] at H ⊢; exact H)
                        (try rw [hji6] at c2b0)
                        by_cases c17 : 0 ≤ (ji6)
                        · rw [if_pos c17] at H
                          have c17b0 := eq_true c17
                          have c17b1 : decide (0 ≤ (ji6)) = true := decide_eq_true c17
                          clear c17
                          by_cases c18 : (ji6) ≤ (x0_1.size : Int)
                          · rw [if_pos c18] at H
                            have c18b0 := eq_true c18
                            have c18b1 : decide ((ji6) ≤ (x0_1.size : Int)) = true := decide_eq_true c18
                            clear c18
                            by_cases c19 : (x0_1.extract 0 (x3_1 : Int).toNat).size + (x0_1.extract ((ji6) : Int).toNat x0_1.size).size ≤ 9223372036854775807
                            · rw [if_pos c19] at H
                              have c19b0 := eq_true c19
                              have c19b1 : decide ((x0_1.extract 0 (x3_1 : Int).toNat).size + (x0_1.extract ((ji6) : Int).toNat x0_1.size).size ≤ 9223372036854775807) = true := decide_eq_true c19
                              try have c19b2 : (9223372036854775807 < (x0_1.extract 0 (x3_1 : Int).toNat).size + (x0_1.extract ((ji6) : Int).toNat x0_1.size).size) = False := eq_false (Nat.not_lt.2 c19)
                              try have c19b3 : (9223372036854775807 < (x3_1 : Int).toNat + (x0_1.size - ((ji6) : Int).toNat)) = False := eq_false (by have h_ := c19; simp only [ByteArray.size_append, ByteArray.size_extract] at h_; (try have q0_ := of_eq_true c2b0); (try have q1_ := of_eq_true c3b0); (try have q2_ := of_eq_true c4b0); (try have q3_ := of_eq_true c7b0); (try have q4_ := of_eq_true c15b0); (try have q6_ := of_eq_true c16b0); (try have q8_ := of_eq_true c17b0); (try have q10_ := of_eq_true c18b0); omega)
                              obtain ⟨ji20, hji20⟩ : ∃ j_ : Int, (mx (wrap64 (x3_1 - 1)) 0) = j_ := ⟨_, rfl⟩
                              replace H : (impl_cleanText.l0 kj8 ((x0_1.extract 0 (x3_1 : Int).toNat) ++ (x0_1.extract ((ji6) : Int).toNat x0_1.size)) ji20) = some r := by first | (rw [hji20] at H; exact H) | (simp only [hji20] at H ⊢; exact H)
                              have hji20_ : (if (wrap64 (x3_1 - 1)) < 0 then 0 else (wrap64 (x3_1 - 1))) = ji20 := hji20
                              have H' := Aside0.mk H
                              clear H
                              try go_wp2
                              have n0_ := Aside0.mk (below_drew1 HB.out)
                              clear HB
                              have HB := n0_
                              clear n0_
                              refine start_ (n := 9) (S := fun w' => True) (ds := []) #[false, false, false, false, false, false, false, false, false] (by kernel_rfl) rfl rfl trivial (fun hHeld => ?_); refine with_tabW impl_cleanText.tab6 impl_cleanText.bits6 (fun HT_ HW_ => ?_)
                              generalize wc.drew = w21 at HB hHeld ⊢
                              refine pure_ (i := 0) (N := some 31) (v := ?_) (a' := ?_) #[true, false, false, false, false, false, false, false, false] rfl rfl (any_of HT_.out (by kernel_rfl)) (fun _ _ _ h => h) (Or.inl ⟨by rfl, ?_⟩) ?_ ?_
                              rotate_left
                              · intro w'
                                go_simp
                                with_reducible rfl
                              rotate_left
                              · simp only [Act.put, List.setIfInBounds_toArray, List.set_cons_zero, List.set_cons_succ, i64_w, i32_w]
                                rfl
                              refine pure_ (i := 1) (N := some 32) (v := ?_) (a' := ?_) #[true, true, false, false, false, false, false, false, false] rfl rfl (any_of HT_.out (by kernel_rfl)) (fun _ _ _ h => h) (Or.inl ⟨by rfl, ?_⟩) ?_ ?_
                              rotate_left
                              · intro w'
                                go_simp
                                with_reducible rfl
                              rotate_left
                              · simp only [Act.put, List.setIfInBounds_toArray, List.set_cons_zero, List.set_cons_succ, i64_w, i32_w]
                                rfl
                              refine pure_ (i := 2) (N := some 33) (v := ?_) (a' := ?_) #[true, true, true, false, false, false, false, false, false] rfl rfl (any_of HT_.out (by kernel_rfl)) (fun _ _ _ h => h) (Or.inl ⟨by rfl, ?_⟩) ?_ ?_
                              rotate_left
                              · intro w'
                                go_simp
                                with_reducible rfl
                              rotate_left
                              · simp only [Act.put, List.setIfInBounds_toArray, List.set_cons_zero, List.set_cons_succ, i64_w, i32_w]
                                rfl
                              refine pure_ (i := 3) (N := some 34) (v := ?_) (a' := ?_) #[true, true, true, true, false, false, false, false, false] rfl rfl (any_of HT_.out (by kernel_rfl)) (fun _ _ _ h => h) (Or.inl ⟨by rfl, ?_⟩) ?_ ?_
                              rotate_left
                              · intro w'
                                go_simp
                                with_reducible rfl
                              rotate_left
                              · simp only [Act.put, List.setIfInBounds_toArray, List.set_cons_zero, List.set_cons_succ, i64_w, i32_w]
                                rfl
                              refine pure_ (i := 4) (N := some 35) (v := ?_) (a' := ?_) #[true, true, true, true, true, false, false, false, false] rfl rfl (any_of HT_.out (by kernel_rfl)) (fun _ _ _ h => h) (Or.inl ⟨by rfl, ?_⟩) ?_ ?_
                              rotate_left
                              · intro w'
                                go_simp
                                with_reducible rfl
                              rotate_left
                              · simp only [Act.put, List.setIfInBounds_toArray, List.set_cons_zero, List.set_cons_succ, i64_w, i32_w]
                                rfl
                              refine pure_ (i := 5) (N := some 36) (v := ?_) (a' := ?_) #[true, true, true, true, true, true, false, false, false] rfl rfl (any_of HT_.out (by kernel_rfl)) (fun _ _ _ h => h) (Or.inl ⟨by rfl, ?_⟩) ?_ ?_
                              rotate_left
                              · intro w'
                                go_simp
                                with_reducible rfl
                              rotate_left
                              · simp only [Act.put, List.setIfInBounds_toArray, List.set_cons_zero, List.set_cons_succ, i64_w, i32_w]
                                rfl
                              refine pure_ (i := 6) (N := some 37) (v := ?_) (a' := ?_) #[true, true, true, true, true, true, true, false, false] rfl rfl (any_of HT_.out (by kernel_rfl)) (fun _ _ _ h => h) (Or.inl ⟨by rfl, ?_⟩) ?_ ?_
                              rotate_left
                              · intro w'
                                go_simp
                                with_reducible rfl
                              rotate_left
                              · simp only [Act.put, List.setIfInBounds_toArray, List.set_cons_zero, List.set_cons_succ, i64_w, i32_w]
                                rfl
                              refine pure_ (i := 7) (N := some 38) (v := ?_) (a' := ?_) #[true, true, true, true, true, true, true, true, false] rfl rfl (any_of HT_.out (by kernel_rfl)) (fun _ _ _ h => h) (Or.inl ⟨by rfl, ?_⟩) ?_ ?_
                              rotate_left
                              · intro w'
                                go_simp
                                with_reducible rfl
                              rotate_left
                              · simp only [Act.put, List.setIfInBounds_toArray, List.set_cons_zero, List.set_cons_succ, i64_w, i32_w]
                                rfl
                              refine pure_ (i := 8) (N := some 0) (v := ?_) (a' := ?_) #[true, true, true, true, true, true, true, true, true] rfl rfl (any_of HT_.out (by kernel_rfl)) (fun _ _ _ h => h) (Or.inl ⟨by rfl, ?_⟩) ?_ ?_
                              rotate_left
                              · intro w'
                                go_simp
                                with_reducible rfl
                              rotate_left
                              · simp only [Act.put, List.setIfInBounds_toArray, List.set_cons_zero, List.set_cons_succ, i64_w, i32_w]
                                rfl
                              refine done_ (done_of HT_.out (by kernel_rfl)) ?_
                              try go_wp2
                              go_roundg kj8
                              case measure => have := HK1.out; have := HJ8.out; omega
                              case rel => exact ⟨((x0_1.extract 0 (x3_1 : Int).toNat) ++ (x0_1.extract ((ji6) : Int).toNat x0_1.size)), (ji20), (by first | rfl | (simp; done) | (simp only [← hji6] <;> (first | rfl | simp)) | (simp [*]; done)), (by first | rfl | (simp; done) | (simp only [← hji20] <;> (first | rfl | simp)) | (simp [*]; done)), H', ⟨by have := HK1.out; have := HJ8.out; omega⟩, ⟨by repeat (first | (with_reducible first | exact HB.out | apply below_alloc | apply pw_below_drewN | apply below_drew1) | exact HB.out)⟩⟩
                            · rw [if_neg c19] at H
                              exact absurd H (by simp)
                          · rw [if_neg c18] at H
                            exact absurd H (by simp)
                        · rw [if_neg c17] at H
                          exact absurd H (by simp)
                      · rw [if_neg c16] at H
                        exact absurd H (by simp)
                    · rw [if_neg c15] at H
                      exact absurd H (by simp)
                  · replace c14 := Bool.eq_false_iff.mpr c14
                    subst c14
                    have H1 : ((impl_isMark.f (bt x0_1 x3_1)).bind fun t201 => (if t201 = true then ((impl_isMark.f (bt x0_1 (ji6))).bind fun t202 => (if t202 = true then ((impl_mergeMarks.f (bt x0_1 x3_1) (bt x0_1 (ji6))).bind fun t203 => (if (t203.size : Int) = 1 then (if 0 ≤ x3_1 then (if x3_1 ≤ (x0_1.size : Int) then ((impl_mergeMarks.f (bt x0_1 x3_1) (bt x0_1 (ji6))).bind fun t204 => (if (x0_1.extract 0 (x3_1 : Int).toNat).size + t204.size ≤ 9223372036854775807 then (if 0 ≤ (wrap64 (x3_1 + 2)) then (if (wrap64 (x3_1 + 2)) ≤ (x0_1.size : Int) then (if ((x0_1.extract 0 (x3_1 : Int).toNat) ++ t204).size + (x0_1.extract ((wrap64 (x3_1 + 2)) : Int).toNat x0_1.size).size ≤ 9223372036854775807 then (impl_cleanText.l0 kj8 (((x0_1.extract 0 (x3_1 : Int).toNat) ++ t204) ++ (x0_1.extract ((wrap64 (x3_1 + 2)) : Int).toNat x0_1.size)) (mx (wrap64 (x3_1 - 1)) 0)) else (none)) else (none)) else (none)) else (none))) else (none)) else (none)) else (impl_cleanText.l0 kj8 x0_1 (wrap64 (x3_1 + 1))))) else (impl_cleanText.l0 kj8 x0_1 (wrap64 (x3_1 + 1))))) else (impl_cleanText.l0 kj8 x0_1 (wrap64 (x3_1 + 1))))) = some r := by rw [if_neg (show ¬ (false = true) by decide)] at H; exact H
                    clear H
                    have H := H1
                    clear H1
                    replace H := Option.bind_eq_some_iff.mp H
                    obtain ⟨t201, A220, H⟩ := H
                    replace H : (if t201 = true then ((impl_isMark.f (bt x0_1 (ji6))).bind fun t202 => (if t202 = true then ((impl_mergeMarks.f (bt x0_1 x3_1) (bt x0_1 (ji6))).bind fun t203 => (if (t203.size : Int) = 1 then (if 0 ≤ x3_1 then (if x3_1 ≤ (x0_1.size : Int) then ((impl_mergeMarks.f (bt x0_1 x3_1) (bt x0_1 (ji6))).bind fun t204 => (if (x0_1.extract 0 (x3_1 : Int).toNat).size + t204.size ≤ 9223372036854775807 then (if 0 ≤ (wrap64 (x3_1 + 2)) then (if (wrap64 (x3_1 + 2)) ≤ (x0_1.size : Int) then (if ((x0_1.extract 0 (x3_1 : Int).toNat) ++ t204).size + (x0_1.extract ((wrap64 (x3_1 + 2)) : Int).toNat x0_1.size).size ≤ 9223372036854775807 then (impl_cleanText.l0 kj8 (((x0_1.extract 0 (x3_1 : Int).toNat) ++ t204) ++ (x0_1.extract ((wrap64 (x3_1 + 2)) : Int).toNat x0_1.size)) (mx (wrap64 (x3_1 - 1)) 0)) else (none)) else (none)) else (none)) else (none))) else (none)) else (none)) else (impl_cleanText.l0 kj8 x0_1 (wrap64 (x3_1 + 1))))) else (impl_cleanText.l0 kj8 x0_1 (wrap64 (x3_1 + 1))))) else (impl_cleanText.l0 kj8 x0_1 (wrap64 (x3_1 + 1)))) = some r := H
                    have A22 := Aside0.mk A220
                    clear A220
                    by_cases c23 : t201 = true
                    · subst c23
                      have H1 : ((impl_isMark.f (bt x0_1 (ji6))).bind fun t202 => (if t202 = true then ((impl_mergeMarks.f (bt x0_1 x3_1) (bt x0_1 (ji6))).bind fun t203 => (if (t203.size : Int) = 1 then (if 0 ≤ x3_1 then (if x3_1 ≤ (x0_1.size : Int) then ((impl_mergeMarks.f (bt x0_1 x3_1) (bt x0_1 (ji6))).bind fun t204 => (if (x0_1.extract 0 (x3_1 : Int).toNat).size + t204.size ≤ 9223372036854775807 then (if 0 ≤ (wrap64 (x3_1 + 2)) then (if (wrap64 (x3_1 + 2)) ≤ (x0_1.size : Int) then (if ((x0_1.extract 0 (x3_1 : Int).toNat) ++ t204).size + (x0_1.extract ((wrap64 (x3_1 + 2)) : Int).toNat x0_1.size).size ≤ 9223372036854775807 then (impl_cleanText.l0 kj8 (((x0_1.extract 0 (x3_1 : Int).toNat) ++ t204) ++ (x0_1.extract ((wrap64 (x3_1 + 2)) : Int).toNat x0_1.size)) (mx (wrap64 (x3_1 - 1)) 0)) else (none)) else (none)) else (none)) else (none))) else (none)) else (none)) else (impl_cleanText.l0 kj8 x0_1 (wrap64 (x3_1 + 1))))) else (impl_cleanText.l0 kj8 x0_1 (wrap64 (x3_1 + 1))))) = some r := by rw [if_pos rfl] at H; exact H
                      clear H
                      have H := H1
                      clear H1
                      replace H := Option.bind_eq_some_iff.mp H
                      obtain ⟨t202, A240, H⟩ := H
                      replace H : (if t202 = true then ((impl_mergeMarks.f (bt x0_1 x3_1) (bt x0_1 (ji6))).bind fun t203 => (if (t203.size : Int) = 1 then (if 0 ≤ x3_1 then (if x3_1 ≤ (x0_1.size : Int) then ((impl_mergeMarks.f (bt x0_1 x3_1) (bt x0_1 (ji6))).bind fun t204 => (if (x0_1.extract 0 (x3_1 : Int).toNat).size + t204.size ≤ 9223372036854775807 then (if 0 ≤ (wrap64 (x3_1 + 2)) then (if (wrap64 (x3_1 + 2)) ≤ (x0_1.size : Int) then (if ((x0_1.extract 0 (x3_1 : Int).toNat) ++ t204).size + (x0_1.extract ((wrap64 (x3_1 + 2)) : Int).toNat x0_1.size).size ≤ 9223372036854775807 then (impl_cleanText.l0 kj8 (((x0_1.extract 0 (x3_1 : Int).toNat) ++ t204) ++ (x0_1.extract ((wrap64 (x3_1 + 2)) : Int).toNat x0_1.size)) (mx (wrap64 (x3_1 - 1)) 0)) else (none)) else (none)) else (none)) else (none))) else (none)) else (none)) else (impl_cleanText.l0 kj8 x0_1 (wrap64 (x3_1 + 1))))) else (impl_cleanText.l0 kj8 x0_1 (wrap64 (x3_1 + 1)))) = some r := H
                      have A24 := Aside0.mk A240
                      clear A240
                      by_cases c25 : t202 = true
                      · subst c25
                        have H1 : ((impl_mergeMarks.f (bt x0_1 x3_1) (bt x0_1 (ji6))).bind fun t203 => (if (t203.size : Int) = 1 then (if 0 ≤ x3_1 then (if x3_1 ≤ (x0_1.size : Int) then ((impl_mergeMarks.f (bt x0_1 x3_1) (bt x0_1 (ji6))).bind fun t204 => (if (x0_1.extract 0 (x3_1 : Int).toNat).size + t204.size ≤ 9223372036854775807 then (if 0 ≤ (wrap64 (x3_1 + 2)) then (if (wrap64 (x3_1 + 2)) ≤ (x0_1.size : Int) then (if ((x0_1.extract 0 (x3_1 : Int).toNat) ++ t204).size + (x0_1.extract ((wrap64 (x3_1 + 2)) : Int).toNat x0_1.size).size ≤ 9223372036854775807 then (impl_cleanText.l0 kj8 (((x0_1.extract 0 (x3_1 : Int).toNat) ++ t204) ++ (x0_1.extract ((wrap64 (x3_1 + 2)) : Int).toNat x0_1.size)) (mx (wrap64 (x3_1 - 1)) 0)) else (none)) else (none)) else (none)) else (none))) else (none)) else (none)) else (impl_cleanText.l0 kj8 x0_1 (wrap64 (x3_1 + 1))))) = some r := by rw [if_pos rfl] at H; exact H
                        clear H
                        have H := H1
                        clear H1
                        replace H := Option.bind_eq_some_iff.mp H
                        obtain ⟨t203, A260, H⟩ := H
                        replace H : (if (t203.size : Int) = 1 then (if 0 ≤ x3_1 then (if x3_1 ≤ (x0_1.size : Int) then ((impl_mergeMarks.f (bt x0_1 x3_1) (bt x0_1 (ji6))).bind fun t204 => (if (x0_1.extract 0 (x3_1 : Int).toNat).size + t204.size ≤ 9223372036854775807 then (if 0 ≤ (wrap64 (x3_1 + 2)) then (if (wrap64 (x3_1 + 2)) ≤ (x0_1.size : Int) then (if ((x0_1.extract 0 (x3_1 : Int).toNat) ++ t204).size + (x0_1.extract ((wrap64 (x3_1 + 2)) : Int).toNat x0_1.size).size ≤ 9223372036854775807 then (impl_cleanText.l0 kj8 (((x0_1.extract 0 (x3_1 : Int).toNat) ++ t204) ++ (x0_1.extract ((wrap64 (x3_1 + 2)) : Int).toNat x0_1.size)) (mx (wrap64 (x3_1 - 1)) 0)) else (none)) else (none)) else (none)) else (none))) else (none)) else (none)) else (impl_cleanText.l0 kj8 x0_1 (wrap64 (x3_1 + 1)))) = some r := H
                        have A26 := Aside0.mk A260
                        clear A260
                        by_cases c27 : (t203.size : Int) = 1
                        · rw [if_pos c27] at H
                          have c27b0 : ((t203.size : Int) == 1) = true := beq_iff_eq.mpr c27
                          have c27b1 : ((t203.size : Int) != 1) = false := bne_eq_false_iff_eq.mpr c27
                          clear c27
                          by_cases c28 : 0 ≤ x3_1
                          · rw [if_pos c28] at H
                            have c28b0 := eq_true c28
                            have c28b1 : decide (0 ≤ x3_1) = true := decide_eq_true c28
                            clear c28
                            by_cases c29 : x3_1 ≤ (x0_1.size : Int)
                            · rw [if_pos c29] at H
                              have c29b0 := eq_true c29
                              have c29b1 : decide (x3_1 ≤ (x0_1.size : Int)) = true := decide_eq_true c29
                              clear c29
                              replace H := Option.bind_eq_some_iff.mp H
                              obtain ⟨t204, A300, H⟩ := H
                              replace H : (if (x0_1.extract 0 (x3_1 : Int).toNat).size + t204.size ≤ 9223372036854775807 then (if 0 ≤ (wrap64 (x3_1 + 2)) then (if (wrap64 (x3_1 + 2)) ≤ (x0_1.size : Int) then (if ((x0_1.extract 0 (x3_1 : Int).toNat) ++ t204).size + (x0_1.extract ((wrap64 (x3_1 + 2)) : Int).toNat x0_1.size).size ≤ 9223372036854775807 then (impl_cleanText.l0 kj8 (((x0_1.extract 0 (x3_1 : Int).toNat) ++ t204) ++ (x0_1.extract ((wrap64 (x3_1 + 2)) : Int).toNat x0_1.size)) (mx (wrap64 (x3_1 - 1)) 0)) else (none)) else (none)) else (none)) else (none)) = some r := H
                              have A30 := Aside0.mk A300
                              clear A300
                              by_cases c31 : (x0_1.extract 0 (x3_1 : Int).toNat).size + t204.size ≤ 9223372036854775807
                              · rw [if_pos c31] at H
                                have c31b0 := eq_true c31
                                have c31b1 : decide ((x0_1.extract 0 (x3_1 : Int).toNat).size + t204.size ≤ 9223372036854775807) = true := decide_eq_true c31
                                try have c31b2 : (9223372036854775807 < (x0_1.extract 0 (x3_1 : Int).toNat).size + t204.size) = False := eq_false (Nat.not_lt.2 c31)
                                try have c31b3 : (9223372036854775807 < (x3_1 : Int).toNat + t204.size) = False := eq_false (by have h_ := c31; simp only [ByteArray.size_append, ByteArray.size_extract] at h_; (try have q0_ := of_eq_true c2b0); (try have q1_ := of_eq_true c3b0); (try have q2_ := of_eq_true c4b0); (try have q3_ := of_eq_true c7b0); (try have q4_ := of_eq_true c27b0); (try have q6_ := of_eq_true c28b0); (try have q8_ := of_eq_true c29b0); omega)
                                obtain ⟨ji32, hji32⟩ : ∃ j_ : Int, (wrap64 (x3_1 + 2)) = j_ := ⟨_, rfl⟩
                                replace H : (if 0 ≤ (ji32) then (if (ji32) ≤ (x0_1.size : Int) then (if ((x0_1.extract 0 (x3_1 : Int).toNat) ++ t204).size + (x0_1.extract ((ji32) : Int).toNat x0_1.size).size ≤ 9223372036854775807 then (impl_cleanText.l0 kj8 (((x0_1.extract 0 (x3_1 : Int).toNat) ++ t204) ++ (x0_1.extract ((ji32) : Int).toNat x0_1.size)) (mx (wrap64 (x3_1 - 1)) 0)) else (none)) else (none)) else (none)) = some r := by first | (rw [hji32] at H; exact H) | (simp only [hji32] at H ⊢; exact H)
                                (try rw [hji32] at A22)
                                (try rw [hji32] at A24)
                                (try rw [hji32] at A26)
                                (try rw [hji32] at A30)
                                have hji32w : (IntKind.i64.wrap (x3_1 + 2)) = ji32 := (i64_w _).trans hji32
                                by_cases c33 : 0 ≤ (ji32)
                                · rw [if_pos c33] at H
                                  have c33b0 := eq_true c33
                                  have c33b1 : decide (0 ≤ (ji32)) = true := decide_eq_true c33
                                  clear c33
                                  by_cases c34 : (ji32) ≤ (x0_1.size : Int)
                                  · rw [if_pos c34] at H
                                    have c34b0 := eq_true c34
                                    have c34b1 : decide ((ji32) ≤ (x0_1.size : Int)) = true := decide_eq_true c34
                                    clear c34
                                    by_cases c35 : ((x0_1.extract 0 (x3_1 : Int).toNat) ++ t204).size + (x0_1.extract ((ji32) : Int).toNat x0_1.size).size ≤ 9223372036854775807
                                    · rw [if_pos c35] at H
                                      have c35b0 := eq_true c35
                                      have c35b1 : decide (((x0_1.extract 0 (x3_1 : Int).toNat) ++ t204).size + (x0_1.extract ((ji32) : Int).toNat x0_1.size).size ≤ 9223372036854775807) = true := decide_eq_true c35
                                      try have c35b2 : (9223372036854775807 < ((x0_1.extract 0 (x3_1 : Int).toNat) ++ t204).size + (x0_1.extract ((ji32) : Int).toNat x0_1.size).size) = False := eq_false (Nat.not_lt.2 c35)
                                      try have c35b3 : (9223372036854775807 < (x3_1 : Int).toNat + t204.size + (x0_1.size - ((ji32) : Int).toNat)) = False := eq_false (by have h_ := c35; simp only [ByteArray.size_append, ByteArray.size_extract] at h_; (try have q0_ := of_eq_true c2b0); (try have q1_ := of_eq_true c3b0); (try have q2_ := of_eq_true c4b0); (try have q3_ := of_eq_true c7b0); (try have q4_ := of_eq_true c27b0); (try have q6_ := of_eq_true c28b0); (try have q8_ := of_eq_true c29b0); (try have q10_ := of_eq_true c31b0); (try have q13_ := of_eq_true c33b0); (try have q15_ := of_eq_true c34b0); omega)
                                      obtain ⟨ji36, hji36⟩ : ∃ j_ : Int, (mx (wrap64 (x3_1 - 1)) 0) = j_ := ⟨_, rfl⟩
                                      replace H : (impl_cleanText.l0 kj8 (((x0_1.extract 0 (x3_1 : Int).toNat) ++ t204) ++ (x0_1.extract ((ji32) : Int).toNat x0_1.size)) ji36) = some r := by first | (rw [hji36] at H; exact H) | (simp only [hji36] at H ⊢; exact H)
                                      (try rw [hji36] at A22)
                                      (try rw [hji36] at A24)
                                      (try rw [hji36] at A26)
                                      (try rw [hji36] at A30)
                                      have hji36_ : (if (wrap64 (x3_1 - 1)) < 0 then 0 else (wrap64 (x3_1 - 1))) = ji36 := hji36
                                      have H' := Aside0.mk H
                                      clear H
                                      try go_wp2_with (first | ((with_reducible refine gate_callee (f := 16) rfl ?_); refine goesL_ (some 44) rfl rfl Tryd.func16 (by kernel_rfl) rfl #[.int .u8 (bt x0_1 x3_1)] rfl (by (try simp only [List.map_toArray, List.map_cons, List.map_nil]); first | done | rfl | (simp only [List.length_drop, List.length_take]; rfl)) ?_; (with_reducible refine (impl_isMark.calls (bt x0_1 x3_1) true _ A22.out).mono ?_); rintro e w' ⟨rfl, ⟨nd, rfl⟩⟩; refine ⟨_, rfl, ?_⟩) | (go_at_call 16; (with_reducible refine (impl_isMark.calls (bt x0_1 (ji6)) true _ A24.out).mono ?_); rintro e w' ⟨rfl, ⟨nd, rfl⟩⟩) | (go_at_call 29; (with_reducible refine (impl_mergeMarks.calls (bt x0_1 x3_1) (bt x0_1 (ji6)) t203 _ A26.out).mono ?_); rintro e w37 ⟨rfl, hb⟩; have n0_ := Aside0.mk (below_step (by repeat (first | (with_reducible first | exact HB.out | apply below_alloc | apply pw_below_drewN | apply below_drew1) | exact HB.out)) hb); clear HB; have HB := n0_; clear n0_; (try clear hb); (try clear hb2); (try clear hk); (try clear hi)))
                                      have n0_ := Aside0.mk (below_drew1 HB.out)
                                      clear HB
                                      have HB := n0_
                                      clear n0_
                                      refine start_ (n := 13) (S := fun w' => True) (ds := []) #[false, false, false, false, false, false, false, false, false, false, false, false, false] (by kernel_rfl) rfl rfl trivial (fun hHeld => ?_); refine with_tabW impl_cleanText.tab9 impl_cleanText.bits9 (fun HT_ HW_ => ?_)
                                      generalize w37.drew = w38 at HB hHeld ⊢
                                      refine pure_ (i := 0) (N := some 56) (v := ?_) (a' := ?_) #[true, false, false, false, false, false, false, false, false, false, false, false, false] rfl rfl (any_of HT_.out (by kernel_rfl)) (fun _ _ _ h => h) (Or.inl ⟨by rfl, ?_⟩) ?_ ?_
                                      rotate_left
                                      · intro w'
                                        go_simp
                                        with_reducible rfl
                                      rotate_left
                                      · simp only [Act.put, List.setIfInBounds_toArray, List.set_cons_zero, List.set_cons_succ, i64_w, i32_w]
                                        rfl
                                      refine pure_ (i := 1) (N := some 57) (v := ?_) (a' := ?_) #[true, true, false, false, false, false, false, false, false, false, false, false, false] rfl rfl (any_of HT_.out (by kernel_rfl)) (fun _ _ _ h => h) (Or.inl ⟨by rfl, ?_⟩) ?_ ?_
                                      rotate_left
                                      · intro w'
                                        go_simp
                                        with_reducible rfl
                                      rotate_left
                                      · simp only [Act.put, List.setIfInBounds_toArray, List.set_cons_zero, List.set_cons_succ, i64_w, i32_w]
                                        rfl
                                      refine pure_ (i := 2) (N := some 58) (v := ?_) (a' := ?_) #[true, true, true, false, false, false, false, false, false, false, false, false, false] rfl rfl (any_of HT_.out (by kernel_rfl)) (fun _ _ _ h => h) (Or.inl ⟨by rfl, ?_⟩) ?_ ?_
                                      rotate_left
                                      · intro w'
                                        go_simp
                                        with_reducible rfl
                                      rotate_left
                                      · simp only [Act.put, List.setIfInBounds_toArray, List.set_cons_zero, List.set_cons_succ, i64_w, i32_w]
                                        rfl
                                      refine pure_ (i := 3) (N := some 59) (v := ?_) (a' := ?_) #[true, true, true, true, false, false, false, false, false, false, false, false, false] rfl rfl (any_of HT_.out (by kernel_rfl)) (fun _ _ _ h => h) (Or.inl ⟨by rfl, ?_⟩) ?_ ?_
                                      rotate_left
                                      · intro w'
                                        go_simp
                                        with_reducible rfl
                                      rotate_left
                                      · simp only [Act.put, List.setIfInBounds_toArray, List.set_cons_zero, List.set_cons_succ, i64_w, i32_w]
                                        rfl
                                      refine pure_ (i := 4) (N := some 60) (v := ?_) (a' := ?_) #[true, true, true, true, true, false, false, false, false, false, false, false, false] rfl rfl (any_of HT_.out (by kernel_rfl)) (fun _ _ _ h => h) (Or.inl ⟨by rfl, ?_⟩) ?_ ?_
                                      rotate_left
                                      · intro w'
                                        go_simp
                                        with_reducible rfl
                                      rotate_left
                                      · simp only [Act.put, List.setIfInBounds_toArray, List.set_cons_zero, List.set_cons_succ, i64_w, i32_w]
                                        rfl
                                      refine pure_ (i := 7) (N := some 63) (v := ?_) (a' := ?_) #[true, true, true, true, true, false, false, true, false, false, false, false, false] rfl rfl (any_of HT_.out (by kernel_rfl)) (fun _ _ _ h => h) (Or.inl ⟨by rfl, ?_⟩) ?_ ?_
                                      rotate_left
                                      · intro w'
                                        go_simp
                                        with_reducible rfl
                                      rotate_left
                                      · simp only [Act.put, List.setIfInBounds_toArray, List.set_cons_zero, List.set_cons_succ, i64_w, i32_w]
                                        rfl
                                      refine pure_ (i := 8) (N := some 64) (v := ?_) (a' := ?_) #[true, true, true, true, true, false, false, true, true, false, false, false, false] rfl rfl (any_of HT_.out (by kernel_rfl)) (fun _ _ _ h => h) (Or.inl ⟨by rfl, ?_⟩) ?_ ?_
                                      rotate_left
                                      · intro w'
                                        go_simp
                                        with_reducible rfl
                                      rotate_left
                                      · simp only [Act.put, List.setIfInBounds_toArray, List.set_cons_zero, List.set_cons_succ, i64_w, i32_w]
                                        rfl
                                      refine pure_ (i := 9) (N := some 65) (v := ?_) (a' := ?_) #[true, true, true, true, true, false, false, true, true, true, false, false, false] rfl rfl (any_of HT_.out (by kernel_rfl)) (fun _ _ _ h => h) (Or.inl ⟨by rfl, ?_⟩) ?_ ?_
                                      rotate_left
                                      · intro w'
                                        go_simp
                                        with_reducible rfl
                                      rotate_left
                                      · simp only [Act.put, List.setIfInBounds_toArray, List.set_cons_zero, List.set_cons_succ, i64_w, i32_w]
                                        rfl
                                      refine pure_ (i := 10) (N := some 66) (v := ?_) (a' := ?_) #[true, true, true, true, true, false, false, true, true, true, true, false, false] rfl rfl (any_of HT_.out (by kernel_rfl)) (fun _ _ _ h => h) (Or.inl ⟨by rfl, ?_⟩) ?_ ?_
                                      rotate_left
                                      · intro w'
                                        go_simp
                                        with_reducible rfl
                                      rotate_left
                                      · simp only [Act.put, List.setIfInBounds_toArray, List.set_cons_zero, List.set_cons_succ, i64_w, i32_w]
                                        rfl
                                      refine one_ (i := 5) (N := some 61) #[true, true, true, true, true, true, false, true, true, true, true, false, false] rfl rfl (one_of HT_.out (by kernel_rfl)) (by decide) (fun K hK => ?_)
                                      refine goes_ Tryd.func29 (by kernel_rfl) rfl #[.int .u8 (bt x0_1 x3_1), .int .u8 (bt x0_1 (ji6))] (by rfl) rfl rfl (by (try simp only [List.map_toArray, List.map_cons, List.map_nil]); first | done | (simp only [hji6]; rfl) | rfl | (simp only [List.length_drop, List.length_take]; rfl)) ?_
                                      with_reducible refine (impl_mergeMarks.calls (bt x0_1 x3_1) (bt x0_1 (ji6)) t204 _ A30.out).mono ?_
                                      rintro e w39 ⟨rfl, hb⟩
                                      refine ⟨_, rfl, ?_⟩
                                      have n0_ := Aside0.mk (below_step (by repeat (first | (with_reducible first | exact HB.out | apply below_alloc | apply pw_below_drewN | apply below_drew1) | exact HB.out)) hb)
                                      clear HB
                                      have HB := n0_
                                      clear n0_
                                      (try clear hb)
                                      (try clear hb2)
                                      (try clear hk)
                                      (try clear hi)
                                      refine hK.out _ _ trivial (fun hHeld => ?_)
                                      clear hK K
                                      refine norm_ (a' := ?_) ?_ ?_
                                      rotate_left
                                      · show Act.put _ (some 61) _ = _
                                        simp only [Act.put, List.setIfInBounds_toArray, List.set_cons_zero, List.set_cons_succ, i64_w, i32_w]
                                        rfl
                                      refine pure_ (i := 6) (N := some 62) (v := ?_) (a' := ?_) #[true, true, true, true, true, true, true, true, true, true, true, false, false] rfl rfl (any_of HT_.out (by kernel_rfl)) (fun _ _ _ h => h) (Or.inl ⟨by rfl, ?_⟩) ?_ ?_
                                      rotate_left
                                      · intro w'
                                        go_simp
                                        with_reducible rfl
                                      rotate_left
                                      · simp only [Act.put, List.setIfInBounds_toArray, List.set_cons_zero, List.set_cons_succ, i64_w, i32_w]
                                        rfl
                                      refine pure_ (i := 11) (N := some 67) (v := ?_) (a' := ?_) #[true, true, true, true, true, true, true, true, true, true, true, true, false] rfl rfl (any_of HT_.out (by kernel_rfl)) (fun _ _ _ h => h) (Or.inl ⟨by rfl, ?_⟩) ?_ ?_
                                      rotate_left
                                      · intro w'
                                        go_simp
                                        with_reducible rfl
                                      rotate_left
                                      · simp only [Act.put, List.setIfInBounds_toArray, List.set_cons_zero, List.set_cons_succ, i64_w, i32_w]
                                        rfl
                                      refine pure_ (i := 12) (N := some 0) (v := ?_) (a' := ?_) #[true, true, true, true, true, true, true, true, true, true, true, true, true] rfl rfl (any_of HT_.out (by kernel_rfl)) (fun _ _ _ h => h) (Or.inl ⟨by rfl, ?_⟩) ?_ ?_
                                      rotate_left
                                      · intro w'
                                        go_simp
                                        with_reducible rfl
                                      rotate_left
                                      · simp only [Act.put, List.setIfInBounds_toArray, List.set_cons_zero, List.set_cons_succ, i64_w, i32_w]
                                        rfl
                                      refine done_ (done_of HT_.out (by kernel_rfl)) ?_
                                      try go_wp2
                                      go_roundg kj8
                                      case measure => have := HK1.out; have := HJ8.out; omega
                                      case rel => exact ⟨(((x0_1.extract 0 (x3_1 : Int).toNat) ++ t204) ++ (x0_1.extract ((ji32) : Int).toNat x0_1.size)), (ji36), (by first | rfl | (simp; done) | (simp only [← hji32] <;> (first | rfl | simp)) | (simp [*]; done)), (by first | rfl | (simp; done) | (simp only [← hji36] <;> (first | rfl | simp)) | (simp [*]; done)), H', ⟨by have := HK1.out; have := HJ8.out; omega⟩, ⟨by repeat (first | (with_reducible first | exact HB.out | apply below_alloc | apply pw_below_drewN | apply below_drew1) | exact HB.out)⟩⟩
                                    · rw [if_neg c35] at H
                                      exact absurd H (by simp)
                                  · rw [if_neg c34] at H
                                    exact absurd H (by simp)
                                · rw [if_neg c33] at H
                                  exact absurd H (by simp)
                              · rw [if_neg c31] at H
                                exact absurd H (by simp)
                            · rw [if_neg c29] at H
                              exact absurd H (by simp)
                          · rw [if_neg c28] at H
                            exact absurd H (by simp)
                        · rw [if_neg c27] at H
                          have c27b0 : ((t203.size : Int) == 1) = false := beq_eq_false_iff_ne.mpr c27
                          have c27b1 : ((t203.size : Int) != 1) = true := bne_iff_ne.mpr c27
                          have H' := Aside0.mk H
                          clear H
                          go_wp2_with (first | ((with_reducible refine gate_callee (f := 16) rfl ?_); refine goesL_ (some 44) rfl rfl Tryd.func16 (by kernel_rfl) rfl #[.int .u8 (bt x0_1 x3_1)] rfl (by (try simp only [List.map_toArray, List.map_cons, List.map_nil]); first | done | rfl | (simp only [List.length_drop, List.length_take]; rfl)) ?_; (with_reducible refine (impl_isMark.calls (bt x0_1 x3_1) true _ A22.out).mono ?_); rintro e w' ⟨rfl, ⟨nd, rfl⟩⟩; refine ⟨_, rfl, ?_⟩) | (go_at_call 16; (with_reducible refine (impl_isMark.calls (bt x0_1 (ji6)) true _ A24.out).mono ?_); rintro e w' ⟨rfl, ⟨nd, rfl⟩⟩) | (go_at_call 29; (with_reducible refine (impl_mergeMarks.calls (bt x0_1 x3_1) (bt x0_1 (ji6)) t203 _ A26.out).mono ?_); rintro e w40 ⟨rfl, hb⟩; have n0_ := Aside0.mk (below_step (by repeat (first | (with_reducible first | exact HB.out | apply below_alloc | apply pw_below_drewN | apply below_drew1) | exact HB.out)) hb); clear HB; have HB := n0_; clear n0_; (try clear hb); (try clear hb2); (try clear hk); (try clear hi)))
                          go_roundg kj8
                          case measure => have := HK1.out; have := HJ8.out; omega
                          case rel => exact ⟨(x0_1), (wrap64 (x3_1 + 1)), (by first | rfl | (simp; done) | (simp [*]; done)), (by first | rfl | (simp; done) | (simp [*]; done)), H', ⟨by have := HK1.out; have := HJ8.out; omega⟩, ⟨by repeat (first | (with_reducible first | exact HB.out | apply below_alloc | apply pw_below_drewN | apply below_drew1) | exact HB.out)⟩⟩
                      · replace c25 := Bool.eq_false_iff.mpr c25
                        subst c25
                        have H1 : (impl_cleanText.l0 kj8 x0_1 (wrap64 (x3_1 + 1))) = some r := by rw [if_neg (show ¬ (false = true) by decide)] at H; exact H
                        clear H
                        have H := H1
                        clear H1
                        have H' := Aside0.mk H
                        clear H
                        go_wp2_with (first | ((with_reducible refine gate_callee (f := 16) rfl ?_); refine goesL_ (some 44) rfl rfl Tryd.func16 (by kernel_rfl) rfl #[.int .u8 (bt x0_1 x3_1)] rfl (by (try simp only [List.map_toArray, List.map_cons, List.map_nil]); first | done | rfl | (simp only [List.length_drop, List.length_take]; rfl)) ?_; (with_reducible refine (impl_isMark.calls (bt x0_1 x3_1) true _ A22.out).mono ?_); rintro e w' ⟨rfl, ⟨nd, rfl⟩⟩; refine ⟨_, rfl, ?_⟩) | (go_at_call 16; (with_reducible refine (impl_isMark.calls (bt x0_1 (ji6)) false _ A24.out).mono ?_); rintro e w' ⟨rfl, ⟨nd, rfl⟩⟩))
                        go_roundg kj8
                        case measure => have := HK1.out; have := HJ8.out; omega
                        case rel => exact ⟨(x0_1), (wrap64 (x3_1 + 1)), (by first | rfl | (simp; done) | (simp [*]; done)), (by first | rfl | (simp; done) | (simp [*]; done)), H', ⟨by have := HK1.out; have := HJ8.out; omega⟩, ⟨by repeat (first | (with_reducible first | exact HB.out | apply below_alloc | apply pw_below_drewN | apply below_drew1) | exact HB.out)⟩⟩
                    · replace c23 := Bool.eq_false_iff.mpr c23
                      subst c23
                      have H1 : (impl_cleanText.l0 kj8 x0_1 (wrap64 (x3_1 + 1))) = some r := by rw [if_neg (show ¬ (false = true) by decide)] at H; exact H
                      clear H
                      have H := H1
                      clear H1
                      have H' := Aside0.mk H
                      clear H
                      go_wp2_with (first | ((with_reducible refine gate_callee (f := 16) rfl ?_); refine goesL_ (some 44) rfl rfl Tryd.func16 (by kernel_rfl) rfl #[.int .u8 (bt x0_1 x3_1)] rfl (by (try simp only [List.map_toArray, List.map_cons, List.map_nil]); first | done | rfl | (simp only [List.length_drop, List.length_take]; rfl)) ?_; (with_reducible refine (impl_isMark.calls (bt x0_1 x3_1) false _ A22.out).mono ?_); rintro e w' ⟨rfl, ⟨nd, rfl⟩⟩; refine ⟨_, rfl, ?_⟩))
                      go_roundg kj8
                      case measure => have := HK1.out; have := HJ8.out; omega
                      case rel => exact ⟨(x0_1), (wrap64 (x3_1 + 1)), (by first | rfl | (simp; done) | (simp [*]; done)), (by first | rfl | (simp; done) | (simp [*]; done)), H', ⟨by have := HK1.out; have := HJ8.out; omega⟩, ⟨by repeat (first | (with_reducible first | exact HB.out | apply below_alloc | apply pw_below_drewN | apply below_drew1) | exact HB.out)⟩⟩
            · rw [if_neg c7] at H
              exact absurd H (by simp)
          · rw [if_neg c4] at H
            exact absurd H (by simp)
        · rw [if_neg c3] at H
          exact absurd H (by simp)
      · rw [if_neg c2] at H
        have c2b0 : decide ((wrap64 (x3_1 + 1)) < (x0_1.size : Int)) = false := decide_eq_false c2
        clear c2
        replace H := Option.bind_eq_some_iff.mp H
        obtain ⟨t199, A410, H⟩ := H
        replace H : (some t199) = some r := H
        have A41 := Aside0.mk A410
        clear A410
        obtain rfl := Option.some.inj H
        go_wp2_with (first | ((with_reducible refine gate_callee (f := 19) rfl ?_); refine goesL_ (some 72) rfl rfl Tryd.func19 (by kernel_rfl) rfl #[.string x0_1, .string (⟨#[32]⟩ : ByteArray)] rfl (by (try simp only [List.map_toArray, List.map_cons, List.map_nil]); first | done | rfl | (simp only [List.length_drop, List.length_take]; rfl)) ?_; (with_reducible refine (strings_Trim.calls k1 x0_1 (⟨#[32]⟩ : ByteArray) t199 _ A41.out).mono ?_); rintro e w' ⟨rfl, ⟨nd, rfl⟩⟩; refine ⟨_, rfl, ?_⟩))
        go_ret
        exact ⟨by first | rfl | (simp [errW_none, errW_some] <;> rfl) | (simp [*, errW_none, errW_some] <;> rfl), by repeat (first | (with_reducible first | exact HB.out | apply below_alloc | apply pw_below_drewN | apply below_drew1) | exact HB.out)⟩

end Go.Proofs.YtciminppeclofaaDoor.Px
