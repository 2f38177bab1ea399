/- That calls of Go functions come to what the Lean functions beside them say; written by a program of this session (wip/xprint) over the printed words; no conditions. -/
import Derived.Test.YtilchcponlgmjaaDoorPx0
import Derived.Test.YtilchcponlgmjaaDoorPx16
namespace Go.Proofs.YtilchcponlgmjaaDoor.Px
open Go.RowKit Go.Proofs.YtilchcponlgmjaaDoorW.PrintWords Go.Proofs.YtilchcponlgmjaaDoorW.PrintLast Go.Proofs.YtilchcponlgmjaaDoorW.PrintMore
attribute [local go_sem] max2_int min2_int max_two min_two max_three min_three max_four min_four   -- for this text's walks alone
set_option linter.unusedVariables false
set_option linter.unusedSimpArgs false

/-! ### impl_isMinor: function 50 -/
def impl_isMinor.f (a0 : ByteArray) : Option (Bool) := if a0.toList = ([97] : List UInt8) then (some true) else (if a0.toList = ([97, 110] : List UInt8) then (some true) else (if a0.toList = ([97, 110, 100] : List UInt8) then (some true) else (if a0.toList = ([97, 115] : List UInt8) then (some true) else (if a0.toList = ([97, 116] : List UInt8) then (some true) else (if a0.toList = ([98, 117, 116] : List UInt8) then (some true) else (if a0.toList = ([98, 121] : List UInt8) then (some true) else (if a0.toList = ([102, 111, 114] : List UInt8) then (some true) else (if a0.toList = ([102, 114, 111, 109] : List UInt8) then (some true) else (if a0.toList = ([105, 110] : List UInt8) then (some true) else (if a0.toList = ([111, 102] : List UInt8) then (some true) else (if a0.toList = ([111, 110] : List UInt8) then (some true) else (if a0.toList = ([111, 114] : List UInt8) then (some true) else (if a0.toList = ([116, 104, 101] : List UInt8) then (some true) else (if a0.toList = ([116, 111] : List UInt8) then (some true) else (if a0.toList = ([119, 105, 116, 104] : List UInt8) then (some true) else (some false))))))))))))))))
set_option maxHeartbeats 8000000 in
set_option maxRecDepth 100000 in
theorem impl_isMinor.calls (a0 : ByteArray) (r : Bool) (w : World) (h : impl_isMinor.f a0 = some r) :
    Calls Tryd.prog 50 #[.string a0] w fun e w' => e = .returned (.bool r) ∧ Drawn0 w w' := by
  have H : (if a0.toList = ([97] : List UInt8) then (some true) else (if a0.toList = ([97, 110] : List UInt8) then (some true) else (if a0.toList = ([97, 110, 100] : List UInt8) then (some true) else (if a0.toList = ([97, 115] : List UInt8) then (some true) else (if a0.toList = ([97, 116] : List UInt8) then (some true) else (if a0.toList = ([98, 117, 116] : List UInt8) then (some true) else (if a0.toList = ([98, 121] : List UInt8) then (some true) else (if a0.toList = ([102, 111, 114] : List UInt8) then (some true) else (if a0.toList = ([102, 114, 111, 109] : List UInt8) then (some true) else (if a0.toList = ([105, 110] : List UInt8) then (some true) else (if a0.toList = ([111, 102] : List UInt8) then (some true) else (if a0.toList = ([111, 110] : List UInt8) then (some true) else (if a0.toList = ([111, 114] : List UInt8) then (some true) else (if a0.toList = ([116, 104, 101] : List UInt8) then (some true) else (if a0.toList = ([116, 111] : List UInt8) then (some true) else (if a0.toList = ([119, 105, 116, 104] : List UInt8) then (some true) else (some false))))))))))))))))) = some r := h
  clear h
  by_cases c2 : a0.toList = ([97] : List UInt8)
  · rw [if_pos c2] at H
    have c2b0 : (a0.toList == ([97] : List UInt8)) = true := beq_iff_eq.mpr c2
    have c2b1 : (a0.toList != ([97] : List UInt8)) = false := bne_eq_false_iff_eq.mpr c2
    clear c2
    obtain rfl := Option.some.inj H
    go_enter Tryd.func50, Tryd.ntmps50
    go_wp2
    go_ret
    exact ⟨by first | rfl | (simp; done) | (simp [*]; done), by repeat (first | exact Drawn0.refl _ | apply Drawn0.step)⟩
  · rw [if_neg c2] at H
    have c2b0 : (a0.toList == ([97] : List UInt8)) = false := beq_eq_false_iff_ne.mpr c2
    have c2b1 : (a0.toList != ([97] : List UInt8)) = true := bne_iff_ne.mpr c2
    by_cases c3 : a0.toList = ([97, 110] : List UInt8)
    · rw [if_pos c3] at H
      have c3b0 : (a0.toList == ([97, 110] : List UInt8)) = true := beq_iff_eq.mpr c3
      have c3b1 : (a0.toList != ([97, 110] : List UInt8)) = false := bne_eq_false_iff_eq.mpr c3
      clear c3
      obtain rfl := Option.some.inj H
      go_enter Tryd.func50, Tryd.ntmps50
      go_wp2
      go_ret
      exact ⟨by first | rfl | (simp; done) | (simp [*]; done), by repeat (first | exact Drawn0.refl _ | apply Drawn0.step)⟩
    · rw [if_neg c3] at H
      have c3b0 : (a0.toList == ([97, 110] : List UInt8)) = false := beq_eq_false_iff_ne.mpr c3
      have c3b1 : (a0.toList != ([97, 110] : List UInt8)) = true := bne_iff_ne.mpr c3
      by_cases c4 : a0.toList = ([97, 110, 100] : List UInt8)
      · rw [if_pos c4] at H
        have c4b0 : (a0.toList == ([97, 110, 100] : List UInt8)) = true := beq_iff_eq.mpr c4
        have c4b1 : (a0.toList != ([97, 110, 100] : List UInt8)) = false := bne_eq_false_iff_eq.mpr c4
        clear c4
        obtain rfl := Option.some.inj H
        go_enter Tryd.func50, Tryd.ntmps50
        go_wp2
        go_ret
        exact ⟨by first | rfl | (simp; done) | (simp [*]; done), by repeat (first | exact Drawn0.refl _ | apply Drawn0.step)⟩
      · rw [if_neg c4] at H
        have c4b0 : (a0.toList == ([97, 110, 100] : List UInt8)) = false := beq_eq_false_iff_ne.mpr c4
        have c4b1 : (a0.toList != ([97, 110, 100] : List UInt8)) = true := bne_iff_ne.mpr c4
        by_cases c5 : a0.toList = ([97, 115] : List UInt8)
        · rw [if_pos c5] at H
          have c5b0 : (a0.toList == ([97, 115] : List UInt8)) = true := beq_iff_eq.mpr c5
          have c5b1 : (a0.toList != ([97, 115] : List UInt8)) = false := bne_eq_false_iff_eq.mpr c5
          clear c5
          obtain rfl := Option.some.inj H
          go_enter Tryd.func50, Tryd.ntmps50
          go_wp2
          go_ret
          exact ⟨by first | rfl | (simp; done) | (simp [*]; done), by repeat (first | exact Drawn0.refl _ | apply Drawn0.step)⟩
        · rw [if_neg c5] at H
          have c5b0 : (a0.toList == ([97, 115] : List UInt8)) = false := beq_eq_false_iff_ne.mpr c5
          have c5b1 : (a0.toList != ([97, 115] : List UInt8)) = true := bne_iff_ne.mpr c5
          by_cases c6 : a0.toList = ([97, 116] : List UInt8)
          · rw [if_pos c6] at H
            have c6b0 : (a0.toList == ([97, 116] : List UInt8)) = true := beq_iff_eq.mpr c6
            have c6b1 : (a0.toList != ([97, 116] : List UInt8)) = false := bne_eq_false_iff_eq.mpr c6
            clear c6
            obtain rfl := Option.some.inj H
            go_enter Tryd.func50, Tryd.ntmps50
            go_wp2
            go_ret
            exact ⟨by first | rfl | (simp; done) | (simp [*]; done), by repeat (first | exact Drawn0.refl _ | apply Drawn0.step)⟩
          · rw [if_neg c6] at H
            have c6b0 : (a0.toList == ([97, 116] : List UInt8)) = false := beq_eq_false_iff_ne.mpr c6
            have c6b1 : (a0.toList != ([97, 116] : List UInt8)) = true := bne_iff_ne.mpr c6
            by_cases c7 : a0.toList = ([98, 117, 116] : List UInt8)
            · rw [if_pos c7] at H
              have c7b0 : (a0.toList == ([98, 117, 116] : List UInt8)) = true := beq_iff_eq.mpr c7
              have c7b1 : (a0.toList != ([98, 117, 116] : List UInt8)) = false := bne_eq_false_iff_eq.mpr c7
              clear c7
              obtain rfl := Option.some.inj H
              go_enter Tryd.func50, Tryd.ntmps50
              go_wp2
              go_ret
              exact ⟨by first | rfl | (simp; done) | (simp [*]; done), by repeat (first | exact Drawn0.refl _ | apply Drawn0.step)⟩
            · rw [if_neg c7] at H
              have c7b0 : (a0.toList == ([98, 117, 116] : List UInt8)) = false := beq_eq_false_iff_ne.mpr c7
              have c7b1 : (a0.toList != ([98, 117, 116] : List UInt8)) = true := bne_iff_ne.mpr c7
              by_cases c8 : a0.toList = ([98, 121] : List UInt8)
              · rw [if_pos c8] at H
                have c8b0 : (a0.toList == ([98, 121] : List UInt8)) = true := beq_iff_eq.mpr c8
                have c8b1 : (a0.toList != ([98, 121] : List UInt8)) = false := bne_eq_false_iff_eq.mpr c8
                clear c8
                obtain rfl := Option.some.inj H
                go_enter Tryd.func50, Tryd.ntmps50
                go_wp2
                go_ret
                exact ⟨by first | rfl | (simp; done) | (simp [*]; done), by repeat (first | exact Drawn0.refl _ | apply Drawn0.step)⟩
              · rw [if_neg c8] at H
                have c8b0 : (a0.toList == ([98, 121] : List UInt8)) = false := beq_eq_false_iff_ne.mpr c8
                have c8b1 : (a0.toList != ([98, 121] : List UInt8)) = true := bne_iff_ne.mpr c8
                by_cases c9 : a0.toList = ([102, 111, 114] : List UInt8)
                · rw [if_pos c9] at H
                  have c9b0 : (a0.toList == ([102, 111, 114] : List UInt8)) = true := beq_iff_eq.mpr c9
                  have c9b1 : (a0.toList != ([102, 111, 114] : List UInt8)) = false := bne_eq_false_iff_eq.mpr c9
                  clear c9
                  obtain rfl := Option.some.inj H
                  go_enter Tryd.func50, Tryd.ntmps50
                  go_wp2
                  go_ret
                  exact ⟨by first | rfl | (simp; done) | (simp [*]; done), by repeat (first | exact Drawn0.refl _ | apply Drawn0.step)⟩
                · rw [if_neg c9] at H
                  have c9b0 : (a0.toList == ([102, 111, 114] : List UInt8)) = false := beq_eq_false_iff_ne.mpr c9
                  have c9b1 : (a0.toList != ([102, 111, 114] : List UInt8)) = true := bne_iff_ne.mpr c9
                  by_cases c10 : a0.toList = ([102, 114, 111, 109] : List UInt8)
                  · rw [if_pos c10] at H
                    have c10b0 : (a0.toList == ([102, 114, 111, 109] : List UInt8)) = true := beq_iff_eq.mpr c10
                    have c10b1 : (a0.toList != ([102, 114, 111, 109] : List UInt8)) = false := bne_eq_false_iff_eq.mpr c10
                    clear c10
                    obtain rfl := Option.some.inj H
                    go_enter Tryd.func50, Tryd.ntmps50
                    go_wp2
                    go_ret
                    exact ⟨by first | rfl | (simp; done) | (simp [*]; done), by repeat (first | exact Drawn0.refl _ | apply Drawn0.step)⟩
                  · rw [if_neg c10] at H
                    have c10b0 : (a0.toList == ([102, 114, 111, 109] : List UInt8)) = false := beq_eq_false_iff_ne.mpr c10
                    have c10b1 : (a0.toList != ([102, 114, 111, 109] : List UInt8)) = true := bne_iff_ne.mpr c10
                    by_cases c11 : a0.toList = ([105, 110] : List UInt8)
                    · rw [if_pos c11] at H
                      have c11b0 : (a0.toList == ([105, 110] : List UInt8)) = true := beq_iff_eq.mpr c11
                      have c11b1 : (a0.toList != ([105, 110] : List UInt8)) = false := bne_eq_false_iff_eq.mpr c11
                      clear c11
                      obtain rfl := Option.some.inj H
                      go_enter Tryd.func50, Tryd.ntmps50
                      go_wp2
                      go_ret
                      exact ⟨by first | rfl | (simp; done) | (simp [*]; done), by repeat (first | exact Drawn0.refl _ | apply Drawn0.step)⟩
                    · rw [if_neg c11] at H
                      have c11b0 : (a0.toList == ([105, 110] : List UInt8)) = false := beq_eq_false_iff_ne.mpr c11
                      have c11b1 : (a0.toList != ([105, 110] : List UInt8)) = true := bne_iff_ne.mpr c11
                      by_cases c12 : a0.toList = ([111, 102] : List UInt8)
                      · rw [if_pos c12] at H
                        have c12b0 : (a0.toList == ([111, 102] : List UInt8)) = true := beq_iff_eq.mpr c12
                        have c12b1 : (a0.toList != ([111, 102] : List UInt8)) = false := bne_eq_false_iff_eq.mpr c12
                        clear c12
                        obtain rfl := Option.some.inj H
                        go_enter Tryd.func50, Tryd.ntmps50
                        go_wp2
                        go_ret
                        exact ⟨by first | rfl | (simp; done) | (simp [*]; done), by repeat (first | exact Drawn0.refl _ | apply Drawn0.step)⟩
                      · rw [if_neg c12] at H
                        have c12b0 : (a0.toList == ([111, 102] : List UInt8)) = false := beq_eq_false_iff_ne.mpr c12
                        have c12b1 : (a0.toList != ([111, 102] : List UInt8)) = true := bne_iff_ne.mpr c12
                        by_cases c13 : a0.toList = ([111, 110] : List UInt8)
                        · rw [if_pos c13] at H
                          have c13b0 : (a0.toList == ([111, 110] : List UInt8)) = true := beq_iff_eq.mpr c13
                          have c13b1 : (a0.toList != ([111, 110] : List UInt8)) = false := bne_eq_false_iff_eq.mpr c13
                          clear c13
                          obtain rfl := Option.some.inj H
                          go_enter Tryd.func50, Tryd.ntmps50
                          go_wp2
                          go_ret
                          exact ⟨by first | rfl | (simp; done) | (simp [*]; done), by repeat (first | exact Drawn0.refl _ | apply Drawn0.step)⟩
                        · rw [if_neg c13] at H
                          have c13b0 : (a0.toList == ([111, 110] : List UInt8)) = false := beq_eq_false_iff_ne.mpr c13
                          have c13b1 : (a0.toList != ([111, 110] : List UInt8)) = true := bne_iff_ne.mpr c13
                          by_cases c14 : a0.toList = ([111, 114] : List UInt8)
                          · rw [if_pos c14] at H
                            have c14b0 : (a0.toList == ([111, 114] : List UInt8)) = true := beq_iff_eq.mpr c14
                            have c14b1 : (a0.toList != ([111, 114] : List UInt8)) = false := bne_eq_false_iff_eq.mpr c14
                            clear c14
                            obtain rfl := Option.some.inj H
                            go_enter Tryd.func50, Tryd.ntmps50
                            go_wp2
                            go_ret
                            exact ⟨by first | rfl | (simp; done) | (simp [*]; done), by repeat (first | exact Drawn0.refl _ | apply Drawn0.step)⟩
                          · rw [if_neg c14] at H
                            have c14b0 : (a0.toList == ([111, 114] : List UInt8)) = false := beq_eq_false_iff_ne.mpr c14
                            have c14b1 : (a0.toList != ([111, 114] : List UInt8)) = true := bne_iff_ne.mpr c14
                            by_cases c15 : a0.toList = ([116, 104, 101] : List UInt8)
                            · rw [if_pos c15] at H
                              have c15b0 : (a0.toList == ([116, 104, 101] : List UInt8)) = true := beq_iff_eq.mpr c15
                              have c15b1 : (a0.toList != ([116, 104, 101] : List UInt8)) = false := bne_eq_false_iff_eq.mpr c15
                              clear c15
                              obtain rfl := Option.some.inj H
                              go_enter Tryd.func50, Tryd.ntmps50
                              go_wp2
                              go_ret
                              exact ⟨by first | rfl | (simp; done) | (simp [*]; done), by repeat (first | exact Drawn0.refl _ | apply Drawn0.step)⟩
                            · rw [if_neg c15] at H
                              have c15b0 : (a0.toList == ([116, 104, 101] : List UInt8)) = false := beq_eq_false_iff_ne.mpr c15
                              have c15b1 : (a0.toList != ([116, 104, 101] : List UInt8)) = true := bne_iff_ne.mpr c15
                              by_cases c16 : a0.toList = ([116, 111] : List UInt8)
                              · rw [if_pos c16] at H
                                have c16b0 : (a0.toList == ([116, 111] : List UInt8)) = true := beq_iff_eq.mpr c16
                                have c16b1 : (a0.toList != ([116, 111] : List UInt8)) = false := bne_eq_false_iff_eq.mpr c16
                                clear c16
                                obtain rfl := Option.some.inj H
                                go_enter Tryd.func50, Tryd.ntmps50
                                go_wp2
                                go_ret
                                exact ⟨by first | rfl | (simp; done) | (simp [*]; done), by repeat (first | exact Drawn0.refl _ | apply Drawn0.step)⟩
                              · rw [if_neg c16] at H
                                have c16b0 : (a0.toList == ([116, 111] : List UInt8)) = false := beq_eq_false_iff_ne.mpr c16
                                have c16b1 : (a0.toList != ([116, 111] : List UInt8)) = true := bne_iff_ne.mpr c16
                                by_cases c17 : a0.toList = ([119, 105, 116, 104] : List UInt8)
                                · rw [if_pos c17] at H
                                  have c17b0 : (a0.toList == ([119, 105, 116, 104] : List UInt8)) = true := beq_iff_eq.mpr c17
                                  have c17b1 : (a0.toList != ([119, 105, 116, 104] : List UInt8)) = false := bne_eq_false_iff_eq.mpr c17
                                  clear c17
                                  obtain rfl := Option.some.inj H
                                  go_enter Tryd.func50, Tryd.ntmps50
                                  go_wp2
                                  go_ret
                                  exact ⟨by first | rfl | (simp; done) | (simp [*]; done), by repeat (first | exact Drawn0.refl _ | apply Drawn0.step)⟩
                                · rw [if_neg c17] at H
                                  have c17b0 : (a0.toList == ([119, 105, 116, 104] : List UInt8)) = false := beq_eq_false_iff_ne.mpr c17
                                  have c17b1 : (a0.toList != ([119, 105, 116, 104] : List UInt8)) = true := bne_iff_ne.mpr c17
                                  obtain rfl := Option.some.inj H
                                  go_enter Tryd.func50, Tryd.ntmps50
                                  go_wp2
                                  go_ret
                                  exact ⟨by first | rfl | (simp; done) | (simp [*]; done), by repeat (first | exact Drawn0.refl _ | apply Drawn0.step)⟩

/-! ### impl_lower: function 51 -/
/-- A letter in lower case. -/
def impl_lower.isU (b : Int) : Bool := decide (b ≥ 65) && decide (b ≤ 90)
def impl_lower.low (b : Int) : Int := if impl_lower.isU b = true then b + 32 else b
def impl_lower.f (a0 : ByteArray) : Option (ByteArray) := if a0.size ≤ 140737488351232 then some (strOfNums ((bytesOf a0).map impl_lower.low)) else none
theorem impl_lower.isU_eq (b : Int) : impl_isUpper.f b = some (impl_lower.isU b) := by
  unfold impl_isUpper.f impl_lower.isU
  by_cases h : b ≥ 65
  · rw [if_pos h, decide_eq_true h]; rfl
  · rw [if_neg h, decide_eq_false h]; rfl
/-- The row half way. -/
def impl_lower.half (l : List Int) (j : Nat) : List Int := (l.take j).map impl_lower.low ++ l.drop j
theorem impl_lower.half_len (l : List Int) (j : Nat) : (impl_lower.half l j).length = l.length := by simp [impl_lower.half]; omega
theorem impl_lower.half_at (l : List Int) (j : Nat) (hj : j < l.length) : (impl_lower.half l j).getD j 0 = l.getD j 0 := by
  unfold impl_lower.half
  rw [List.getD_eq_getElem?_getD, List.getElem?_append_right (by simp; omega)]
  simp [List.getD, Nat.min_eq_left (Nat.le_of_lt hj)]
theorem impl_lower.half_next (l : List Int) (j : Nat) (hj : j < l.length) (v : Int) (hv : v = impl_lower.low (l.getD j 0)) : (impl_lower.half l j).set j v = impl_lower.half l (j + 1) := by
  subst hv
  unfold impl_lower.half
  rw [List.set_append_right _ _ (by simp; omega), List.take_succ_eq_append_getElem hj, List.map_append]
  have e : j - (List.map impl_lower.low (List.take j l)).length = 0 := by simp; omega
  have hg : l.getD j 0 = l[j] := by simp [List.getD, List.getElem?_eq_getElem hj]
  rw [e, List.drop_eq_getElem_cons hj, sZ, hg]
  simp only [List.map_cons, List.map_nil, List.append_assoc, List.singleton_append]
theorem impl_lower.half_all (l : List Int) (n : Nat) (hn : l.length = n) : impl_lower.half l n = l.map impl_lower.low := by
  unfold impl_lower.half
  rw [List.take_of_length_le (by omega), List.drop_of_length_le (by omega), List.append_nil]
theorem impl_lower.half_same (l : List Int) (j : Nat) (hj : j < l.length) (hv : impl_lower.low (l.getD j 0) = l.getD j 0) : impl_lower.half l (j + 1) = impl_lower.half l j := by
  have h := impl_lower.half_next l j hj _ hv.symm
  rw [← h]
  apply List.ext_getElem?
  intro i
  by_cases e : j = i
  · subst e
    rw [List.getElem?_set_self (by rw [impl_lower.half_len]; exact hj)]
    have := impl_lower.half_at l j hj
    rw [List.getD_eq_getElem?_getD, List.getElem?_eq_getElem (by rw [impl_lower.half_len]; exact hj)] at this
    rw [List.getElem?_eq_getElem (by rw [impl_lower.half_len]; exact hj)]
    exact congrArg some this.symm
  · rw [List.getElem?_set_ne e]
theorem impl_lower.bytes_lt (s : ByteArray) (j : Nat) : 0 ≤ (bytesOf s).getD j 0 ∧ (bytesOf s).getD j 0 ≤ 255 := by
  have h := rd_bytesOf s (j : Int)
  unfold rd at h
  rw [Int.toNat_natCast] at h
  rw [h]
  exact bt_range s _
set_option maxHeartbeats 4000000 in
set_option maxRecDepth 100000 in
theorem impl_lower.calls (a0 : ByteArray) (r : ByteArray) (w : World) (h : impl_lower.f a0 = some r) :
    Calls Tryd.prog 51 #[.string a0] w fun e w' => e = .returned (.string r) ∧ Below w.heap.size w w' := by
  unfold impl_lower.f at h
  by_cases hs : a0.size ≤ 140737488351232
  · rw [if_pos hs] at h
    obtain rfl := Option.some.inj h
    clear h
    obtain ⟨cap, W1, hconv, hB1, hbel1⟩ := Go.Proofs.YtilchcponlgmjaaDoorW.Buf.conv_buf (P := Tryd.prog) w 9 29 5 a0 Tryd.underlying9 Tryd.underlying29 Tryd.underlying5
    have hlen := bytesOf_length a0
    have HB1 := AM hB1
    have HBEL1 := AM hbel1
    have HLEN := AM hlen
    clear hB1 hbel1 hlen
    go_enter Tryd.func51, Tryd.ntmps51
    go_wp2
    clear hconv
    go_loopw [10] (fun v wr => ∃ j : Nat, j ≤ a0.size ∧ v = .int .i64 j ∧ Aside0 (Go.Proofs.YtilchcponlgmjaaDoorW.Buf.Bf wr w.heap.size 5 (impl_lower.half (bytesOf a0) j)) ∧ Aside0 (Below w.heap.size w wr)) (fun v _ => a0.size - (intOf v).toNat)
    case atStart => exact ⟨0, Nat.zero_le _, rfl, ⟨by simpa [impl_lower.half] using HB1.out⟩, HBEL1⟩
    case round =>
      obtain ⟨j, hj, rfl, HB, HBEL⟩ := hrel
      by_cases hlt : j < a0.size
      · have hjl : j < (bytesOf a0).length := by rw [HLEN.out]; exact hlt
        have hjh : j < (impl_lower.half (bytesOf a0) j).length := by rw [impl_lower.half_len]; exact hjl
        have hcell := HB.out.cell j hjh
        rw [impl_lower.half_at _ _ hjl] at hcell
        have hfroz := HB.out.frozen j hjh
        have hrng := impl_lower.bytes_lt a0 j
        have HN := AM (impl_lower.half_next (bytesOf a0) j hjl)
        have HS := AM (impl_lower.half_same (bytesOf a0) j hjl)
        obtain ⟨b, hbdef⟩ : ∃ b, b = (bytesOf a0).getD j 0 := ⟨_, rfl⟩
        rw [← hbdef] at hcell hrng
        have HBD := AM hbdef
        clear hbdef hjl
        have hb0 := hrng.1
        have hb1 := hrng.2
        clear hrng
        by_cases hu : impl_lower.isU b = true
        · go_wp2_with (go_at_call 74; (with_reducible refine (impl_isUpper.calls b true _ ((impl_lower.isU_eq b).trans (by rw [hu]))).mono ?_); rintro e w' ⟨rfl, ⟨nq, rfl⟩⟩)
          have hv : (b + 97 - 65) % 256 = impl_lower.low ((bytesOf a0).getD j 0) := by
            rw [← HBD.out]
            unfold impl_lower.low
            rw [if_pos hu]
            unfold impl_lower.isU at hu
            have := of_decide_eq_true (Bool.and_eq_true_iff.1 hu).1
            have := of_decide_eq_true (Bool.and_eq_true_iff.1 hu).2
            omega
          refine ⟨⟨j + 1, by omega, by go_num, ⟨?_⟩, ⟨(pw_below_drewN HBEL.out nq).setCell (Nat.le_refl _) _⟩⟩, by simp [intOf]; omega⟩
          rw [← HN.out _ hv]
          exact (HB.out.drewN nq).set j hjh _
        · go_wp2_with (go_at_call 74; (with_reducible refine (impl_isUpper.calls b false _ ((impl_lower.isU_eq b).trans (by rw [Bool.eq_false_iff.mpr hu]))).mono ?_); rintro e w' ⟨rfl, ⟨nq, rfl⟩⟩)
          refine ⟨⟨j + 1, by omega, by go_num, ⟨?_⟩, ⟨pw_below_drewN HBEL.out nq⟩⟩, by simp [intOf]; omega⟩
          rw [HS.out (by rw [← HBD.out]; unfold impl_lower.low; rw [if_neg hu])]
          exact HB.out.drewN nq
      · obtain rfl : j = a0.size := by omega
        have hback := Go.Proofs.YtilchcponlgmjaaDoorW.Buf.conv_back (P := Tryd.prog) HB.out 29 9 a0.size cap ((impl_lower.half_len _ _).trans HLEN.out) Tryd.underlying29 Tryd.underlying9 Tryd.underlying5
        rw [impl_lower.half_all _ _ HLEN.out] at hback
        go_wp2
        go_ret
        exact ⟨rfl, HBEL.out⟩
  · rw [if_neg hs] at h
    cases h

end Go.Proofs.YtilchcponlgmjaaDoor.Px
