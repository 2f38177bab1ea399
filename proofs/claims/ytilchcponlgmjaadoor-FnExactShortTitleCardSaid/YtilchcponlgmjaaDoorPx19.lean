/- That calls of Go functions come to what the Lean functions beside them say; written by a program of this session (wip/xprint) over the printed words; no conditions. -/
import Derived.Test.YtilchcponlgmjaaDoorPx0
import Derived.Test.YtilchcponlgmjaaDoorPx18
namespace Go.Proofs.YtilchcponlgmjaaDoor.Px
open Go.RowKit Go.Proofs.YtilchcponlgmjaaDoorW.PrintWords Go.Proofs.YtilchcponlgmjaaDoorW.PrintLast Go.Proofs.YtilchcponlgmjaaDoorW.PrintMore
attribute [local go_sem] max2_int min2_int max_two min_two max_three min_three max_four min_four   -- for this text's walks alone
set_option linter.unusedVariables false
set_option linter.unusedSimpArgs false

/-! ### spec_l6Minor: function 48 -/
def spec_l6Minor.f (k : Nat) (a0 : ByteArray) : Option (Bool) := (spec_l6Lower.f k a0).bind fun t298 => (if t298.toList = ([97] : List UInt8) then (some true) else (if t298.toList = ([97, 110] : List UInt8) then (some true) else (if t298.toList = ([97, 110, 100] : List UInt8) then (some true) else (if t298.toList = ([97, 115] : List UInt8) then (some true) else (if t298.toList = ([97, 116] : List UInt8) then (some true) else (if t298.toList = ([98, 117, 116] : List UInt8) then (some true) else (if t298.toList = ([98, 121] : List UInt8) then (some true) else (if t298.toList = ([102, 111, 114] : List UInt8) then (some true) else (if t298.toList = ([102, 114, 111, 109] : List UInt8) then (some true) else (if t298.toList = ([105, 110] : List UInt8) then (some true) else (if t298.toList = ([111, 102] : List UInt8) then (some true) else (if t298.toList = ([111, 110] : List UInt8) then (some true) else (if t298.toList = ([111, 114] : List UInt8) then (some true) else (if t298.toList = ([116, 104, 101] : List UInt8) then (some true) else (if t298.toList = ([116, 111] : List UInt8) then (some true) else (if t298.toList = ([119, 105, 116, 104] : List UInt8) then (some true) else (some false)))))))))))))))))
theorem spec_l6Minor.mono : ∀ a0 k, LeO (spec_l6Minor.f k a0) (spec_l6Minor.f (k + 1) a0) := by
  intro a0 k
  unfold spec_l6Minor.f
  repeat' first
      | (with_reducible exact spec_l6Lower.mono _ _)
      | (with_reducible exact LeO.refl _)
      | (with_reducible exact LeO.none _)
      | (with_reducible refine LeO.ite ?_ ?_)
      | (with_reducible refine LeO.bind ?_ (fun _ => ?_))
      | exact spec_l6Lower.mono _ _
      | exact LeO.none _
      | refine LeO.ite ?_ ?_
      | refine LeO.bind ?_ (fun _ => ?_)
set_option maxHeartbeats 8000000 in
set_option maxRecDepth 100000 in
theorem spec_l6Minor.calls (k : Nat) (a0 : ByteArray) (r : Bool) (w : World) (h : spec_l6Minor.f k a0 = some r) :
    Calls Tryd.prog 48 #[.string a0] w fun e w' => e = .returned (.bool r) ∧ Below w.heap.size w w' := by
  have HB := AM (Below.refl w.heap.size w)
  have H : ((spec_l6Lower.f k a0).bind fun t298 => (if t298.toList = ([97] : List UInt8) then (some true) else (if t298.toList = ([97, 110] : List UInt8) then (some true) else (if t298.toList = ([97, 110, 100] : List UInt8) then (some true) else (if t298.toList = ([97, 115] : List UInt8) then (some true) else (if t298.toList = ([97, 116] : List UInt8) then (some true) else (if t298.toList = ([98, 117, 116] : List UInt8) then (some true) else (if t298.toList = ([98, 121] : List UInt8) then (some true) else (if t298.toList = ([102, 111, 114] : List UInt8) then (some true) else (if t298.toList = ([102, 114, 111, 109] : List UInt8) then (some true) else (if t298.toList = ([105, 110] : List UInt8) then (some true) else (if t298.toList = ([111, 102] : List UInt8) then (some true) else (if t298.toList = ([111, 110] : List UInt8) then (some true) else (if t298.toList = ([111, 114] : List UInt8) then (some true) else (if t298.toList = ([116, 104, 101] : List UInt8) then (some true) else (if t298.toList = ([116, 111] : List UInt8) then (some true) else (if t298.toList = ([119, 105, 116, 104] : List UInt8) then (some true) else (some false)))))))))))))))))) = some r := h
  clear h
  replace H := Option.bind_eq_some_iff.mp H
  obtain ⟨t298, A20, H⟩ := H
  replace H : (if t298.toList = ([97] : List UInt8) then (some true) else (if t298.toList = ([97, 110] : List UInt8) then (some true) else (if t298.toList = ([97, 110, 100] : List UInt8) then (some true) else (if t298.toList = ([97, 115] : List UInt8) then (some true) else (if t298.toList = ([97, 116] : List UInt8) then (some true) else (if t298.toList = ([98, 117, 116] : List UInt8) then (some true) else (if t298.toList = ([98, 121] : List UInt8) then (some true) else (if t298.toList = ([102, 111, 114] : List UInt8) then (some true) else (if t298.toList = ([102, 114, 111, 109] : List UInt8) then (some true) else (if t298.toList = ([105, 110] : List UInt8) then (some true) else (if t298.toList = ([111, 102] : List UInt8) then (some true) else (if t298.toList = ([111, 110] : List UInt8) then (some true) else (if t298.toList = ([111, 114] : List UInt8) then (some true) else (if t298.toList = ([116, 104, 101] : List UInt8) then (some true) else (if t298.toList = ([116, 111] : List UInt8) then (some true) else (if t298.toList = ([119, 105, 116, 104] : List UInt8) then (some true) else (some false))))))))))))))))) = some r := H
  have A2 := AM A20
  clear A20
  by_cases c3 : t298.toList = ([97] : List UInt8)
  · rw [if_pos c3] at H
    have c3b0 : (t298.toList == ([97] : List UInt8)) = true := beq_iff_eq.mpr c3
    have c3b1 : (t298.toList != ([97] : List UInt8)) = false := bne_eq_false_iff_eq.mpr c3
    clear c3
    obtain rfl := Option.some.inj H
    go_enter Tryd.func48, Tryd.ntmps48
    go_wp2_with (first | ((with_reducible refine gate_callee (f := 49) rfl ?_); refine goesL_ (some 4) rfl rfl Tryd.func49 (by kernel_rfl) rfl #[.string a0] rfl (by (try simp only [List.map_toArray, List.map_cons, List.map_nil]); first | done | rfl | (simp only [List.length_drop, List.length_take]; rfl)) ?_; (with_reducible refine (spec_l6Lower.calls k a0 t298 _ A2.out).mono ?_); rintro e w4 ⟨rfl, hb⟩; refine ⟨_, rfl, ?_⟩; have n0_ := AM (below_step (by repeat (first | (with_reducible first | exact HB.out | apply below_alloc | apply pw_below_drewN | apply below_drew1) | exact HB.out)) hb); clear HB; have HB := n0_; clear n0_; (try clear hb); (try clear hb2); (try clear hk); (try clear hi)))
    go_ret
    exact ⟨by first | rfl | (simp [errW_none, errW_some] <;> rfl) | (simp [*, errW_none, errW_some] <;> rfl) | (simp [errW_none, errW_some] <;> (apply Bool.eq_iff_iff.2; simp [List.isEmpty_iff])), by repeat (first | (with_reducible first | exact HB.out | apply below_alloc | apply pw_below_drewN | apply below_drew1) | exact HB.out)⟩
  · rw [if_neg c3] at H
    have c3b0 : (t298.toList == ([97] : List UInt8)) = false := beq_eq_false_iff_ne.mpr c3
    have c3b1 : (t298.toList != ([97] : List UInt8)) = true := bne_iff_ne.mpr c3
    by_cases c5 : t298.toList = ([97, 110] : List UInt8)
    · rw [if_pos c5] at H
      have c5b0 : (t298.toList == ([97, 110] : List UInt8)) = true := beq_iff_eq.mpr c5
      have c5b1 : (t298.toList != ([97, 110] : List UInt8)) = false := bne_eq_false_iff_eq.mpr c5
      clear c5
      obtain rfl := Option.some.inj H
      go_enter Tryd.func48, Tryd.ntmps48
      go_wp2_with (first | ((with_reducible refine gate_callee (f := 49) rfl ?_); refine goesL_ (some 4) rfl rfl Tryd.func49 (by kernel_rfl) rfl #[.string a0] rfl (by (try simp only [List.map_toArray, List.map_cons, List.map_nil]); first | done | rfl | (simp only [List.length_drop, List.length_take]; rfl)) ?_; (with_reducible refine (spec_l6Lower.calls k a0 t298 _ A2.out).mono ?_); rintro e w6 ⟨rfl, hb⟩; refine ⟨_, rfl, ?_⟩; have n0_ := AM (below_step (by repeat (first | (with_reducible first | exact HB.out | apply below_alloc | apply pw_below_drewN | apply below_drew1) | exact HB.out)) hb); clear HB; have HB := n0_; clear n0_; (try clear hb); (try clear hb2); (try clear hk); (try clear hi)))
      go_ret
      exact ⟨by first | rfl | (simp [errW_none, errW_some] <;> rfl) | (simp [*, errW_none, errW_some] <;> rfl) | (simp [errW_none, errW_some] <;> (apply Bool.eq_iff_iff.2; simp [List.isEmpty_iff])), by repeat (first | (with_reducible first | exact HB.out | apply below_alloc | apply pw_below_drewN | apply below_drew1) | exact HB.out)⟩
    · rw [if_neg c5] at H
      have c5b0 : (t298.toList == ([97, 110] : List UInt8)) = false := beq_eq_false_iff_ne.mpr c5
      have c5b1 : (t298.toList != ([97, 110] : List UInt8)) = true := bne_iff_ne.mpr c5
      by_cases c7 : t298.toList = ([97, 110, 100] : List UInt8)
      · rw [if_pos c7] at H
        have c7b0 : (t298.toList == ([97, 110, 100] : List UInt8)) = true := beq_iff_eq.mpr c7
        have c7b1 : (t298.toList != ([97, 110, 100] : List UInt8)) = false := bne_eq_false_iff_eq.mpr c7
        clear c7
        obtain rfl := Option.some.inj H
        go_enter Tryd.func48, Tryd.ntmps48
        go_wp2_with (first | ((with_reducible refine gate_callee (f := 49) rfl ?_); refine goesL_ (some 4) rfl rfl Tryd.func49 (by kernel_rfl) rfl #[.string a0] rfl (by (try simp only [List.map_toArray, List.map_cons, List.map_nil]); first | done | rfl | (simp only [List.length_drop, List.length_take]; rfl)) ?_; (with_reducible refine (spec_l6Lower.calls k a0 t298 _ A2.out).mono ?_); rintro e w8 ⟨rfl, hb⟩; refine ⟨_, rfl, ?_⟩; have n0_ := AM (below_step (by repeat (first | (with_reducible first | exact HB.out | apply below_alloc | apply pw_below_drewN | apply below_drew1) | exact HB.out)) hb); clear HB; have HB := n0_; clear n0_; (try clear hb); (try clear hb2); (try clear hk); (try clear hi)))
        go_ret
        exact ⟨by first | rfl | (simp [errW_none, errW_some] <;> rfl) | (simp [*, errW_none, errW_some] <;> rfl) | (simp [errW_none, errW_some] <;> (apply Bool.eq_iff_iff.2; simp [List.isEmpty_iff])), by repeat (first | (with_reducible first | exact HB.out | apply below_alloc | apply pw_below_drewN | apply below_drew1) | exact HB.out)⟩
      · rw [if_neg c7] at H
        have c7b0 : (t298.toList == ([97, 110, 100] : List UInt8)) = false := beq_eq_false_iff_ne.mpr c7
        have c7b1 : (t298.toList != ([97, 110, 100] : List UInt8)) = true := bne_iff_ne.mpr c7
        by_cases c9 : t298.toList = ([97, 115] : List UInt8)
        · rw [if_pos c9] at H
          have c9b0 : (t298.toList == ([97, 115] : List UInt8)) = true := beq_iff_eq.mpr c9
          have c9b1 : (t298.toList != ([97, 115] : List UInt8)) = false := bne_eq_false_iff_eq.mpr c9
          clear c9
          obtain rfl := Option.some.inj H
          go_enter Tryd.func48, Tryd.ntmps48
          go_wp2_with (first | ((with_reducible refine gate_callee (f := 49) rfl ?_); refine goesL_ (some 4) rfl rfl Tryd.func49 (by kernel_rfl) rfl #[.string a0] rfl (by (try simp only [List.map_toArray, List.map_cons, List.map_nil]); first | done | rfl | (simp only [List.length_drop, List.length_take]; rfl)) ?_; (with_reducible refine (spec_l6Lower.calls k a0 t298 _ A2.out).mono ?_); rintro e w10 ⟨rfl, hb⟩; refine ⟨_, rfl, ?_⟩; have n0_ := AM (below_step (by repeat (first | (with_reducible first | exact HB.out | apply below_alloc | apply pw_below_drewN | apply below_drew1) | exact HB.out)) hb); clear HB; have HB := n0_; clear n0_; (try clear hb); (try clear hb2); (try clear hk); (try clear hi)))
          go_ret
          exact ⟨by first | rfl | (simp [errW_none, errW_some] <;> rfl) | (simp [*, errW_none, errW_some] <;> rfl) | (simp [errW_none, errW_some] <;> (apply Bool.eq_iff_iff.2; simp [List.isEmpty_iff])), by repeat (first | (with_reducible first | exact HB.out | apply below_alloc | apply pw_below_drewN | apply below_drew1) | exact HB.out)⟩
        · rw [if_neg c9] at H
          have c9b0 : (t298.toList == ([97, 115] : List UInt8)) = false := beq_eq_false_iff_ne.mpr c9
          have c9b1 : (t298.toList != ([97, 115] : List UInt8)) = true := bne_iff_ne.mpr c9
          by_cases c11 : t298.toList = ([97, 116] : List UInt8)
          · rw [if_pos c11] at H
            have c11b0 : (t298.toList == ([97, 116] : List UInt8)) = true := beq_iff_eq.mpr c11
            have c11b1 : (t298.toList != ([97, 116] : List UInt8)) = false := bne_eq_false_iff_eq.mpr c11
            clear c11
            obtain rfl := Option.some.inj H
            go_enter Tryd.func48, Tryd.ntmps48
            go_wp2_with (first | ((with_reducible refine gate_callee (f := 49) rfl ?_); refine goesL_ (some 4) rfl rfl Tryd.func49 (by kernel_rfl) rfl #[.string a0] rfl (by (try simp only [List.map_toArray, List.map_cons, List.map_nil]); first | done | rfl | (simp only [List.length_drop, List.length_take]; rfl)) ?_; (with_reducible refine (spec_l6Lower.calls k a0 t298 _ A2.out).mono ?_); rintro e w12 ⟨rfl, hb⟩; refine ⟨_, rfl, ?_⟩; have n0_ := AM (below_step (by repeat (first | (with_reducible first | exact HB.out | apply below_alloc | apply pw_below_drewN | apply below_drew1) | exact HB.out)) hb); clear HB; have HB := n0_; clear n0_; (try clear hb); (try clear hb2); (try clear hk); (try clear hi)))
            go_ret
            exact ⟨by first | rfl | (simp [errW_none, errW_some] <;> rfl) | (simp [*, errW_none, errW_some] <;> rfl) | (simp [errW_none, errW_some] <;> (apply Bool.eq_iff_iff.2; simp [List.isEmpty_iff])), by repeat (first | (with_reducible first | exact HB.out | apply below_alloc | apply pw_below_drewN | apply below_drew1) | exact HB.out)⟩
          · rw [if_neg c11] at H
            have c11b0 : (t298.toList == ([97, 116] : List UInt8)) = false := beq_eq_false_iff_ne.mpr c11
            have c11b1 : (t298.toList != ([97, 116] : List UInt8)) = true := bne_iff_ne.mpr c11
            by_cases c13 : t298.toList = ([98, 117, 116] : List UInt8)
            · rw [if_pos c13] at H
              have c13b0 : (t298.toList == ([98, 117, 116] : List UInt8)) = true := beq_iff_eq.mpr c13
              have c13b1 : (t298.toList != ([98, 117, 116] : List UInt8)) = false := bne_eq_false_iff_eq.mpr c13
              clear c13
              obtain rfl := Option.some.inj H
              go_enter Tryd.func48, Tryd.ntmps48
              go_wp2_with (first | ((with_reducible refine gate_callee (f := 49) rfl ?_); refine goesL_ (some 4) rfl rfl Tryd.func49 (by kernel_rfl) rfl #[.string a0] rfl (by (try simp only [List.map_toArray, List.map_cons, List.map_nil]); first | done | rfl | (simp only [List.length_drop, List.length_take]; rfl)) ?_; (with_reducible refine (spec_l6Lower.calls k a0 t298 _ A2.out).mono ?_); rintro e w14 ⟨rfl, hb⟩; refine ⟨_, rfl, ?_⟩; have n0_ := AM (below_step (by repeat (first | (with_reducible first | exact HB.out | apply below_alloc | apply pw_below_drewN | apply below_drew1) | exact HB.out)) hb); clear HB; have HB := n0_; clear n0_; (try clear hb); (try clear hb2); (try clear hk); (try clear hi)))
              go_ret
              exact ⟨by first | rfl | (simp [errW_none, errW_some] <;> rfl) | (simp [*, errW_none, errW_some] <;> rfl) | (simp [errW_none, errW_some] <;> (apply Bool.eq_iff_iff.2; simp [List.isEmpty_iff])), by repeat (first | (with_reducible first | exact HB.out | apply below_alloc | apply pw_below_drewN | apply below_drew1) | exact HB.out)⟩
            · rw [if_neg c13] at H
              have c13b0 : (t298.toList == ([98, 117, 116] : List UInt8)) = false := beq_eq_false_iff_ne.mpr c13
              have c13b1 : (t298.toList != ([98, 117, 116] : List UInt8)) = true := bne_iff_ne.mpr c13
              by_cases c15 : t298.toList = ([98, 121] : List UInt8)
              · rw [if_pos c15] at H
                have c15b0 : (t298.toList == ([98, 121] : List UInt8)) = true := beq_iff_eq.mpr c15
                have c15b1 : (t298.toList != ([98, 121] : List UInt8)) = false := bne_eq_false_iff_eq.mpr c15
                clear c15
                obtain rfl := Option.some.inj H
                go_enter Tryd.func48, Tryd.ntmps48
                go_wp2_with (first | ((with_reducible refine gate_callee (f := 49) rfl ?_); refine goesL_ (some 4) rfl rfl Tryd.func49 (by kernel_rfl) rfl #[.string a0] rfl (by (try simp only [List.map_toArray, List.map_cons, List.map_nil]); first | done | rfl | (simp only [List.length_drop, List.length_take]; rfl)) ?_; (with_reducible refine (spec_l6Lower.calls k a0 t298 _ A2.out).mono ?_); rintro e w16 ⟨rfl, hb⟩; refine ⟨_, rfl, ?_⟩; have n0_ := AM (below_step (by repeat (first | (with_reducible first | exact HB.out | apply below_alloc | apply pw_below_drewN | apply below_drew1) | exact HB.out)) hb); clear HB; have HB := n0_; clear n0_; (try clear hb); (try clear hb2); (try clear hk); (try clear hi)))
                go_ret
                exact ⟨by first | rfl | (simp [errW_none, errW_some] <;> rfl) | (simp [*, errW_none, errW_some] <;> rfl) | (simp [errW_none, errW_some] <;> (apply Bool.eq_iff_iff.2; simp [List.isEmpty_iff])), by repeat (first | (with_reducible first | exact HB.out | apply below_alloc | apply pw_below_drewN | apply below_drew1) | exact HB.out)⟩
              · rw [if_neg c15] at H
                have c15b0 : (t298.toList == ([98, 121] : List UInt8)) = false := beq_eq_false_iff_ne.mpr c15
                have c15b1 : (t298.toList != ([98, 121] : List UInt8)) = true := bne_iff_ne.mpr c15
                by_cases c17 : t298.toList = ([102, 111, 114] : List UInt8)
                · rw [if_pos c17] at H
                  have c17b0 : (t298.toList == ([102, 111, 114] : List UInt8)) = true := beq_iff_eq.mpr c17
                  have c17b1 : (t298.toList != ([102, 111, 114] : List UInt8)) = false := bne_eq_false_iff_eq.mpr c17
                  clear c17
                  obtain rfl := Option.some.inj H
                  go_enter Tryd.func48, Tryd.ntmps48
                  go_wp2_with (first | ((with_reducible refine gate_callee (f := 49) rfl ?_); refine goesL_ (some 4) rfl rfl Tryd.func49 (by kernel_rfl) rfl #[.string a0] rfl (by (try simp only [List.map_toArray, List.map_cons, List.map_nil]); first | done | rfl | (simp only [List.length_drop, List.length_take]; rfl)) ?_; (with_reducible refine (spec_l6Lower.calls k a0 t298 _ A2.out).mono ?_); rintro e w18 ⟨rfl, hb⟩; refine ⟨_, rfl, ?_⟩; have n0_ := AM (below_step (by repeat (first | (with_reducible first | exact HB.out | apply below_alloc | apply pw_below_drewN | apply below_drew1) | exact HB.out)) hb); clear HB; have HB := n0_; clear n0_; (try clear hb); (try clear hb2); (try clear hk); (try clear hi)))
                  go_ret
                  exact ⟨by first | rfl | (simp [errW_none, errW_some] <;> rfl) | (simp [*, errW_none, errW_some] <;> rfl) | (simp [errW_none, errW_some] <;> (apply Bool.eq_iff_iff.2; simp [List.isEmpty_iff])), by repeat (first | (with_reducible first | exact HB.out | apply below_alloc | apply pw_below_drewN | apply below_drew1) | exact HB.out)⟩
                · rw [if_neg c17] at H
                  have c17b0 : (t298.toList == ([102, 111, 114] : List UInt8)) = false := beq_eq_false_iff_ne.mpr c17
                  have c17b1 : (t298.toList != ([102, 111, 114] : List UInt8)) = true := bne_iff_ne.mpr c17
                  by_cases c19 : t298.toList = ([102, 114, 111, 109] : List UInt8)
                  · rw [if_pos c19] at H
                    have c19b0 : (t298.toList == ([102, 114, 111, 109] : List UInt8)) = true := beq_iff_eq.mpr c19
                    have c19b1 : (t298.toList != ([102, 114, 111, 109] : List UInt8)) = false := bne_eq_false_iff_eq.mpr c19
                    clear c19
                    obtain rfl := Option.some.inj H
                    go_enter Tryd.func48, Tryd.ntmps48
                    go_wp2_with (first | ((with_reducible refine gate_callee (f := 49) rfl ?_); refine goesL_ (some 4) rfl rfl Tryd.func49 (by kernel_rfl) rfl #[.string a0] rfl (by (try simp only [List.map_toArray, List.map_cons, List.map_nil]); first | done | rfl | (simp only [List.length_drop, List.length_take]; rfl)) ?_; (with_reducible refine (spec_l6Lower.calls k a0 t298 _ A2.out).mono ?_); rintro e w20 ⟨rfl, hb⟩; refine ⟨_, rfl, ?_⟩; have n0_ := AM (below_step (by repeat (first | (with_reducible first | exact HB.out | apply below_alloc | apply pw_below_drewN | apply below_drew1) | exact HB.out)) hb); clear HB; have HB := n0_; clear n0_; (try clear hb); (try clear hb2); (try clear hk); (try clear hi)))
                    go_ret
                    exact ⟨by first | rfl | (simp [errW_none, errW_some] <;> rfl) | (simp [*, errW_none, errW_some] <;> rfl) | (simp [errW_none, errW_some] <;> (apply Bool.eq_iff_iff.2; simp [List.isEmpty_iff])), by repeat (first | (with_reducible first | exact HB.out | apply below_alloc | apply pw_below_drewN | apply below_drew1) | exact HB.out)⟩
                  · rw [if_neg c19] at H
                    have c19b0 : (t298.toList == ([102, 114, 111, 109] : List UInt8)) = false := beq_eq_false_iff_ne.mpr c19
                    have c19b1 : (t298.toList != ([102, 114, 111, 109] : List UInt8)) = true := bne_iff_ne.mpr c19
                    by_cases c21 : t298.toList = ([105, 110] : List UInt8)
                    · rw [if_pos c21] at H
                      have c21b0 : (t298.toList == ([105, 110] : List UInt8)) = true := beq_iff_eq.mpr c21
                      have c21b1 : (t298.toList != ([105, 110] : List UInt8)) = false := bne_eq_false_iff_eq.mpr c21
                      clear c21
                      obtain rfl := Option.some.inj H
                      go_enter Tryd.func48, Tryd.ntmps48
                      go_wp2_with (first | ((with_reducible refine gate_callee (f := 49) rfl ?_); refine goesL_ (some 4) rfl rfl Tryd.func49 (by kernel_rfl) rfl #[.string a0] rfl (by (try simp only [List.map_toArray, List.map_cons, List.map_nil]); first | done | rfl | (simp only [List.length_drop, List.length_take]; rfl)) ?_; (with_reducible refine (spec_l6Lower.calls k a0 t298 _ A2.out).mono ?_); rintro e w22 ⟨rfl, hb⟩; refine ⟨_, rfl, ?_⟩; have n0_ := AM (below_step (by repeat (first | (with_reducible first | exact HB.out | apply below_alloc | apply pw_below_drewN | apply below_drew1) | exact HB.out)) hb); clear HB; have HB := n0_; clear n0_; (try clear hb); (try clear hb2); (try clear hk); (try clear hi)))
                      go_ret
                      exact ⟨by first | rfl | (simp [errW_none, errW_some] <;> rfl) | (simp [*, errW_none, errW_some] <;> rfl) | (simp [errW_none, errW_some] <;> (apply Bool.eq_iff_iff.2; simp [List.isEmpty_iff])), by repeat (first | (with_reducible first | exact HB.out | apply below_alloc | apply pw_below_drewN | apply below_drew1) | exact HB.out)⟩
                    · rw [if_neg c21] at H
                      have c21b0 : (t298.toList == ([105, 110] : List UInt8)) = false := beq_eq_false_iff_ne.mpr c21
                      have c21b1 : (t298.toList != ([105, 110] : List UInt8)) = true := bne_iff_ne.mpr c21
                      by_cases c23 : t298.toList = ([111, 102] : List UInt8)
                      · rw [if_pos c23] at H
                        have c23b0 : (t298.toList == ([111, 102] : List UInt8)) = true := beq_iff_eq.mpr c23
                        have c23b1 : (t298.toList != ([111, 102] : List UInt8)) = false := bne_eq_false_iff_eq.mpr c23
                        clear c23
                        obtain rfl := Option.some.inj H
                        go_enter Tryd.func48, Tryd.ntmps48
                        go_wp2_with (first | ((with_reducible refine gate_callee (f := 49) rfl ?_); refine goesL_ (some 4) rfl rfl Tryd.func49 (by kernel_rfl) rfl #[.string a0] rfl (by (try simp only [List.map_toArray, List.map_cons, List.map_nil]); first | done | rfl | (simp only [List.length_drop, List.length_take]; rfl)) ?_; (with_reducible refine (spec_l6Lower.calls k a0 t298 _ A2.out).mono ?_); rintro e w24 ⟨rfl, hb⟩; refine ⟨_, rfl, ?_⟩; have n0_ := AM (below_step (by repeat (first | (with_reducible first | exact HB.out | apply below_alloc | apply pw_below_drewN | apply below_drew1) | exact HB.out)) hb); clear HB; have HB := n0_; clear n0_; (try clear hb); (try clear hb2); (try clear hk); (try clear hi)))
                        go_ret
                        exact ⟨by first | rfl | (simp [errW_none, errW_some] <;> rfl) | (simp [*, errW_none, errW_some] <;> rfl) | (simp [errW_none, errW_some] <;> (apply Bool.eq_iff_iff.2; simp [List.isEmpty_iff])), by repeat (first | (with_reducible first | exact HB.out | apply below_alloc | apply pw_below_drewN | apply below_drew1) | exact HB.out)⟩
                      · rw [if_neg c23] at H
                        have c23b0 : (t298.toList == ([111, 102] : List UInt8)) = false := beq_eq_false_iff_ne.mpr c23
                        have c23b1 : (t298.toList != ([111, 102] : List UInt8)) = true := bne_iff_ne.mpr c23
                        by_cases c25 : t298.toList = ([111, 110] : List UInt8)
                        · rw [if_pos c25] at H
                          have c25b0 : (t298.toList == ([111, 110] : List UInt8)) = true := beq_iff_eq.mpr c25
                          have c25b1 : (t298.toList != ([111, 110] : List UInt8)) = false := bne_eq_false_iff_eq.mpr c25
                          clear c25
                          obtain rfl := Option.some.inj H
                          go_enter Tryd.func48, Tryd.ntmps48
                          go_wp2_with (first | ((with_reducible refine gate_callee (f := 49) rfl ?_); refine goesL_ (some 4) rfl rfl Tryd.func49 (by kernel_rfl) rfl #[.string a0] rfl (by (try simp only [List.map_toArray, List.map_cons, List.map_nil]); first | done | rfl | (simp only [List.length_drop, List.length_take]; rfl)) ?_; (with_reducible refine (spec_l6Lower.calls k a0 t298 _ A2.out).mono ?_); rintro e w26 ⟨rfl, hb⟩; refine ⟨_, rfl, ?_⟩; have n0_ := AM (below_step (by repeat (first | (with_reducible first | exact HB.out | apply below_alloc | apply pw_below_drewN | apply below_drew1) | exact HB.out)) hb); clear HB; have HB := n0_; clear n0_; (try clear hb); (try clear hb2); (try clear hk); (try clear hi)))
                          go_ret
                          exact ⟨by first | rfl | (simp [errW_none, errW_some] <;> rfl) | (simp [*, errW_none, errW_some] <;> rfl) | (simp [errW_none, errW_some] <;> (apply Bool.eq_iff_iff.2; simp [List.isEmpty_iff])), by repeat (first | (with_reducible first | exact HB.out | apply below_alloc | apply pw_below_drewN | apply below_drew1) | exact HB.out)⟩
                        · rw [if_neg c25] at H
                          have c25b0 : (t298.toList == ([111, 110] : List UInt8)) = false := beq_eq_false_iff_ne.mpr c25
                          have c25b1 : (t298.toList != ([111, 110] : List UInt8)) = true := bne_iff_ne.mpr c25
                          by_cases c27 : t298.toList = ([111, 114] : List UInt8)
                          · rw [if_pos c27] at H
                            have c27b0 : (t298.toList == ([111, 114] : List UInt8)) = true := beq_iff_eq.mpr c27
                            have c27b1 : (t298.toList != ([111, 114] : List UInt8)) = false := bne_eq_false_iff_eq.mpr c27
                            clear c27
                            obtain rfl := Option.some.inj H
                            go_enter Tryd.func48, Tryd.ntmps48
                            go_wp2_with (first | ((with_reducible refine gate_callee (f := 49) rfl ?_); refine goesL_ (some 4) rfl rfl Tryd.func49 (by kernel_rfl) rfl #[.string a0] rfl (by (try simp only [List.map_toArray, List.map_cons, List.map_nil]); first | done | rfl | (simp only [List.length_drop, List.length_take]; rfl)) ?_; (with_reducible refine (spec_l6Lower.calls k a0 t298 _ A2.out).mono ?_); rintro e w28 ⟨rfl, hb⟩; refine ⟨_, rfl, ?_⟩; have n0_ := AM (below_step (by repeat (first | (with_reducible first | exact HB.out | apply below_alloc | apply pw_below_drewN | apply below_drew1) | exact HB.out)) hb); clear HB; have HB := n0_; clear n0_; (try clear hb); (try clear hb2); (try clear hk); (try clear hi)))
                            go_ret
                            exact ⟨by first | rfl | (simp [errW_none, errW_some] <;> rfl) | (simp [*, errW_none, errW_some] <;> rfl) | (simp [errW_none, errW_some] <;> (apply Bool.eq_iff_iff.2; simp [List.isEmpty_iff])), by repeat (first | (with_reducible first | exact HB.out | apply below_alloc | apply pw_below_drewN | apply below_drew1) | exact HB.out)⟩
                          · rw [if_neg c27] at H
                            have c27b0 : (t298.toList == ([111, 114] : List UInt8)) = false := beq_eq_false_iff_ne.mpr c27
                            have c27b1 : (t298.toList != ([111, 114] : List UInt8)) = true := bne_iff_ne.mpr c27
                            by_cases c29 : t298.toList = ([116, 104, 101] : List UInt8)
                            · rw [if_pos c29] at H
                              have c29b0 : (t298.toList == ([116, 104, 101] : List UInt8)) = true := beq_iff_eq.mpr c29
                              have c29b1 : (t298.toList != ([116, 104, 101] : List UInt8)) = false := bne_eq_false_iff_eq.mpr c29
                              clear c29
                              obtain rfl := Option.some.inj H
                              go_enter Tryd.func48, Tryd.ntmps48
                              go_wp2_with (first | ((with_reducible refine gate_callee (f := 49) rfl ?_); refine goesL_ (some 4) rfl rfl Tryd.func49 (by kernel_rfl) rfl #[.string a0] rfl (by (try simp only [List.map_toArray, List.map_cons, List.map_nil]); first | done | rfl | (simp only [List.length_drop, List.length_take]; rfl)) ?_; (with_reducible refine (spec_l6Lower.calls k a0 t298 _ A2.out).mono ?_); rintro e w30 ⟨rfl, hb⟩; refine ⟨_, rfl, ?_⟩; have n0_ := AM (below_step (by repeat (first | (with_reducible first | exact HB.out | apply below_alloc | apply pw_below_drewN | apply below_drew1) | exact HB.out)) hb); clear HB; have HB := n0_; clear n0_; (try clear hb); (try clear hb2); (try clear hk); (try clear hi)))
                              go_ret
                              exact ⟨by first | rfl | (simp [errW_none, errW_some] <;> rfl) | (simp [*, errW_none, errW_some] <;> rfl) | (simp [errW_none, errW_some] <;> (apply Bool.eq_iff_iff.2; simp [List.isEmpty_iff])), by repeat (first | (with_reducible first | exact HB.out | apply below_alloc | apply pw_below_drewN | apply below_drew1) | exact HB.out)⟩
                            · rw [if_neg c29] at H
                              have c29b0 : (t298.toList == ([116, 104, 101] : List UInt8)) = false := beq_eq_false_iff_ne.mpr c29
                              have c29b1 : (t298.toList != ([116, 104, 101] : List UInt8)) = true := bne_iff_ne.mpr c29
                              by_cases c31 : t298.toList = ([116, 111] : List UInt8)
                              · rw [if_pos c31] at H
                                have c31b0 : (t298.toList == ([116, 111] : List UInt8)) = true := beq_iff_eq.mpr c31
                                have c31b1 : (t298.toList != ([116, 111] : List UInt8)) = false := bne_eq_false_iff_eq.mpr c31
                                clear c31
                                obtain rfl := Option.some.inj H
                                go_enter Tryd.func48, Tryd.ntmps48
                                go_wp2_with (first | ((with_reducible refine gate_callee (f := 49) rfl ?_); refine goesL_ (some 4) rfl rfl Tryd.func49 (by kernel_rfl) rfl #[.string a0] rfl (by (try simp only [List.map_toArray, List.map_cons, List.map_nil]); first | done | rfl | (simp only [List.length_drop, List.length_take]; rfl)) ?_; (with_reducible refine (spec_l6Lower.calls k a0 t298 _ A2.out).mono ?_); rintro e w32 ⟨rfl, hb⟩; refine ⟨_, rfl, ?_⟩; have n0_ := AM (below_step (by repeat (first | (with_reducible first | exact HB.out | apply below_alloc | apply pw_below_drewN | apply below_drew1) | exact HB.out)) hb); clear HB; have HB := n0_; clear n0_; (try clear hb); (try clear hb2); (try clear hk); (try clear hi)))
                                go_ret
                                exact ⟨by first | rfl | (simp [errW_none, errW_some] <;> rfl) | (simp [*, errW_none, errW_some] <;> rfl) | (simp [errW_none, errW_some] <;> (apply Bool.eq_iff_iff.2; simp [List.isEmpty_iff])), by repeat (first | (with_reducible first | exact HB.out | apply below_alloc | apply pw_below_drewN | apply below_drew1) | exact HB.out)⟩
                              · rw [if_neg c31] at H
                                have c31b0 : (t298.toList == ([116, 111] : List UInt8)) = false := beq_eq_false_iff_ne.mpr c31
                                have c31b1 : (t298.toList != ([116, 111] : List UInt8)) = true := bne_iff_ne.mpr c31
                                by_cases c33 : t298.toList = ([119, 105, 116, 104] : List UInt8)
                                · rw [if_pos c33] at H
                                  have c33b0 : (t298.toList == ([119, 105, 116, 104] : List UInt8)) = true := beq_iff_eq.mpr c33
                                  have c33b1 : (t298.toList != ([119, 105, 116, 104] : List UInt8)) = false := bne_eq_false_iff_eq.mpr c33
                                  clear c33
                                  obtain rfl := Option.some.inj H
                                  go_enter Tryd.func48, Tryd.ntmps48
                                  go_wp2_with (first | ((with_reducible refine gate_callee (f := 49) rfl ?_); refine goesL_ (some 4) rfl rfl Tryd.func49 (by kernel_rfl) rfl #[.string a0] rfl (by (try simp only [List.map_toArray, List.map_cons, List.map_nil]); first | done | rfl | (simp only [List.length_drop, List.length_take]; rfl)) ?_; (with_reducible refine (spec_l6Lower.calls k a0 t298 _ A2.out).mono ?_); rintro e w34 ⟨rfl, hb⟩; refine ⟨_, rfl, ?_⟩; have n0_ := AM (below_step (by repeat (first | (with_reducible first | exact HB.out | apply below_alloc | apply pw_below_drewN | apply below_drew1) | exact HB.out)) hb); clear HB; have HB := n0_; clear n0_; (try clear hb); (try clear hb2); (try clear hk); (try clear hi)))
                                  go_ret
                                  exact ⟨by first | rfl | (simp [errW_none, errW_some] <;> rfl) | (simp [*, errW_none, errW_some] <;> rfl) | (simp [errW_none, errW_some] <;> (apply Bool.eq_iff_iff.2; simp [List.isEmpty_iff])), by repeat (first | (with_reducible first | exact HB.out | apply below_alloc | apply pw_below_drewN | apply below_drew1) | exact HB.out)⟩
                                · rw [if_neg c33] at H
                                  have c33b0 : (t298.toList == ([119, 105, 116, 104] : List UInt8)) = false := beq_eq_false_iff_ne.mpr c33
                                  have c33b1 : (t298.toList != ([119, 105, 116, 104] : List UInt8)) = true := bne_iff_ne.mpr c33
                                  obtain rfl := Option.some.inj H
                                  go_enter Tryd.func48, Tryd.ntmps48
                                  go_wp2_with (first | ((with_reducible refine gate_callee (f := 49) rfl ?_); refine goesL_ (some 4) rfl rfl Tryd.func49 (by kernel_rfl) rfl #[.string a0] rfl (by (try simp only [List.map_toArray, List.map_cons, List.map_nil]); first | done | rfl | (simp only [List.length_drop, List.length_take]; rfl)) ?_; (with_reducible refine (spec_l6Lower.calls k a0 t298 _ A2.out).mono ?_); rintro e w35 ⟨rfl, hb⟩; refine ⟨_, rfl, ?_⟩; have n0_ := AM (below_step (by repeat (first | (with_reducible first | exact HB.out | apply below_alloc | apply pw_below_drewN | apply below_drew1) | exact HB.out)) hb); clear HB; have HB := n0_; clear n0_; (try clear hb); (try clear hb2); (try clear hk); (try clear hi)))
                                  go_ret
                                  exact ⟨by first | rfl | (simp [errW_none, errW_some] <;> rfl) | (simp [*, errW_none, errW_some] <;> rfl) | (simp [errW_none, errW_some] <;> (apply Bool.eq_iff_iff.2; simp [List.isEmpty_iff])), by repeat (first | (with_reducible first | exact HB.out | apply below_alloc | apply pw_below_drewN | apply below_drew1) | exact HB.out)⟩

end Go.Proofs.YtilchcponlgmjaaDoor.Px
