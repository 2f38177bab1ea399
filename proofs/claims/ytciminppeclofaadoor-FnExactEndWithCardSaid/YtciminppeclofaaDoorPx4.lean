/- That calls of Go functions come to what the Lean functions beside them say; written by a program of this session (wip/xprint) over the printed words; no conditions. -/
import Derived.Test.YtciminppeclofaaDoorPx0
import Derived.Test.YtciminppeclofaaDoorPx1
import Derived.Test.YtciminppeclofaaDoorPx3
namespace Go.Proofs.YtciminppeclofaaDoor.Px
open Go.RowKit Go.Proofs.YtciminppeclofaaDoorW.PrintWords Go.Proofs.YtciminppeclofaaDoorW.PrintLast Go.Proofs.YtciminppeclofaaDoorW.PrintMore
attribute [local go_sem] max2_int min2_int max_two min_two max_three min_three max_four min_four   -- for this text's walks alone
set_option linter.unusedVariables false
set_option linter.unusedSimpArgs false

/-! ### spec_EndWith: function 6 -/
mutual
def spec_EndWith.j0 : Nat → ByteArray → Int → Bool → Option (ByteArray × Bool)
  | 0, _, _, _ => none
  | k + 1, x0, x1, x14 => if x14 = true then (some ((⟨#[]⟩ : ByteArray), false)) else (spec_EndWith.l0 k x0 x1)
def spec_EndWith.l0 : Nat → ByteArray → Int → Option (ByteArray × Bool)
  | 0, _, _ => none
  | k + 1, x0, x1 => if x0.toList = ([] : List UInt8) then (if (x0.size : Int) > 1 then (if 0 ≤ (wrap64 ((x0.size : Int) - 1)) then (if (wrap64 ((x0.size : Int) - 1)) < (x0.size : Int) then (if (bt x0 (wrap64 ((x0.size : Int) - 1))) = 34 then (if x1 = 46 then (if 0 ≤ (wrap64 ((x0.size : Int) - 2)) then (if (wrap64 ((x0.size : Int) - 2)) < (x0.size : Int) then (if (bt x0 (wrap64 ((x0.size : Int) - 2))) = 46 then (some (x0, true)) else (if (bt x0 (wrap64 ((x0.size : Int) - 2))) = 33 then (some (x0, true)) else (if (bt x0 (wrap64 ((x0.size : Int) - 2))) = 63 then (some (x0, true)) else ((spec_l11Two.f k x0 (strOfNums (([x1] : List Int)))).bind fun t121 => (some (t121, true)))))) else (none)) else (none)) else ((spec_l11Two.f k x0 (strOfNums (([x1] : List Int)))).bind fun t125 => (some (t125, true)))) else ((spec_l11Two.f k x0 (strOfNums (([x1] : List Int)))).bind fun t129 => (some (t129, true)))) else (none)) else (none)) else ((spec_l11Two.f k x0 (strOfNums (([x1] : List Int)))).bind fun t133 => (some (t133, true)))) else (if 0 ≤ (wrap64 ((x0.size : Int) - 1)) then (if (wrap64 ((x0.size : Int) - 1)) < (x0.size : Int) then (if (bt x0 (wrap64 ((x0.size : Int) - 1))) = 32 then (if (wrap64 ((x0.size : Int) - 1)) ≤ (x0.size : Int) then (spec_EndWith.l0 k (x0.extract 0 ((wrap64 ((x0.size : Int) - 1)) : Int).toNat) x1) else (none)) else (if (x0.size : Int) > 1 then (if (bt x0 (wrap64 ((x0.size : Int) - 1))) = 34 then (if x1 = 46 then (if 0 ≤ (wrap64 ((x0.size : Int) - 2)) then (if (wrap64 ((x0.size : Int) - 2)) < (x0.size : Int) then (if (bt x0 (wrap64 ((x0.size : Int) - 2))) = 46 then (some (x0, true)) else (if (bt x0 (wrap64 ((x0.size : Int) - 2))) = 33 then (some (x0, true)) else (if (bt x0 (wrap64 ((x0.size : Int) - 2))) = 63 then (some (x0, true)) else ((spec_l11Two.f k x0 (strOfNums (([x1] : List Int)))).bind fun t137 => (some (t137, true)))))) else (none)) else (none)) else ((spec_l11Two.f k x0 (strOfNums (([x1] : List Int)))).bind fun t141 => (some (t141, true)))) else ((spec_l11Two.f k x0 (strOfNums (([x1] : List Int)))).bind fun t145 => (some (t145, true)))) else ((spec_l11Two.f k x0 (strOfNums (([x1] : List Int)))).bind fun t149 => (some (t149, true))))) else (none)) else (none))
end
def spec_EndWith.f (k : Nat) (a0 : ByteArray) (a1 : Int) : Option (ByteArray × Bool) := (spec_l11Text.f k a0).bind fun t116 => (if t116 = true then ((spec_l11Mark.f k a1).bind fun t117 => (spec_EndWith.j0 k a0 a1 (decide (t117 < 0)))) else (spec_EndWith.j0 k a0 a1 true))
theorem spec_EndWith.mono_l : ∀ k, (∀ y0 y1 y2, LeO (spec_EndWith.j0 k y0 y1 y2) (spec_EndWith.j0 (k + 1) y0 y1 y2)) ∧ (∀ y0 y1, LeO (spec_EndWith.l0 k y0 y1) (spec_EndWith.l0 (k + 1) y0 y1))
  | 0 => ⟨fun _ _ _ r h => by simp [spec_EndWith.j0] at h, fun _ _ r h => by simp [spec_EndWith.l0] at h⟩
  | k + 1 => by
    obtain ⟨ih0, ih1⟩ := spec_EndWith.mono_l k
    refine ⟨?_, ?_⟩
    · intro y0 y1 y2
      unfold spec_EndWith.j0
      repeat' first
      | (with_reducible exact ih0 _ _ _)
      | (with_reducible exact ih1 _ _)
      | (with_reducible exact spec_l11Mark.mono _ _)
      | (with_reducible exact spec_l11Text.mono _ _)
      | (with_reducible exact spec_l11Two.mono _ _ _)
      | (with_reducible exact LeO.refl _)
      | (with_reducible exact LeO.none _)
      | (with_reducible refine LeO.ite ?_ ?_)
      | (with_reducible refine LeO.bind ?_ (fun _ => ?_))
      | exact ih0 _ _ _
      | exact ih1 _ _
      | exact spec_l11Mark.mono _ _
      | exact spec_l11Text.mono _ _
      | exact spec_l11Two.mono _ _ _
      | exact LeO.none _
      | refine LeO.ite ?_ ?_
      | refine LeO.bind ?_ (fun _ => ?_)
    · intro y0 y1
      unfold spec_EndWith.l0
      repeat' first
      | (with_reducible exact ih0 _ _ _)
      | (with_reducible exact ih1 _ _)
      | (with_reducible exact spec_l11Mark.mono _ _)
      | (with_reducible exact spec_l11Text.mono _ _)
      | (with_reducible exact spec_l11Two.mono _ _ _)
      | (with_reducible exact LeO.refl _)
      | (with_reducible exact LeO.none _)
      | (with_reducible refine LeO.ite ?_ ?_)
      | (with_reducible refine LeO.bind ?_ (fun _ => ?_))
      | exact ih0 _ _ _
      | exact ih1 _ _
      | exact spec_l11Mark.mono _ _
      | exact spec_l11Text.mono _ _
      | exact spec_l11Two.mono _ _ _
      | exact LeO.none _
      | refine LeO.ite ?_ ?_
      | refine LeO.bind ?_ (fun _ => ?_)
theorem spec_EndWith.mono : ∀ a0 a1 k, LeO (spec_EndWith.f k a0 a1) (spec_EndWith.f (k + 1) a0 a1) := by
  intro a0 a1 k
  obtain ⟨ih0, ih1⟩ := spec_EndWith.mono_l k
  unfold spec_EndWith.f
  repeat' first
      | (with_reducible exact ih0 _ _ _)
      | (with_reducible exact ih1 _ _)
      | (with_reducible exact spec_l11Mark.mono _ _)
      | (with_reducible exact spec_l11Text.mono _ _)
      | (with_reducible exact spec_l11Two.mono _ _ _)
      | (with_reducible exact LeO.refl _)
      | (with_reducible exact LeO.none _)
      | (with_reducible refine LeO.ite ?_ ?_)
      | (with_reducible refine LeO.bind ?_ (fun _ => ?_))
      | exact ih0 _ _ _
      | exact ih1 _ _
      | exact spec_l11Mark.mono _ _
      | exact spec_l11Text.mono _ _
      | exact spec_l11Two.mono _ _ _
      | exact LeO.none _
      | refine LeO.ite ?_ ?_
      | refine LeO.bind ?_ (fun _ => ?_)
set_option maxHeartbeats 8000000 in
set_option maxRecDepth 100000 in
theorem spec_EndWith.calls (k : Nat) (a0 : ByteArray) (a1 : Int) (r1 : ByteArray) (r2 : Bool) (w : World) (h : spec_EndWith.f k a0 a1 = some (r1, r2)) :
    Calls Tryd.prog 6 #[.string a0, .int .u8 a1] w fun e w' => e = .returned (.tuple #[.string r1, .bool r2]) ∧ Below w.heap.size w w' := by
  have HB := Aside0.mk (Below.refl w.heap.size w)
  have H : ((spec_l11Text.f k a0).bind fun t116 => (if t116 = true then ((spec_l11Mark.f k a1).bind fun t117 => (spec_EndWith.j0 k a0 a1 (decide (t117 < 0)))) else (spec_EndWith.j0 k a0 a1 true))) = some (r1, r2) := h
  clear h
  have HC3 := Aside0.mk H
  clear H
  go_enter Tryd.func6, Tryd.ntmps6
  go_upto_region 1 with (fail)
  go_cut [14] (fun v14 wc => ∃ (kq : Nat) (x14_2 : Bool), v14 = .bool x14_2 ∧ Aside0 (spec_EndWith.j0 kq a0 a1 x14_2 = some (r1, r2)) ∧ Aside0 (kq ≤ k) ∧ Aside0 (Below w.heap.size w wc))
  case first =>
    have H := HC3.out
    clear HC3
    replace H := Option.bind_eq_some_iff.mp H
    obtain ⟨t116, A40, H⟩ := H
    replace H : (if t116 = true then ((spec_l11Mark.f k a1).bind fun t117 => (spec_EndWith.j0 k a0 a1 (decide (t117 < 0)))) else (spec_EndWith.j0 k a0 a1 true)) = some (r1, r2) := H
    have A4 := Aside0.mk A40
    clear A40
    by_cases c5 : t116 = true
    · subst c5
      have H1 : ((spec_l11Mark.f k a1).bind fun t117 => (spec_EndWith.j0 k a0 a1 (decide (t117 < 0)))) = some (r1, r2) := by rw [if_pos rfl] at H; exact H
      clear H
      have H := H1
      clear H1
      replace H := Option.bind_eq_some_iff.mp H
      obtain ⟨t117, A60, H⟩ := H
      replace H : (spec_EndWith.j0 k a0 a1 (decide (t117 < 0))) = some (r1, r2) := H
      have A6 := Aside0.mk A60
      clear A60
      have H' := Aside0.mk H
      clear H
      go_wp2_with (first | ((with_reducible refine gate_callee (f := 12) rfl ?_); refine goesL_ (some 8) rfl rfl Tryd.func12 (by kernel_rfl) rfl #[.string a0] rfl (by (try simp only [List.map_toArray, List.map_cons, List.map_nil]); first | done | rfl | (simp only [List.length_drop, List.length_take]; rfl)) ?_; (with_reducible refine (spec_l11Text.calls k a0 true _ A4.out).mono ?_); rintro e w' ⟨rfl, ⟨nd, rfl⟩⟩; refine ⟨_, rfl, ?_⟩) | (go_at_call 13; (with_reducible refine (spec_l11Mark.calls k a1 t117 _ A6.out).mono ?_); rintro e w' ⟨rfl, ⟨nd, rfl⟩⟩))
      go_meet
      case rel => exact ⟨_, (decide (t117 < 0)), (by first | rfl | (simp; done) | (simp [*]; done)), H', ⟨by first | omega | exact Nat.le_refl _⟩, ⟨by repeat (first | (with_reducible first | exact HB.out | apply below_alloc | apply pw_below_drewN | apply below_drew1) | exact HB.out)⟩⟩
    · replace c5 := Bool.eq_false_iff.mpr c5
      subst c5
      have H1 : (spec_EndWith.j0 k a0 a1 true) = some (r1, r2) := by rw [if_neg (show ¬ (false = true) by decide)] at H; exact H
      clear H
      have H := H1
      clear H1
      have H' := Aside0.mk H
      clear H
      go_wp2_with (first | ((with_reducible refine gate_callee (f := 12) rfl ?_); refine goesL_ (some 8) rfl rfl Tryd.func12 (by kernel_rfl) rfl #[.string a0] rfl (by (try simp only [List.map_toArray, List.map_cons, List.map_nil]); first | done | rfl | (simp only [List.length_drop, List.length_take]; rfl)) ?_; (with_reducible refine (spec_l11Text.calls k a0 false _ A4.out).mono ?_); rintro e w' ⟨rfl, ⟨nd, rfl⟩⟩; refine ⟨_, rfl, ?_⟩))
      go_meet
      case rel => exact ⟨_, (true), (by first | rfl | (simp; done) | (simp [*]; done)), H', ⟨by first | omega | exact Nat.le_refl _⟩, ⟨by repeat (first | (with_reducible first | exact HB.out | apply below_alloc | apply pw_below_drewN | apply below_drew1) | exact HB.out)⟩⟩
  case rest =>
    clear HC3
    try clear c1
    try clear p2
    try clear c5
    try clear c6
    obtain ⟨kq, x14_2, rfl, HA, HJ2, HB⟩ := hcut
    cases kq with
    | zero => exact absurd HA.out (by simp [spec_EndWith.j0])
    | succ kj2 =>
      have H := HA.out
      clear HA
      simp only [spec_EndWith.j0] at H
      by_cases c7 : x14_2 = true
      · subst c7
        have H1 : (some ((⟨#[]⟩ : ByteArray), false)) = some (r1, r2) := by rw [if_pos rfl] at H; exact H
        clear H
        have H := H1
        clear H1
        simp only [Option.some.injEq, Prod.mk.injEq] at H
        obtain ⟨rfl, rfl⟩ := H
        go_wp2
        go_ret2
        exact ⟨by first | rfl | (simp [errW_none, errW_some] <;> rfl) | (simp [*, errW_none, errW_some] <;> rfl), by repeat (first | (with_reducible first | exact HB.out | apply below_alloc | apply pw_below_drewN | apply below_drew1) | exact HB.out)⟩
      · replace c7 := Bool.eq_false_iff.mpr c7
        subst c7
        have H1 : (spec_EndWith.l0 kj2 a0 a1) = some (r1, r2) := by rw [if_neg (show ¬ (false = true) by decide)] at H; exact H
        clear H
        have H := H1
        clear H1
        have H' := Aside0.mk H
        clear H
        go_wp2
        go_loopg [0] kj2 (fun kq v0 w' => ∃ (x0_2 : ByteArray), v0 = .string x0_2 ∧ Aside0 (spec_EndWith.l0 kq x0_2 a1 = some (r1, r2)) ∧ Aside0 (kq ≤ kj2) ∧ Aside0 (Below w.heap.size w w'))
        case atStart => exact ⟨(a0), (by first | rfl | (simp; done) | (simp [*]; done)), H', ⟨Nat.le_refl _⟩, ⟨by repeat (first | (with_reducible first | exact HB.out | apply below_alloc | apply pw_below_drewN | apply below_drew1) | exact HB.out)⟩⟩
        case round =>
          clear H'
          try clear c1
          try clear p2
          try clear c5
          try clear c6
          try clear c7
          try clear p2
          obtain ⟨x0_2, rfl, HA, HK2, HB⟩ := hrel
          cases gk with
          | zero => exact absurd HA.out (by simp [spec_EndWith.l0])
          | succ k2 =>
            have H := HA.out
            clear HA
            simp only [spec_EndWith.l0] at H
            by_cases c8 : x0_2.toList = ([] : List UInt8)
            · rw [if_pos c8] at H
              have c8b0 : (x0_2.toList == ([] : List UInt8)) = true := beq_iff_eq.mpr c8
              have c8b1 : (x0_2.toList != ([] : List UInt8)) = false := bne_eq_false_iff_eq.mpr c8
              clear c8
              by_cases c9 : (x0_2.size : Int) > 1
              · rw [if_pos c9] at H
                have c9b0 : decide (1 < (x0_2.size : Int)) = true := decide_eq_true c9
                have c9b1 : decide (1 < x0_2.size) = true := decide_eq_true (by omega)
                clear c9
                obtain ⟨ji10, hji10⟩ : ∃ j_ : Int, (wrap64 ((x0_2.size : Int) - 1)) = j_ := ⟨_, rfl⟩
                replace H : (if 0 ≤ (ji10) then (if (ji10) < (x0_2.size : Int) then (if (bt x0_2 (ji10)) = 34 then (if a1 = 46 then (if 0 ≤ (wrap64 ((x0_2.size : Int) - 2)) then (if (wrap64 ((x0_2.size : Int) - 2)) < (x0_2.size : Int) then (if (bt x0_2 (wrap64 ((x0_2.size : Int) - 2))) = 46 then (some (x0_2, true)) else (if (bt x0_2 (wrap64 ((x0_2.size : Int) - 2))) = 33 then (some (x0_2, true)) else (if (bt x0_2 (wrap64 ((x0_2.size : Int) - 2))) = 63 then (some (x0_2, true)) else ((spec_l11Two.f k2 x0_2 (strOfNums (([a1] : List Int)))).bind fun t121 => (some (t121, true)))))) else (none)) else (none)) else ((spec_l11Two.f k2 x0_2 (strOfNums (([a1] : List Int)))).bind fun t125 => (some (t125, true)))) else ((spec_l11Two.f k2 x0_2 (strOfNums (([a1] : List Int)))).bind fun t129 => (some (t129, true)))) else (none)) else (none)) = some (r1, r2) := by first | (rw [hji10] at H; exact H) | (simp only [hji10] at H ⊢; exact H)
                have hji10w : (IntKind.i64.wrap ((x0_2.size : Int) - 1)) = ji10 := (i64_w _).trans hji10
                by_cases c11 : 0 ≤ (ji10)
                · rw [if_pos c11] at H
                  have c11b0 : decide (0 ≤ (ji10)) = true := decide_eq_true c11
                  clear c11
                  by_cases c12 : (ji10) < (x0_2.size : Int)
                  · rw [if_pos c12] at H
                    have c12b0 : decide ((ji10) < (x0_2.size : Int)) = true := decide_eq_true c12
                    clear c12
                    by_cases c14 : (bt x0_2 (ji10)) = 34
                    · rw [if_pos c14] at H
                      have c14b0 : ((bt x0_2 (ji10)) == 34) = true := beq_iff_eq.mpr c14
                      have c14b1 : ((bt x0_2 (ji10)) != 34) = false := bne_eq_false_iff_eq.mpr c14
                      clear c14
                      by_cases c15 : a1 = 46
                      · rw [if_pos c15] at H
                        have c15b0 : (a1 == 46) = true := beq_iff_eq.mpr c15
                        have c15b1 : (a1 != 46) = false := bne_eq_false_iff_eq.mpr c15
                        clear c15
                        obtain ⟨ji16, hji16⟩ : ∃ j_ : Int, (wrap64 ((x0_2.size : Int) - 2)) = j_ := ⟨_, rfl⟩
                        replace H : (if 0 ≤ (ji16) then (if (ji16) < (x0_2.size : Int) then (if (bt x0_2 (ji16)) = 46 then (some (x0_2, true)) else (if (bt x0_2 (ji16)) = 33 then (some (x0_2, true)) else (if (bt x0_2 (ji16)) = 63 then (some (x0_2, true)) else ((spec_l11Two.f k2 x0_2 (strOfNums (([a1] : List Int)))).bind fun t121 => (some (t121, true)))))) else (none)) else (none)) = some (r1, r2) := by first | (rw [hji16] at H; exact H) | (simp only [hji16] at H ⊢; exact H)
                        have hji16w : (IntKind.i64.wrap ((x0_2.size : Int) - 2)) = ji16 := (i64_w _).trans hji16
                        by_cases c17 : 0 ≤ (ji16)
                        · rw [if_pos c17] at H
                          have c17b0 : decide (0 ≤ (ji16)) = true := decide_eq_true c17
                          clear c17
                          by_cases c18 : (ji16) < (x0_2.size : Int)
                          · rw [if_pos c18] at H
                            have c18b0 : decide ((ji16) < (x0_2.size : Int)) = true := decide_eq_true c18
                            clear c18
                            by_cases c20 : (bt x0_2 (ji16)) = 46
                            · rw [if_pos c20] at H
                              have c20b0 : ((bt x0_2 (ji16)) == 46) = true := beq_iff_eq.mpr c20
                              have c20b1 : ((bt x0_2 (ji16)) != 46) = false := bne_eq_false_iff_eq.mpr c20
                              clear c20
                              simp only [Option.some.injEq, Prod.mk.injEq] at H
                              obtain ⟨rfl, rfl⟩ := H
                              have p13 : 0 ≤ ((ji10) : Int) := of_decide_eq_true (by first | (with_reducible assumption) | assumption)
                              have q13 : (ji10) < (x0_2.size : Int) := of_decide_eq_true (by first | (with_reducible assumption) | assumption)
                              have hx13 := bt_at x0_2 (ji10)
                              replace p13 := eq_true p13
                              replace q13 := eq_true q13
                              have p19 : 0 ≤ ((ji16) : Int) := of_decide_eq_true (by first | (with_reducible assumption) | assumption)
                              have q19 : (ji16) < (x0_2.size : Int) := of_decide_eq_true (by first | (with_reducible assumption) | assumption)
                              have hx19 := bt_at x0_2 (ji16)
                              replace p19 := eq_true p19
                              replace q19 := eq_true q19
                              go_wp2
                              go_ret2
                              exact ⟨by first | rfl | (simp [errW_none, errW_some] <;> rfl) | (simp only [← hji10, ← hji16]; first | rfl | (simp [errW_none, errW_some] <;> rfl)) | (simp [*, errW_none, errW_some] <;> rfl), by repeat (first | (with_reducible first | exact HB.out | apply below_alloc | apply pw_below_drewN | apply below_drew1) | exact HB.out)⟩
                            · rw [if_neg c20] at H
                              have c20b0 : ((bt x0_2 (ji16)) == 46) = false := beq_eq_false_iff_ne.mpr c20
                              have c20b1 : ((bt x0_2 (ji16)) != 46) = true := bne_iff_ne.mpr c20
                              by_cases c22 : (bt x0_2 (ji16)) = 33
                              · rw [if_pos c22] at H
                                have c22b0 : ((bt x0_2 (ji16)) == 33) = true := beq_iff_eq.mpr c22
                                have c22b1 : ((bt x0_2 (ji16)) != 33) = false := bne_eq_false_iff_eq.mpr c22
                                clear c22
                                simp only [Option.some.injEq, Prod.mk.injEq] at H
                                obtain ⟨rfl, rfl⟩ := H
                                have p13 : 0 ≤ ((ji10) : Int) := of_decide_eq_true (by first | (with_reducible assumption) | assumption)
                                have q13 : (ji10) < (x0_2.size : Int) := of_decide_eq_true (by first | (with_reducible assumption) | assumption)
                                have hx13 := bt_at x0_2 (ji10)
                                replace p13 := eq_true p13
                                replace q13 := eq_true q13
                                have p19 : 0 ≤ ((ji16) : Int) := of_decide_eq_true (by first | (with_reducible assumption) | assumption)
                                have q19 : (ji16) < (x0_2.size : Int) := of_decide_eq_true (by first | (with_reducible assumption) | assumption)
                                have hx19 := bt_at x0_2 (ji16)
                                replace p19 := eq_true p19
                                replace q19 := eq_true q19
                                have p21 : 0 ≤ ((ji16) : Int) := of_decide_eq_true (by first | (with_reducible assumption) | assumption)
                                have q21 : (ji16) < (x0_2.size : Int) := of_decide_eq_true (by first | (with_reducible assumption) | assumption)
                                have hx21 := bt_at x0_2 (ji16)
                                replace p21 := eq_true p21
                                replace q21 := eq_true q21
                                go_wp2
                                go_ret2
                                exact ⟨by first | rfl | (simp [errW_none, errW_some] <;> rfl) | (simp only [← hji10, ← hji16]; first | rfl | (simp [errW_none, errW_some] <;> rfl)) | (simp [*, errW_none, errW_some] <;> rfl), by repeat (first | (with_reducible first | exact HB.out | apply below_alloc | apply pw_below_drewN | apply below_drew1) | exact HB.out)⟩
                              · rw [if_neg c22] at H
                                have c22b0 : ((bt x0_2 (ji16)) == 33) = false := beq_eq_false_iff_ne.mpr c22
                                have c22b1 : ((bt x0_2 (ji16)) != 33) = true := bne_iff_ne.mpr c22
                                by_cases c24 : (bt x0_2 (ji16)) = 63
                                · rw [if_pos c24] at H
                                  have c24b0 : ((bt x0_2 (ji16)) == 63) = true := beq_iff_eq.mpr c24
                                  have c24b1 : ((bt x0_2 (ji16)) != 63) = false := bne_eq_false_iff_eq.mpr c24
                                  clear c24
                                  simp only [Option.some.injEq, Prod.mk.injEq] at H
                                  obtain ⟨rfl, rfl⟩ := H
                                  have p13 : 0 ≤ ((ji10) : Int) := of_decide_eq_true (by first | (with_reducible assumption) | assumption)
                                  have q13 : (ji10) < (x0_2.size : Int) := of_decide_eq_true (by first | (with_reducible assumption) | assumption)
                                  have hx13 := bt_at x0_2 (ji10)
                                  replace p13 := eq_true p13
                                  replace q13 := eq_true q13
                                  have p19 : 0 ≤ ((ji16) : Int) := of_decide_eq_true (by first | (with_reducible assumption) | assumption)
                                  have q19 : (ji16) < (x0_2.size : Int) := of_decide_eq_true (by first | (with_reducible assumption) | assumption)
                                  have hx19 := bt_at x0_2 (ji16)
                                  replace p19 := eq_true p19
                                  replace q19 := eq_true q19
                                  have p21 : 0 ≤ ((ji16) : Int) := of_decide_eq_true (by first | (with_reducible assumption) | assumption)
                                  have q21 : (ji16) < (x0_2.size : Int) := of_decide_eq_true (by first | (with_reducible assumption) | assumption)
                                  have hx21 := bt_at x0_2 (ji16)
                                  replace p21 := eq_true p21
                                  replace q21 := eq_true q21
                                  have p23 : 0 ≤ ((ji16) : Int) := of_decide_eq_true (by first | (with_reducible assumption) | assumption)
                                  have q23 : (ji16) < (x0_2.size : Int) := of_decide_eq_true (by first | (with_reducible assumption) | assumption)
                                  have hx23 := bt_at x0_2 (ji16)
                                  replace p23 := eq_true p23
                                  replace q23 := eq_true q23
                                  go_wp2
                                  go_ret2
                                  exact ⟨by first | rfl | (simp [errW_none, errW_some] <;> rfl) | (simp only [← hji10, ← hji16]; first | rfl | (simp [errW_none, errW_some] <;> rfl)) | (simp [*, errW_none, errW_some] <;> rfl), by repeat (first | (with_reducible first | exact HB.out | apply below_alloc | apply pw_below_drewN | apply below_drew1) | exact HB.out)⟩
                                · rw [if_neg c24] at H
                                  have c24b0 : ((bt x0_2 (ji16)) == 63) = false := beq_eq_false_iff_ne.mpr c24
                                  have c24b1 : ((bt x0_2 (ji16)) != 63) = true := bne_iff_ne.mpr c24
                                  obtain ⟨y118, hy118⟩ : ∃ y_ : List Int, y_ = (([a1] : List Int)) := ⟨_, rfl⟩
                                  replace H : ((spec_l11Two.f k2 x0_2 (strOfNums y118)).bind fun t121 => (some (t121, true))) = some (r1, r2) := by first | (rw [hy118]; with_reducible exact H) | (have H2_ := (Option.bind_some _ _).symm.trans H; rw [hy118]; with_reducible exact H2_) | (have H2_ := (Option.bind_some _ _).symm.trans H; with_reducible exact H2_) | with_reducible exact H | (rw [hy118]; exact H) | exact H
                                  have Ny118 := Aside0.mk hy118
                                  clear hy118
                                  replace H := Option.bind_eq_some_iff.mp H
                                  obtain ⟨t121, A250, H⟩ := H
                                  replace H : (some (t121, true)) = some (r1, r2) := H
                                  have A25 := Aside0.mk A250
                                  clear A250
                                  simp only [Option.some.injEq, Prod.mk.injEq] at H
                                  obtain ⟨rfl, rfl⟩ := H
                                  have p13 : 0 ≤ ((ji10) : Int) := of_decide_eq_true (by first | (with_reducible assumption) | assumption)
                                  have q13 : (ji10) < (x0_2.size : Int) := of_decide_eq_true (by first | (with_reducible assumption) | assumption)
                                  have hx13 := bt_at x0_2 (ji10)
                                  replace p13 := eq_true p13
                                  replace q13 := eq_true q13
                                  have p19 : 0 ≤ ((ji16) : Int) := of_decide_eq_true (by first | (with_reducible assumption) | assumption)
                                  have q19 : (ji16) < (x0_2.size : Int) := of_decide_eq_true (by first | (with_reducible assumption) | assumption)
                                  have hx19 := bt_at x0_2 (ji16)
                                  replace p19 := eq_true p19
                                  replace q19 := eq_true q19
                                  have p21 : 0 ≤ ((ji16) : Int) := of_decide_eq_true (by first | (with_reducible assumption) | assumption)
                                  have q21 : (ji16) < (x0_2.size : Int) := of_decide_eq_true (by first | (with_reducible assumption) | assumption)
                                  have hx21 := bt_at x0_2 (ji16)
                                  replace p21 := eq_true p21
                                  replace q21 := eq_true q21
                                  have p23 : 0 ≤ ((ji16) : Int) := of_decide_eq_true (by first | (with_reducible assumption) | assumption)
                                  have q23 : (ji16) < (x0_2.size : Int) := of_decide_eq_true (by first | (with_reducible assumption) | assumption)
                                  have hx23 := bt_at x0_2 (ji16)
                                  replace p23 := eq_true p23
                                  replace q23 := eq_true q23
                                  go_wp2_with (first | ((with_reducible refine gate_dst (N := 69) rfl ?_); (try (refine gate_guard (by rfl) ?_; dsimp only)); refine Kd.R_lit (Kd.int .u8) _ 5 ?hg (N := 69) ?hd (xs := ([a1] : List Int)) (inner := [.int .u8 a1]) (ok := fun _ => True) (okp := fun _ => True) ?hr ?hp (fun _ hk => hk) trivial (Below.refl _ _) (Nat.le_refl _) (by simp) ?_; (case hd => rfl); (case hg => rfl); (case hr => first | (go_simp; done) | (go_simp; rfl)); (case hp => exact (Reps.one (show Kd.M (Kd.int .u8) _ _ _ a1 [.int .u8 a1] from rfl) (Reps.none _ _))); intro v119 w26 ho27 hb hg_ hnew_; clear hg_ hnew_; (first | rw [← Ny118.out] at ho27 | (simp only [Int.reduceToNat] at ho27; rw [← Ny118.out] at ho27)); have n0_ := Aside0.mk (Kd.R_lower ho27 (below_size (by repeat (first | (with_reducible first | exact HB.out | apply below_alloc | apply pw_below_drewN | apply below_drew1) | exact HB.out)))); have n1_ := Aside0.mk (below_step (by repeat (first | (with_reducible first | exact HB.out | apply below_alloc | apply pw_below_drewN | apply below_drew1) | exact HB.out)) hb); clear HB; have HO120 := n0_; have HB := n1_; clear n0_ n1_; clear hb ho27; have hcv28 := own_string (P := Tryd.prog) Tryd.underlying29 Tryd.underlying5 Tryd.underlying9 (Kd.own_of_R HO120.out)) | ((with_reducible refine gate_callee (f := 14) rfl ?_); refine goesL_ (some 71) rfl rfl Tryd.func14 (by kernel_rfl) rfl #[.string x0_2, .string (strOfNums y118)] rfl (by (try simp only [List.map_toArray, List.map_cons, List.map_nil]); first | done | rfl | (simp only [List.length_drop, List.length_take]; rfl)) ?_; (with_reducible refine (spec_l11Two.calls k2 x0_2 (strOfNums y118) t121 _ A25.out).mono ?_); rintro e w29 ⟨rfl, hb⟩; refine ⟨_, rfl, ?_⟩; have n0_ := Aside0.mk (Kd.R_below (by (with_reducible repeat (first | apply Kd.R_alloc | apply Kd.R_drewN | apply Kd.R_drew)); exact HO120.out) hb); have n1_ := Aside0.mk (below_step (by repeat (first | (with_reducible first | exact HB.out | apply below_alloc | apply pw_below_drewN | apply below_drew1) | exact HB.out)) hb); clear HO120; clear HB; have HO120 := n0_; have HB := n1_; clear n0_ n1_; (try clear hb); (try clear hb2); (try clear hk); (try clear hi)))
                                  go_ret2
                                  exact ⟨by first | rfl | (simp [errW_none, errW_some] <;> rfl) | (simp only [← hji10, ← hji16]; first | rfl | (simp [errW_none, errW_some] <;> rfl)) | (simp [*, errW_none, errW_some] <;> rfl), by repeat (first | (with_reducible first | exact HB.out | apply below_alloc | apply pw_below_drewN | apply below_drew1) | exact HB.out)⟩
                          · rw [if_neg c18] at H
                            exact absurd H (by simp)
                        · rw [if_neg c17] at H
                          exact absurd H (by simp)
                      · rw [if_neg c15] at H
                        have c15b0 : (a1 == 46) = false := beq_eq_false_iff_ne.mpr c15
                        have c15b1 : (a1 != 46) = true := bne_iff_ne.mpr c15
                        obtain ⟨y122, hy122⟩ : ∃ y_ : List Int, y_ = (([a1] : List Int)) := ⟨_, rfl⟩
                        replace H : ((spec_l11Two.f k2 x0_2 (strOfNums y122)).bind fun t125 => (some (t125, true))) = some (r1, r2) := by first | (rw [hy122]; with_reducible exact H) | (have H2_ := (Option.bind_some _ _).symm.trans H; rw [hy122]; with_reducible exact H2_) | (have H2_ := (Option.bind_some _ _).symm.trans H; with_reducible exact H2_) | with_reducible exact H | (rw [hy122]; exact H) | exact H
                        have Ny122 := Aside0.mk hy122
                        clear hy122
                        replace H := Option.bind_eq_some_iff.mp H
                        obtain ⟨t125, A300, H⟩ := H
                        replace H : (some (t125, true)) = some (r1, r2) := H
                        have A30 := Aside0.mk A300
                        clear A300
                        simp only [Option.some.injEq, Prod.mk.injEq] at H
                        obtain ⟨rfl, rfl⟩ := H
                        have p13 : 0 ≤ ((ji10) : Int) := of_decide_eq_true (by first | (with_reducible assumption) | assumption)
                        have q13 : (ji10) < (x0_2.size : Int) := of_decide_eq_true (by first | (with_reducible assumption) | assumption)
                        have hx13 := bt_at x0_2 (ji10)
                        replace p13 := eq_true p13
                        replace q13 := eq_true q13
                        go_wp2_with (first | ((with_reducible refine gate_dst (N := 69) rfl ?_); (try (refine gate_guard (by rfl) ?_; dsimp only)); refine Kd.R_lit (Kd.int .u8) _ 5 ?hg (N := 69) ?hd (xs := ([a1] : List Int)) (inner := [.int .u8 a1]) (ok := fun _ => True) (okp := fun _ => True) ?hr ?hp (fun _ hk => hk) trivial (Below.refl _ _) (Nat.le_refl _) (by simp) ?_; (case hd => rfl); (case hg => rfl); (case hr => first | (go_simp; done) | (go_simp; rfl)); (case hp => exact (Reps.one (show Kd.M (Kd.int .u8) _ _ _ a1 [.int .u8 a1] from rfl) (Reps.none _ _))); intro v123 w31 ho32 hb hg_ hnew_; clear hg_ hnew_; (first | rw [← Ny122.out] at ho32 | (simp only [Int.reduceToNat] at ho32; rw [← Ny122.out] at ho32)); have n0_ := Aside0.mk (Kd.R_lower ho32 (below_size (by repeat (first | (with_reducible first | exact HB.out | apply below_alloc | apply pw_below_drewN | apply below_drew1) | exact HB.out)))); have n1_ := Aside0.mk (below_step (by repeat (first | (with_reducible first | exact HB.out | apply below_alloc | apply pw_below_drewN | apply below_drew1) | exact HB.out)) hb); clear HB; have HO124 := n0_; have HB := n1_; clear n0_ n1_; clear hb ho32; have hcv33 := own_string (P := Tryd.prog) Tryd.underlying29 Tryd.underlying5 Tryd.underlying9 (Kd.own_of_R HO124.out)) | ((with_reducible refine gate_callee (f := 14) rfl ?_); refine goesL_ (some 71) rfl rfl Tryd.func14 (by kernel_rfl) rfl #[.string x0_2, .string (strOfNums y122)] rfl (by (try simp only [List.map_toArray, List.map_cons, List.map_nil]); first | done | rfl | (simp only [List.length_drop, List.length_take]; rfl)) ?_; (with_reducible refine (spec_l11Two.calls k2 x0_2 (strOfNums y122) t125 _ A30.out).mono ?_); rintro e w34 ⟨rfl, hb⟩; refine ⟨_, rfl, ?_⟩; have n0_ := Aside0.mk (Kd.R_below (by (with_reducible repeat (first | apply Kd.R_alloc | apply Kd.R_drewN | apply Kd.R_drew)); exact HO124.out) hb); have n1_ := Aside0.mk (below_step (by repeat (first | (with_reducible first | exact HB.out | apply below_alloc | apply pw_below_drewN | apply below_drew1) | exact HB.out)) hb); clear HO124; clear HB; have HO124 := n0_; have HB := n1_; clear n0_ n1_; (try clear hb); (try clear hb2); (try clear hk); (try clear hi)))
                        go_ret2
                        exact ⟨by first | rfl | (simp [errW_none, errW_some] <;> rfl) | (simp only [← hji10]; first | rfl | (simp [errW_none, errW_some] <;> rfl)) | (simp [*, errW_none, errW_some] <;> rfl), by repeat (first | (with_reducible first | exact HB.out | apply below_alloc | apply pw_below_drewN | apply below_drew1) | exact HB.out)⟩
                    · rw [if_neg c14] at H
                      have c14b0 : ((bt x0_2 (ji10)) == 34) = false := beq_eq_false_iff_ne.mpr c14
                      have c14b1 : ((bt x0_2 (ji10)) != 34) = true := bne_iff_ne.mpr c14
                      obtain ⟨y126, hy126⟩ : ∃ y_ : List Int, y_ = (([a1] : List Int)) := ⟨_, rfl⟩
                      replace H : ((spec_l11Two.f k2 x0_2 (strOfNums y126)).bind fun t129 => (some (t129, true))) = some (r1, r2) := by first | (rw [hy126]; with_reducible exact H) | (have H2_ := (Option.bind_some _ _).symm.trans H; rw [hy126]; with_reducible exact H2_) | (have H2_ := (Option.bind_some _ _).symm.trans H; with_reducible exact H2_) | with_reducible exact H | (rw [hy126]; exact H) | exact H
                      have Ny126 := Aside0.mk hy126
                      clear hy126
                      replace H := Option.bind_eq_some_iff.mp H
                      obtain ⟨t129, A350, H⟩ := H
                      replace H : (some (t129, true)) = some (r1, r2) := H
                      have A35 := Aside0.mk A350
                      clear A350
                      simp only [Option.some.injEq, Prod.mk.injEq] at H
                      obtain ⟨rfl, rfl⟩ := H
                      have p13 : 0 ≤ ((ji10) : Int) := of_decide_eq_true (by first | (with_reducible assumption) | assumption)
                      have q13 : (ji10) < (x0_2.size : Int) := of_decide_eq_true (by first | (with_reducible assumption) | assumption)
                      have hx13 := bt_at x0_2 (ji10)
                      replace p13 := eq_true p13
                      replace q13 := eq_true q13
                      go_wp2_with (first | ((with_reducible refine gate_dst (N := 69) rfl ?_); (try (refine gate_guard (by rfl) ?_; dsimp only)); refine Kd.R_lit (Kd.int .u8) _ 5 ?hg (N := 69) ?hd (xs := ([a1] : List Int)) (inner := [.int .u8 a1]) (ok := fun _ => True) (okp := fun _ => True) ?hr ?hp (fun _ hk => hk) trivial (Below.refl _ _) (Nat.le_refl _) (by simp) ?_; (case hd => rfl); (case hg => rfl); (case hr => first | (go_simp; done) | (go_simp; rfl)); (case hp => exact (Reps.one (show Kd.M (Kd.int .u8) _ _ _ a1 [.int .u8 a1] from rfl) (Reps.none _ _))); intro v127 w36 ho37 hb hg_ hnew_; clear hg_ hnew_; (first | rw [← Ny126.out] at ho37 | (simp only [Int.reduceToNat] at ho37; rw [← Ny126.out] at ho37)); have n0_ := Aside0.mk (Kd.R_lower ho37 (below_size (by repeat (first | (with_reducible first | exact HB.out | apply below_alloc | apply pw_below_drewN | apply below_drew1) | exact HB.out)))); have n1_ := Aside0.mk (below_step (by repeat (first | (with_reducible first | exact HB.out | apply below_alloc | apply pw_below_drewN | apply below_drew1) | exact HB.out)) hb); clear HB; have HO128 := n0_; have HB := n1_; clear n0_ n1_; clear hb ho37; have hcv38 := own_string (P := Tryd.prog) Tryd.underlying29 Tryd.underlying5 Tryd.underlying9 (Kd.own_of_R HO128.out)) | ((with_reducible refine gate_callee (f := 14) rfl ?_); refine goesL_ (some 71) rfl rfl Tryd.func14 (by kernel_rfl) rfl #[.string x0_2, .string (strOfNums y126)] rfl (by (try simp only [List.map_toArray, List.map_cons, List.map_nil]); first | done | rfl | (simp only [List.length_drop, List.length_take]; rfl)) ?_; (with_reducible refine (spec_l11Two.calls k2 x0_2 (strOfNums y126) t129 _ A35.out).mono ?_); rintro e w39 ⟨rfl, hb⟩; refine ⟨_, rfl, ?_⟩; have n0_ := Aside0.mk (Kd.R_below (by (with_reducible repeat (first | apply Kd.R_alloc | apply Kd.R_drewN | apply Kd.R_drew)); exact HO128.out) hb); have n1_ := Aside0.mk (below_step (by repeat (first | (with_reducible first | exact HB.out | apply below_alloc | apply pw_below_drewN | apply below_drew1) | exact HB.out)) hb); clear HO128; clear HB; have HO128 := n0_; have HB := n1_; clear n0_ n1_; (try clear hb); (try clear hb2); (try clear hk); (try clear hi)))
                      go_ret2
                      exact ⟨by first | rfl | (simp [errW_none, errW_some] <;> rfl) | (simp only [← hji10]; first | rfl | (simp [errW_none, errW_some] <;> rfl)) | (simp [*, errW_none, errW_some] <;> rfl), by repeat (first | (with_reducible first | exact HB.out | apply below_alloc | apply pw_below_drewN | apply below_drew1) | exact HB.out)⟩
                  · rw [if_neg c12] at H
                    exact absurd H (by simp)
                · rw [if_neg c11] at H
                  exact absurd H (by simp)
              · rw [if_neg c9] at H
                have c9b0 : decide (1 < (x0_2.size : Int)) = false := decide_eq_false c9
                have c9b1 : decide (1 < x0_2.size) = false := decide_eq_false (by omega)
                clear c9
                obtain ⟨y130, hy130⟩ : ∃ y_ : List Int, y_ = (([a1] : List Int)) := ⟨_, rfl⟩
                replace H : ((spec_l11Two.f k2 x0_2 (strOfNums y130)).bind fun t133 => (some (t133, true))) = some (r1, r2) := by first | (rw [hy130]; with_reducible exact H) | (have H2_ := (Option.bind_some _ _).symm.trans H; rw [hy130]; with_reducible exact H2_) | (have H2_ := (Option.bind_some _ _).symm.trans H; with_reducible exact H2_) | with_reducible exact H | (rw [hy130]; exact H) | exact H
                have Ny130 := Aside0.mk hy130
                clear hy130
                replace H := Option.bind_eq_some_iff.mp H
                obtain ⟨t133, A400, H⟩ := H
                replace H : (some (t133, true)) = some (r1, r2) := H
                have A40 := Aside0.mk A400
                clear A400
                simp only [Option.some.injEq, Prod.mk.injEq] at H
                obtain ⟨rfl, rfl⟩ := H
                go_wp2_with (first | ((with_reducible refine gate_dst (N := 69) rfl ?_); (try (refine gate_guard (by rfl) ?_; dsimp only)); refine Kd.R_lit (Kd.int .u8) _ 5 ?hg (N := 69) ?hd (xs := ([a1] : List Int)) (inner := [.int .u8 a1]) (ok := fun _ => True) (okp := fun _ => True) ?hr ?hp (fun _ hk => hk) trivial (Below.refl _ _) (Nat.le_refl _) (by simp) ?_; (case hd => rfl); (case hg => rfl); (case hr => first | (go_simp; done) | (go_simp; rfl)); (case hp => exact (Reps.one (show Kd.M (Kd.int .u8) _ _ _ a1 [.int .u8 a1] from rfl) (Reps.none _ _))); intro v131 w41 ho42 hb hg_ hnew_; clear hg_ hnew_; (first | rw [← Ny130.out] at ho42 | (simp only [Int.reduceToNat] at ho42; rw [← Ny130.out] at ho42)); have n0_ := Aside0.mk (Kd.R_lower ho42 (below_size (by repeat (first | (with_reducible first | exact HB.out | apply below_alloc | apply pw_below_drewN | apply below_drew1) | exact HB.out)))); have n1_ := Aside0.mk (below_step (by repeat (first | (with_reducible first | exact HB.out | apply below_alloc | apply pw_below_drewN | apply below_drew1) | exact HB.out)) hb); clear HB; have HO132 := n0_; have HB := n1_; clear n0_ n1_; clear hb ho42; have hcv43 := own_string (P := Tryd.prog) Tryd.underlying29 Tryd.underlying5 Tryd.underlying9 (Kd.own_of_R HO132.out)) | ((with_reducible refine gate_callee (f := 14) rfl ?_); refine goesL_ (some 71) rfl rfl Tryd.func14 (by kernel_rfl) rfl #[.string x0_2, .string (strOfNums y130)] rfl (by (try simp only [List.map_toArray, List.map_cons, List.map_nil]); first | done | rfl | (simp only [List.length_drop, List.length_take]; rfl)) ?_; (with_reducible refine (spec_l11Two.calls k2 x0_2 (strOfNums y130) t133 _ A40.out).mono ?_); rintro e w44 ⟨rfl, hb⟩; refine ⟨_, rfl, ?_⟩; have n0_ := Aside0.mk (Kd.R_below (by (with_reducible repeat (first | apply Kd.R_alloc | apply Kd.R_drewN | apply Kd.R_drew)); exact HO132.out) hb); have n1_ := Aside0.mk (below_step (by repeat (first | (with_reducible first | exact HB.out | apply below_alloc | apply pw_below_drewN | apply below_drew1) | exact HB.out)) hb); clear HO132; clear HB; have HO132 := n0_; have HB := n1_; clear n0_ n1_; (try clear hb); (try clear hb2); (try clear hk); (try clear hi)))
                go_ret2
                exact ⟨by first | rfl | (simp [errW_none, errW_some] <;> rfl) | (simp [*, errW_none, errW_some] <;> rfl), by repeat (first | (with_reducible first | exact HB.out | apply below_alloc | apply pw_below_drewN | apply below_drew1) | exact HB.out)⟩
            · rw [if_neg c8] at H
              have c8b0 : (x0_2.toList == ([] : List UInt8)) = false := beq_eq_false_iff_ne.mpr c8
              have c8b1 : (x0_2.toList != ([] : List UInt8)) = true := bne_iff_ne.mpr c8
              obtain ⟨ji45, hji45⟩ : ∃ j_ : Int, (wrap64 ((x0_2.size : Int) - 1)) = j_ := ⟨_, rfl⟩
              replace H : (if 0 ≤ (ji45) then (if (ji45) < (x0_2.size : Int) then (if (bt x0_2 (ji45)) = 32 then (if (ji45) ≤ (x0_2.size : Int) then (spec_EndWith.l0 k2 (x0_2.extract 0 ((ji45) : Int).toNat) a1) else (none)) else (if (x0_2.size : Int) > 1 then (if (bt x0_2 (ji45)) = 34 then (if a1 = 46 then (if 0 ≤ (wrap64 ((x0_2.size : Int) - 2)) then (if (wrap64 ((x0_2.size : Int) - 2)) < (x0_2.size : Int) then (if (bt x0_2 (wrap64 ((x0_2.size : Int) - 2))) = 46 then (some (x0_2, true)) else (if (bt x0_2 (wrap64 ((x0_2.size : Int) - 2))) = 33 then (some (x0_2, true)) else (if (bt x0_2 (wrap64 ((x0_2.size : Int) - 2))) = 63 then (some (x0_2, true)) else ((spec_l11Two.f k2 x0_2 (strOfNums (([a1] : List Int)))).bind fun t137 => (some (t137, true)))))) else (none)) else (none)) else ((spec_l11Two.f k2 x0_2 (strOfNums (([a1] : List Int)))).bind fun t141 => (some (t141, true)))) else ((spec_l11Two.f k2 x0_2 (strOfNums (([a1] : List Int)))).bind fun t145 => (some (t145, true)))) else ((spec_l11Two.f k2 x0_2 (strOfNums (([a1] : List Int)))).bind fun t149 => (some (t149, true))))) else (none)) else (none)) = some (r1, r2) := by first | (rw [hji45] at H; exact H) | (simp only [hji45] at H ⊢; exact H)
              have hji45w : (IntKind.i64.wrap ((x0_2.size : Int) - 1)) = ji45 := (i64_w _).trans hji45
              by_cases c46 : 0 ≤ (ji45)
              · rw [if_pos c46] at H
                have c46b0 : decide (0 ≤ (ji45)) = true := decide_eq_true c46
                clear c46
                by_cases c47 : (ji45) < (x0_2.size : Int)
                · rw [if_pos c47] at H
                  have c47b0 : decide ((ji45) < (x0_2.size : Int)) = true := decide_eq_true c47
                  clear c47
                  by_cases c49 : (bt x0_2 (ji45)) = 32
                  · rw [if_pos c49] at H
                    have c49b0 : ((bt x0_2 (ji45)) == 32) = true := beq_iff_eq.mpr c49
                    have c49b1 : ((bt x0_2 (ji45)) != 32) = false := bne_eq_false_iff_eq.mpr c49
                    clear c49
                    have c50b0 := eq_true (of_decide_eq_true (by first | (with_reducible assumption) | assumption) : 0 ≤ (ji45))
                    by_cases c51 : (ji45) ≤ (x0_2.size : Int)
                    · rw [if_pos c51] at H
                      have c51b0 := eq_true c51
                      have c51b1 : decide ((ji45) ≤ (x0_2.size : Int)) = true := decide_eq_true c51
                      clear c51
                      have H' := Aside0.mk H
                      clear H
                      have p48 : 0 ≤ ((ji45) : Int) := of_decide_eq_true (by first | (with_reducible assumption) | assumption)
                      have q48 : (ji45) < (x0_2.size : Int) := of_decide_eq_true (by first | (with_reducible assumption) | assumption)
                      have hx48 := bt_at x0_2 (ji45)
                      replace p48 := eq_true p48
                      replace q48 := eq_true q48
                      go_wp2
                      go_roundg k2
                      case measure => have := HJ2.out; have := HK2.out; omega
                      case rel => exact ⟨(x0_2.extract 0 ((ji45) : Int).toNat), (by first | rfl | (simp; done) | (simp only [← hji45] <;> (first | rfl | simp)) | (simp [*]; done)), H', ⟨by have := HJ2.out; have := HK2.out; omega⟩, ⟨by repeat (first | (with_reducible first | exact HB.out | apply below_alloc | apply pw_below_drewN | apply below_drew1) | exact HB.out)⟩⟩
                    · rw [if_neg c51] at H
                      exact absurd H (by simp)
                  · rw [if_neg c49] at H
                    have c49b0 : ((bt x0_2 (ji45)) == 32) = false := beq_eq_false_iff_ne.mpr c49
                    have c49b1 : ((bt x0_2 (ji45)) != 32) = true := bne_iff_ne.mpr c49
                    by_cases c52 : (x0_2.size : Int) > 1
                    · rw [if_pos c52] at H
                      have c52b0 : decide (1 < (x0_2.size : Int)) = true := decide_eq_true c52
                      have c52b1 : decide (1 < x0_2.size) = true := decide_eq_true (by omega)
                      clear c52
                      by_cases c54 : (bt x0_2 (ji45)) = 34
                      · rw [if_pos c54] at H
                        have c54b0 : ((bt x0_2 (ji45)) == 34) = true := beq_iff_eq.mpr c54
                        have c54b1 : ((bt x0_2 (ji45)) != 34) = false := bne_eq_false_iff_eq.mpr c54
                        clear c54
                        by_cases c55 : a1 = 46
                        · rw [if_pos c55] at H
                          have c55b0 : (a1 == 46) = true := beq_iff_eq.mpr c55
                          have c55b1 : (a1 != 46) = false := bne_eq_false_iff_eq.mpr c55
                          clear c55
                          obtain ⟨ji56, hji56⟩ : ∃ j_ : Int, (wrap64 ((x0_2.size : Int) - 2)) = j_ := ⟨_, rfl⟩
                          replace H : (if 0 ≤ (ji56) then (if (ji56) < (x0_2.size : Int) then (if (bt x0_2 (ji56)) = 46 then (some (x0_2, true)) else (if (bt x0_2 (ji56)) = 33 then (some (x0_2, true)) else (if (bt x0_2 (ji56)) = 63 then (some (x0_2, true)) else ((spec_l11Two.f k2 x0_2 (strOfNums (([a1] : List Int)))).bind fun t137 => (some (t137, true)))))) else (none)) else (none)) = some (r1, r2) := by first | (rw [hji56] at H; exact H) | (simp only [hji56] at H ⊢; exact H)
                          have hji56w : (IntKind.i64.wrap ((x0_2.size : Int) - 2)) = ji56 := (i64_w _).trans hji56
                          by_cases c57 : 0 ≤ (ji56)
                          · rw [if_pos c57] at H
                            have c57b0 : decide (0 ≤ (ji56)) = true := decide_eq_true c57
                            clear c57
                            by_cases c58 : (ji56) < (x0_2.size : Int)
                            · rw [if_pos c58] at H
                              have c58b0 : decide ((ji56) < (x0_2.size : Int)) = true := decide_eq_true c58
                              clear c58
                              by_cases c60 : (bt x0_2 (ji56)) = 46
                              · rw [if_pos c60] at H
                                have c60b0 : ((bt x0_2 (ji56)) == 46) = true := beq_iff_eq.mpr c60
                                have c60b1 : ((bt x0_2 (ji56)) != 46) = false := bne_eq_false_iff_eq.mpr c60
                                clear c60
                                simp only [Option.some.injEq, Prod.mk.injEq] at H
                                obtain ⟨rfl, rfl⟩ := H
                                have p48 : 0 ≤ ((ji45) : Int) := of_decide_eq_true (by first | (with_reducible assumption) | assumption)
                                have q48 : (ji45) < (x0_2.size : Int) := of_decide_eq_true (by first | (with_reducible assumption) | assumption)
                                have hx48 := bt_at x0_2 (ji45)
                                replace p48 := eq_true p48
                                replace q48 := eq_true q48
                                have p53 : 0 ≤ ((ji45) : Int) := of_decide_eq_true (by first | (with_reducible assumption) | assumption)
                                have q53 : (ji45) < (x0_2.size : Int) := of_decide_eq_true (by first | (with_reducible assumption) | assumption)
                                have hx53 := bt_at x0_2 (ji45)
                                replace p53 := eq_true p53
                                replace q53 := eq_true q53
                                have p59 : 0 ≤ ((ji56) : Int) := of_decide_eq_true (by first | (with_reducible assumption) | assumption)
                                have q59 : (ji56) < (x0_2.size : Int) := of_decide_eq_true (by first | (with_reducible assumption) | assumption)
                                have hx59 := bt_at x0_2 (ji56)
                                replace p59 := eq_true p59
                                replace q59 := eq_true q59
                                go_wp2
                                go_ret2
                                exact ⟨by first | rfl | (simp [errW_none, errW_some] <;> rfl) | (simp only [← hji45, ← hji56]; first | rfl | (simp [errW_none, errW_some] <;> rfl)) | (simp [*, errW_none, errW_some] <;> rfl), by repeat (first | (with_reducible first | exact HB.out | apply below_alloc | apply pw_below_drewN | apply below_drew1) | exact HB.out)⟩
                              · rw [if_neg c60] at H
                                have c60b0 : ((bt x0_2 (ji56)) == 46) = false := beq_eq_false_iff_ne.mpr c60
                                have c60b1 : ((bt x0_2 (ji56)) != 46) = true := bne_iff_ne.mpr c60
                                by_cases c62 : (bt x0_2 (ji56)) = 33
                                · rw [if_pos c62] at H
                                  have c62b0 : ((bt x0_2 (ji56)) == 33) = true := beq_iff_eq.mpr c62
                                  have c62b1 : ((bt x0_2 (ji56)) != 33) = false := bne_eq_false_iff_eq.mpr c62
                                  clear c62
                                  simp only [Option.some.injEq, Prod.mk.injEq] at H
                                  obtain ⟨rfl, rfl⟩ := H
                                  have p48 : 0 ≤ ((ji45) : Int) := of_decide_eq_true (by first | (with_reducible assumption) | assumption)
                                  have q48 : (ji45) < (x0_2.size : Int) := of_decide_eq_true (by first | (with_reducible assumption) | assumption)
                                  have hx48 := bt_at x0_2 (ji45)
                                  replace p48 := eq_true p48
                                  replace q48 := eq_true q48
                                  have p53 : 0 ≤ ((ji45) : Int) := of_decide_eq_true (by first | (with_reducible assumption) | assumption)
                                  have q53 : (ji45) < (x0_2.size : Int) := of_decide_eq_true (by first | (with_reducible assumption) | assumption)
                                  have hx53 := bt_at x0_2 (ji45)
                                  replace p53 := eq_true p53
                                  replace q53 := eq_true q53
                                  have p59 : 0 ≤ ((ji56) : Int) := of_decide_eq_true (by first | (with_reducible assumption) | assumption)
                                  have q59 : (ji56) < (x0_2.size : Int) := of_decide_eq_true (by first | (with_reducible assumption) | assumption)
                                  have hx59 := bt_at x0_2 (ji56)
                                  replace p59 := eq_true p59
                                  replace q59 := eq_true q59
                                  have p61 : 0 ≤ ((ji56) : Int) := of_decide_eq_true (by first | (with_reducible assumption) | assumption)
                                  have q61 : (ji56) < (x0_2.size : Int) := of_decide_eq_true (by first | (with_reducible assumption) | assumption)
                                  have hx61 := bt_at x0_2 (ji56)
                                  replace p61 := eq_true p61
                                  replace q61 := eq_true q61
                                  go_wp2
                                  go_ret2
                                  exact ⟨by first | rfl | (simp [errW_none, errW_some] <;> rfl) | (simp only [← hji45, ← hji56]; first | rfl | (simp [errW_none, errW_some] <;> rfl)) | (simp [*, errW_none, errW_some] <;> rfl), by repeat (first | (with_reducible first | exact HB.out | apply below_alloc | apply pw_below_drewN | apply below_drew1) | exact HB.out)⟩
                                · rw [if_neg c62] at H
                                  have c62b0 : ((bt x0_2 (ji56)) == 33) = false := beq_eq_false_iff_ne.mpr c62
                                  have c62b1 : ((bt x0_2 (ji56)) != 33) = true := bne_iff_ne.mpr c62
                                  by_cases c64 : (bt x0_2 (ji56)) = 63
                                  · rw [if_pos c64] at H
                                    have c64b0 : ((bt x0_2 (ji56)) == 63) = true := beq_iff_eq.mpr c64
                                    have c64b1 : ((bt x0_2 (ji56)) != 63) = false := bne_eq_false_iff_eq.mpr c64
                                    clear c64
                                    simp only [Option.some.injEq, Prod.mk.injEq] at H
                                    obtain ⟨rfl, rfl⟩ := H
                                    have p48 : 0 ≤ ((ji45) : Int) := of_decide_eq_true (by first | (with_reducible assumption) | assumption)
                                    have q48 : (ji45) < (x0_2.size : Int) := of_decide_eq_true (by first | (with_reducible assumption) | assumption)
                                    have hx48 := bt_at x0_2 (ji45)
                                    replace p48 := eq_true p48
                                    replace q48 := eq_true q48
                                    have p53 : 0 ≤ ((ji45) : Int) := of_decide_eq_true (by first | (with_reducible assumption) | assumption)
                                    have q53 : (ji45) < (x0_2.size : Int) := of_decide_eq_true (by first | (with_reducible assumption) | assumption)
                                    have hx53 := bt_at x0_2 (ji45)
                                    replace p53 := eq_true p53
                                    replace q53 := eq_true q53
                                    have p59 : 0 ≤ ((ji56) : Int) := of_decide_eq_true (by first | (with_reducible assumption) | assumption)
                                    have q59 : (ji56) < (x0_2.size : Int) := of_decide_eq_true (by first | (with_reducible assumption) | assumption)
                                    have hx59 := bt_at x0_2 (ji56)
                                    replace p59 := eq_true p59
                                    replace q59 := eq_true q59
                                    have p61 : 0 ≤ ((ji56) : Int) := of_decide_eq_true (by first | (with_reducible assumption) | assumption)
                                    have q61 : (ji56) < (x0_2.size : Int) := of_decide_eq_true (by first | (with_reducible assumption) | assumption)
                                    have hx61 := bt_at x0_2 (ji56)
                                    replace p61 := eq_true p61
                                    replace q61 := eq_true q61
                                    have p63 : 0 ≤ ((ji56) : Int) := of_decide_eq_true (by first | (with_reducible assumption) | assumption)
                                    have q63 : (ji56) < (x0_2.size : Int) := of_decide_eq_true (by first | (with_reducible assumption) | assumption)
                                    have hx63 := bt_at x0_2 (ji56)
                                    replace p63 := eq_true p63
                                    replace q63 := eq_true q63
                                    go_wp2
                                    go_ret2
                                    exact ⟨by first | rfl | (simp [errW_none, errW_some] <;> rfl) | (simp only [← hji45, ← hji56]; first | rfl | (simp [errW_none, errW_some] <;> rfl)) | (simp [*, errW_none, errW_some] <;> rfl), by repeat (first | (with_reducible first | exact HB.out | apply below_alloc | apply pw_below_drewN | apply below_drew1) | exact HB.out)⟩
                                  · rw [if_neg c64] at H
                                    have c64b0 : ((bt x0_2 (ji56)) == 63) = false := beq_eq_false_iff_ne.mpr c64
                                    have c64b1 : ((bt x0_2 (ji56)) != 63) = true := bne_iff_ne.mpr c64
                                    obtain ⟨y134, hy134⟩ : ∃ y_ : List Int, y_ = (([a1] : List Int)) := ⟨_, rfl⟩
                                    replace H : ((spec_l11Two.f k2 x0_2 (strOfNums y134)).bind fun t137 => (some (t137, true))) = some (r1, r2) := by first | (rw [hy134]; with_reducible exact H) | (have H2_ := (Option.bind_some _ _).symm.trans H; rw [hy134]; with_reducible exact H2_) | (have H2_ := (Option.bind_some _ _).symm.trans H; with_reducible exact H2_) | with_reducible exact H | (rw [hy134]; exact H) | exact H
                                    have Ny134 := Aside0.mk hy134
                                    clear hy134
                                    replace H := Option.bind_eq_some_iff.mp H
                                    obtain ⟨t137, A650, H⟩ := H
                                    replace H : (some (t137, true)) = some (r1, r2) := H
                                    have A65 := Aside0.mk A650
                                    clear A650
                                    simp only [Option.some.injEq, Prod.mk.injEq] at H
                                    obtain ⟨rfl, rfl⟩ := H
                                    have p48 : 0 ≤ ((ji45) : Int) := of_decide_eq_true (by first | (with_reducible assumption) | assumption)
                                    have q48 : (ji45) < (x0_2.size : Int) := of_decide_eq_true (by first | (with_reducible assumption) | assumption)
                                    have hx48 := bt_at x0_2 (ji45)
                                    replace p48 := eq_true p48
                                    replace q48 := eq_true q48
                                    have p53 : 0 ≤ ((ji45) : Int) := of_decide_eq_true (by first | (with_reducible assumption) | assumption)
                                    have q53 : (ji45) < (x0_2.size : Int) := of_decide_eq_true (by first | (with_reducible assumption) | assumption)
                                    have hx53 := bt_at x0_2 (ji45)
                                    replace p53 := eq_true p53
                                    replace q53 := eq_true q53
                                    have p59 : 0 ≤ ((ji56) : Int) := of_decide_eq_true (by first | (with_reducible assumption) | assumption)
                                    have q59 : (ji56) < (x0_2.size : Int) := of_decide_eq_true (by first | (with_reducible assumption) | assumption)
                                    have hx59 := bt_at x0_2 (ji56)
                                    replace p59 := eq_true p59
                                    replace q59 := eq_true q59
                                    have p61 : 0 ≤ ((ji56) : Int) := of_decide_eq_true (by first | (with_reducible assumption) | assumption)
                                    have q61 : (ji56) < (x0_2.size : Int) := of_decide_eq_true (by first | (with_reducible assumption) | assumption)
                                    have hx61 := bt_at x0_2 (ji56)
                                    replace p61 := eq_true p61
                                    replace q61 := eq_true q61
                                    have p63 : 0 ≤ ((ji56) : Int) := of_decide_eq_true (by first | (with_reducible assumption) | assumption)
                                    have q63 : (ji56) < (x0_2.size : Int) := of_decide_eq_true (by first | (with_reducible assumption) | assumption)
                                    have hx63 := bt_at x0_2 (ji56)
                                    replace p63 := eq_true p63
                                    replace q63 := eq_true q63
                                    go_wp2_with (first | ((with_reducible refine gate_dst (N := 69) rfl ?_); (try (refine gate_guard (by rfl) ?_; dsimp only)); refine Kd.R_lit (Kd.int .u8) _ 5 ?hg (N := 69) ?hd (xs := ([a1] : List Int)) (inner := [.int .u8 a1]) (ok := fun _ => True) (okp := fun _ => True) ?hr ?hp (fun _ hk => hk) trivial (Below.refl _ _) (Nat.le_refl _) (by simp) ?_; (case hd => rfl); (case hg => rfl); (case hr => first | (go_simp; done) | (go_simp; rfl)); (case hp => exact (Reps.one (show Kd.M (Kd.int .u8) _ _ _ a1 [.int .u8 a1] from rfl) (Reps.none _ _))); intro v135 w66 ho67 hb hg_ hnew_; clear hg_ hnew_; (first | rw [← Ny134.out] at ho67 | (simp only [Int.reduceToNat] at ho67; rw [← Ny134.out] at ho67)); have n0_ := Aside0.mk (Kd.R_lower ho67 (below_size (by repeat (first | (with_reducible first | exact HB.out | apply below_alloc | apply pw_below_drewN | apply below_drew1) | exact HB.out)))); have n1_ := Aside0.mk (below_step (by repeat (first | (with_reducible first | exact HB.out | apply below_alloc | apply pw_below_drewN | apply below_drew1) | exact HB.out)) hb); clear HB; have HO136 := n0_; have HB := n1_; clear n0_ n1_; clear hb ho67; have hcv68 := own_string (P := Tryd.prog) Tryd.underlying29 Tryd.underlying5 Tryd.underlying9 (Kd.own_of_R HO136.out)) | ((with_reducible refine gate_callee (f := 14) rfl ?_); refine goesL_ (some 71) rfl rfl Tryd.func14 (by kernel_rfl) rfl #[.string x0_2, .string (strOfNums y134)] rfl (by (try simp only [List.map_toArray, List.map_cons, List.map_nil]); first | done | rfl | (simp only [List.length_drop, List.length_take]; rfl)) ?_; (with_reducible refine (spec_l11Two.calls k2 x0_2 (strOfNums y134) t137 _ A65.out).mono ?_); rintro e w69 ⟨rfl, hb⟩; refine ⟨_, rfl, ?_⟩; have n0_ := Aside0.mk (Kd.R_below (by (with_reducible repeat (first | apply Kd.R_alloc | apply Kd.R_drewN | apply Kd.R_drew)); exact HO136.out) hb); have n1_ := Aside0.mk (below_step (by repeat (first | (with_reducible first | exact HB.out | apply below_alloc | apply pw_below_drewN | apply below_drew1) | exact HB.out)) hb); clear HO136; clear HB; have HO136 := n0_; have HB := n1_; clear n0_ n1_; (try clear hb); (try clear hb2); (try clear hk); (try clear hi)))
                                    go_ret2
                                    exact ⟨by first | rfl | (simp [errW_none, errW_some] <;> rfl) | (simp only [← hji45, ← hji56]; first | rfl | (simp [errW_none, errW_some] <;> rfl)) | (simp [*, errW_none, errW_some] <;> rfl), by repeat (first | (with_reducible first | exact HB.out | apply below_alloc | apply pw_below_drewN | apply below_drew1) | exact HB.out)⟩
                            · rw [if_neg c58] at H
                              exact absurd H (by simp)
                          · rw [if_neg c57] at H
                            exact absurd H (by simp)
                        · rw [if_neg c55] at H
                          have c55b0 : (a1 == 46) = false := beq_eq_false_iff_ne.mpr c55
                          have c55b1 : (a1 != 46) = true := bne_iff_ne.mpr c55
                          obtain ⟨y138, hy138⟩ : ∃ y_ : List Int, y_ = (([a1] : List Int)) := ⟨_, rfl⟩
                          replace H : ((spec_l11Two.f k2 x0_2 (strOfNums y138)).bind fun t141 => (some (t141, true))) = some (r1, r2) := by first | (rw [hy138]; with_reducible exact H) | (have H2_ := (Option.bind_some _ _).symm.trans H; rw [hy138]; with_reducible exact H2_) | (have H2_ := (Option.bind_some _ _).symm.trans H; with_reducible exact H2_) | with_reducible exact H | (rw [hy138]; exact H) | exact H
                          have Ny138 := Aside0.mk hy138
                          clear hy138
                          replace H := Option.bind_eq_some_iff.mp H
                          obtain ⟨t141, A700, H⟩ := H
                          replace H : (some (t141, true)) = some (r1, r2) := H
                          have A70 := Aside0.mk A700
                          clear A700
                          simp only [Option.some.injEq, Prod.mk.injEq] at H
                          obtain ⟨rfl, rfl⟩ := H
                          have p48 : 0 ≤ ((ji45) : Int) := of_decide_eq_true (by first | (with_reducible assumption) | assumption)
                          have q48 : (ji45) < (x0_2.size : Int) := of_decide_eq_true (by first | (with_reducible assumption) | assumption)
                          have hx48 := bt_at x0_2 (ji45)
                          replace p48 := eq_true p48
                          replace q48 := eq_true q48
                          have p53 : 0 ≤ ((ji45) : Int) := of_decide_eq_true (by first | (with_reducible assumption) | assumption)
                          have q53 : (ji45) < (x0_2.size : Int) := of_decide_eq_true (by first | (with_reducible assumption) | assumption)
                          have hx53 := bt_at x0_2 (ji45)
                          replace p53 := eq_true p53
                          replace q53 := eq_true q53
                          go_wp2_with (first | ((with_reducible refine gate_dst (N := 69) rfl ?_); (try (refine gate_guard (by rfl) ?_; dsimp only)); refine Kd.R_lit (Kd.int .u8) _ 5 ?hg (N := 69) ?hd (xs := ([a1] : List Int)) (inner := [.int .u8 a1]) (ok := fun _ => True) (okp := fun _ => True) ?hr ?hp (fun _ hk => hk) trivial (Below.refl _ _) (Nat.le_refl _) (by simp) ?_; (case hd => rfl); (case hg => rfl); (case hr => first | (go_simp; done) | (go_simp; rfl)); (case hp => exact (Reps.one (show Kd.M (Kd.int .u8) _ _ _ a1 [.int .u8 a1] from rfl) (Reps.none _ _))); intro v139 w71 ho72 hb hg_ hnew_; clear hg_ hnew_; (first | rw [← Ny138.out] at ho72 | (simp only [Int.reduceToNat] at ho72; rw [← Ny138.out] at ho72)); have n0_ := Aside0.mk (Kd.R_lower ho72 (below_size (by repeat (first | (with_reducible first | exact HB.out | apply below_alloc | apply pw_below_drewN | apply below_drew1) | exact HB.out)))); have n1_ := Aside0.mk (below_step (by repeat (first | (with_reducible first | exact HB.out | apply below_alloc | apply pw_below_drewN | apply below_drew1) | exact HB.out)) hb); clear HB; have HO140 := n0_; have HB := n1_; clear n0_ n1_; clear hb ho72; have hcv73 := own_string (P := Tryd.prog) Tryd.underlying29 Tryd.underlying5 Tryd.underlying9 (Kd.own_of_R HO140.out)) | ((with_reducible refine gate_callee (f := 14) rfl ?_); refine goesL_ (some 71) rfl rfl Tryd.func14 (by kernel_rfl) rfl #[.string x0_2, .string (strOfNums y138)] rfl (by (try simp only [List.map_toArray, List.map_cons, List.map_nil]); first | done | rfl | (simp only [List.length_drop, List.length_take]; rfl)) ?_; (with_reducible refine (spec_l11Two.calls k2 x0_2 (strOfNums y138) t141 _ A70.out).mono ?_); rintro e w74 ⟨rfl, hb⟩; refine ⟨_, rfl, ?_⟩; have n0_ := Aside0.mk (Kd.R_below (by (with_reducible repeat (first | apply Kd.R_alloc | apply Kd.R_drewN | apply Kd.R_drew)); exact HO140.out) hb); have n1_ := Aside0.mk (below_step (by repeat (first | (with_reducible first | exact HB.out | apply below_alloc | apply pw_below_drewN | apply below_drew1) | exact HB.out)) hb); clear HO140; clear HB; have HO140 := n0_; have HB := n1_; clear n0_ n1_; (try clear hb); (try clear hb2); (try clear hk); (try clear hi)))
                          go_ret2
                          exact ⟨by first | rfl | (simp [errW_none, errW_some] <;> rfl) | (simp only [← hji45]; first | rfl | (simp [errW_none, errW_some] <;> rfl)) | (simp [*, errW_none, errW_some] <;> rfl), by repeat (first | (with_reducible first | exact HB.out | apply below_alloc | apply pw_below_drewN | apply below_drew1) | exact HB.out)⟩
                      · rw [if_neg c54] at H
                        have c54b0 : ((bt x0_2 (ji45)) == 34) = false := beq_eq_false_iff_ne.mpr c54
                        have c54b1 : ((bt x0_2 (ji45)) != 34) = true := bne_iff_ne.mpr c54
                        obtain ⟨y142, hy142⟩ : ∃ y_ : List Int, y_ = (([a1] : List Int)) := ⟨_, rfl⟩
                        replace H : ((spec_l11Two.f k2 x0_2 (strOfNums y142)).bind fun t145 => (some (t145, true))) = some (r1, r2) := by first | (rw [hy142]; with_reducible exact H) | (have H2_ := (Option.bind_some _ _).symm.trans H; rw [hy142]; with_reducible exact H2_) | (have H2_ := (Option.bind_some _ _).symm.trans H; with_reducible exact H2_) | with_reducible exact H | (rw [hy142]; exact H) | exact H
                        have Ny142 := Aside0.mk hy142
                        clear hy142
                        replace H := Option.bind_eq_some_iff.mp H
                        obtain ⟨t145, A750, H⟩ := H
                        replace H : (some (t145, true)) = some (r1, r2) := H
                        have A75 := Aside0.mk A750
                        clear A750
                        simp only [Option.some.injEq, Prod.mk.injEq] at H
                        obtain ⟨rfl, rfl⟩ := H
                        have p48 : 0 ≤ ((ji45) : Int) := of_decide_eq_true (by first | (with_reducible assumption) | assumption)
                        have q48 : (ji45) < (x0_2.size : Int) := of_decide_eq_true (by first | (with_reducible assumption) | assumption)
                        have hx48 := bt_at x0_2 (ji45)
                        replace p48 := eq_true p48
                        replace q48 := eq_true q48
                        have p53 : 0 ≤ ((ji45) : Int) := of_decide_eq_true (by first | (with_reducible assumption) | assumption)
                        have q53 : (ji45) < (x0_2.size : Int) := of_decide_eq_true (by first | (with_reducible assumption) | assumption)
                        have hx53 := bt_at x0_2 (ji45)
                        replace p53 := eq_true p53
                        replace q53 := eq_true q53
                        go_wp2_with (first | ((with_reducible refine gate_dst (N := 69) rfl ?_); (try (refine gate_guard (by rfl) ?_; dsimp only)); refine Kd.R_lit (Kd.int .u8) _ 5 ?hg (N := 69) ?hd (xs := ([a1] : List Int)) (inner := [.int .u8 a1]) (ok := fun _ => True) (okp := fun _ => True) ?hr ?hp (fun _ hk => hk) trivial (Below.refl _ _) (Nat.le_refl _) (by simp) ?_; (case hd => rfl); (case hg => rfl); (case hr => first | (go_simp; done) | (go_simp; rfl)); (case hp => exact (Reps.one (show Kd.M (Kd.int .u8) _ _ _ a1 [.int .u8 a1] from rfl) (Reps.none _ _))); intro v143 w76 ho77 hb hg_ hnew_; clear hg_ hnew_; (first | rw [← Ny142.out] at ho77 | (simp only [Int.reduceToNat] at ho77; rw [← Ny142.out] at ho77)); have n0_ := Aside0.mk (Kd.R_lower ho77 (below_size (by repeat (first | (with_reducible first | exact HB.out | apply below_alloc | apply pw_below_drewN | apply below_drew1) | exact HB.out)))); have n1_ := Aside0.mk (below_step (by repeat (first | (with_reducible first | exact HB.out | apply below_alloc | apply pw_below_drewN | apply below_drew1) | exact HB.out)) hb); clear HB; have HO144 := n0_; have HB := n1_; clear n0_ n1_; clear hb ho77; have hcv78 := own_string (P := Tryd.prog) Tryd.underlying29 Tryd.underlying5 Tryd.underlying9 (Kd.own_of_R HO144.out)) | ((with_reducible refine gate_callee (f := 14) rfl ?_); refine goesL_ (some 71) rfl rfl Tryd.func14 (by kernel_rfl) rfl #[.string x0_2, .string (strOfNums y142)] rfl (by (try simp only [List.map_toArray, List.map_cons, List.map_nil]); first | done | rfl | (simp only [List.length_drop, List.length_take]; rfl)) ?_; (with_reducible refine (spec_l11Two.calls k2 x0_2 (strOfNums y142) t145 _ A75.out).mono ?_); rintro e w79 ⟨rfl, hb⟩; refine ⟨_, rfl, ?_⟩; have n0_ := Aside0.mk (Kd.R_below (by (with_reducible repeat (first | apply Kd.R_alloc | apply Kd.R_drewN | apply Kd.R_drew)); exact HO144.out) hb); have n1_ := Aside0.mk (below_step (by repeat (first | (with_reducible first | exact HB.out | apply below_alloc | apply pw_below_drewN | apply below_drew1) | exact HB.out)) hb); clear HO144; clear HB; have HO144 := n0_; have HB := n1_; clear n0_ n1_; (try clear hb); (try clear hb2); (try clear hk); (try clear hi)))
                        go_ret2
                        exact ⟨by first | rfl | (simp [errW_none, errW_some] <;> rfl) | (simp only [← hji45]; first | rfl | (simp [errW_none, errW_some] <;> rfl)) | (simp [*, errW_none, errW_some] <;> rfl), by repeat (first | (with_reducible first | exact HB.out | apply below_alloc | apply pw_below_drewN | apply below_drew1) | exact HB.out)⟩
                    · rw [if_neg c52] at H
                      have c52b0 : decide (1 < (x0_2.size : Int)) = false := decide_eq_false c52
                      have c52b1 : decide (1 < x0_2.size) = false := decide_eq_false (by omega)
                      clear c52
                      obtain ⟨y146, hy146⟩ : ∃ y_ : List Int, y_ = (([a1] : List Int)) := ⟨_, rfl⟩
                      replace H : ((spec_l11Two.f k2 x0_2 (strOfNums y146)).bind fun t149 => (some (t149, true))) = some (r1, r2) := by first | (rw [hy146]; with_reducible exact H) | (have H2_ := (Option.bind_some _ _).symm.trans H; rw [hy146]; with_reducible exact H2_) | (have H2_ := (Option.bind_some _ _).symm.trans H; with_reducible exact H2_) | with_reducible exact H | (rw [hy146]; exact H) | exact H
                      have Ny146 := Aside0.mk hy146
                      clear hy146
                      replace H := Option.bind_eq_some_iff.mp H
                      obtain ⟨t149, A800, H⟩ := H
                      replace H : (some (t149, true)) = some (r1, r2) := H
                      have A80 := Aside0.mk A800
                      clear A800
                      simp only [Option.some.injEq, Prod.mk.injEq] at H
                      obtain ⟨rfl, rfl⟩ := H
                      have p48 : 0 ≤ ((ji45) : Int) := of_decide_eq_true (by first | (with_reducible assumption) | assumption)
                      have q48 : (ji45) < (x0_2.size : Int) := of_decide_eq_true (by first | (with_reducible assumption) | assumption)
                      have hx48 := bt_at x0_2 (ji45)
                      replace p48 := eq_true p48
                      replace q48 := eq_true q48
                      go_wp2_with (first | ((with_reducible refine gate_dst (N := 69) rfl ?_); (try (refine gate_guard (by rfl) ?_; dsimp only)); refine Kd.R_lit (Kd.int .u8) _ 5 ?hg (N := 69) ?hd (xs := ([a1] : List Int)) (inner := [.int .u8 a1]) (ok := fun _ => True) (okp := fun _ => True) ?hr ?hp (fun _ hk => hk) trivial (Below.refl _ _) (Nat.le_refl _) (by simp) ?_; (case hd => rfl); (case hg => rfl); (case hr => first | (go_simp; done) | (go_simp; rfl)); (case hp => exact (Reps.one (show Kd.M (Kd.int .u8) _ _ _ a1 [.int .u8 a1] from rfl) (Reps.none _ _))); intro v147 w81 ho82 hb hg_ hnew_; clear hg_ hnew_; (first | rw [← Ny146.out] at ho82 | (simp only [Int.reduceToNat] at ho82; rw [← Ny146.out] at ho82)); have n0_ := Aside0.mk (Kd.R_lower ho82 (below_size (by repeat (first | (with_reducible first | exact HB.out | apply below_alloc | apply pw_below_drewN | apply below_drew1) | exact HB.out)))); have n1_ := Aside0.mk (below_step (by repeat (first | (with_reducible first | exact HB.out | apply below_alloc | apply pw_below_drewN | apply below_drew1) | exact HB.out)) hb); clear HB; have HO148 := n0_; have HB := n1_; clear n0_ n1_; clear hb ho82; have hcv83 := own_string (P := Tryd.prog) Tryd.underlying29 Tryd.underlying5 Tryd.underlying9 (Kd.own_of_R HO148.out)) | ((with_reducible refine gate_callee (f := 14) rfl ?_); refine goesL_ (some 71) rfl rfl Tryd.func14 (by kernel_rfl) rfl #[.string x0_2, .string (strOfNums y146)] rfl (by (try simp only [List.map_toArray, List.map_cons, List.map_nil]); first | done | rfl | (simp only [List.length_drop, List.length_take]; rfl)) ?_; (with_reducible refine (spec_l11Two.calls k2 x0_2 (strOfNums y146) t149 _ A80.out).mono ?_); rintro e w84 ⟨rfl, hb⟩; refine ⟨_, rfl, ?_⟩; have n0_ := Aside0.mk (Kd.R_below (by (with_reducible repeat (first | apply Kd.R_alloc | apply Kd.R_drewN | apply Kd.R_drew)); exact HO148.out) hb); have n1_ := Aside0.mk (below_step (by repeat (first | (with_reducible first | exact HB.out | apply below_alloc | apply pw_below_drewN | apply below_drew1) | exact HB.out)) hb); clear HO148; clear HB; have HO148 := n0_; have HB := n1_; clear n0_ n1_; (try clear hb); (try clear hb2); (try clear hk); (try clear hi)))
                      go_ret2
                      exact ⟨by first | rfl | (simp [errW_none, errW_some] <;> rfl) | (simp only [← hji45]; first | rfl | (simp [errW_none, errW_some] <;> rfl)) | (simp [*, errW_none, errW_some] <;> rfl), by repeat (first | (with_reducible first | exact HB.out | apply below_alloc | apply pw_below_drewN | apply below_drew1) | exact HB.out)⟩
                · rw [if_neg c47] at H
                  exact absurd H (by simp)
              · rw [if_neg c46] at H
                exact absurd H (by simp)

end Go.Proofs.YtciminppeclofaaDoor.Px
