/- That calls of Go functions come to what the Lean functions beside them say; written by a program of this session (wip/xprint) over the printed words; no conditions. -/
import Derived.Test.YtgaepocgpjbapaaPx0
namespace Go.Proofs.Ytgaepocgpjbapaa.Px
open Go.RowKit Go.Proofs.YtgaepocgpjbapaaW.PrintWords Go.Proofs.YtgaepocgpjbapaaW.PrintLast Go.Proofs.YtgaepocgpjbapaaW.PrintMore
attribute [local go_sem] max2_int min2_int max_two min_two max_three min_three max_four min_four   -- for this text's walks alone
set_option linter.unusedVariables false
set_option linter.unusedSimpArgs false

/-! ### spec_l10Mark: function 44 -/
def spec_l10Mark.f (a0 : Int) : Option (Bool) := if a0 = 42 then (some true) else (if a0 = 95 then (some true) else (some (a0 == 92)))
set_option maxHeartbeats 8000000 in
set_option maxRecDepth 100000 in
theorem spec_l10Mark.calls (a0 : Int) (r : Bool) (w : World) (h : spec_l10Mark.f a0 = some r) :
  Calls Try.prog 44 #[.int .u8 a0] w fun e w' => e = .returned (.bool r) ∧ Drawn0 w w' := by
 have H : (if a0 = 42 then (some true) else (if a0 = 95 then (some true) else (some (a0 == 92)))) = some r := h
 clear h
 by_cases c2 : a0 = 42
 ·rw [if_pos c2] at H
  have c2b0 : (a0 == 42) = true := beq_iff_eq.mpr c2
  have c2b1 : (a0 != 42) = false := bne_eq_false_iff_eq.mpr c2
  clear c2
  obtain rfl := Option.some.inj H
  go_enter Try.func44, Try.ntmps44
  go_wp2
  go_ret
  exact ⟨by first | rfl | (simp; done) | (simp [*]; done), by repeat (first | exact Drawn0.refl _ | apply Drawn0.step)⟩
 ·rw [if_neg c2] at H
  have c2b0 : (a0 == 42) = false := beq_eq_false_iff_ne.mpr c2
  have c2b1 : (a0 != 42) = true := bne_iff_ne.mpr c2
  by_cases c3 : a0 = 95
  ·rw [if_pos c3] at H
   have c3b0 : (a0 == 95) = true := beq_iff_eq.mpr c3
   have c3b1 : (a0 != 95) = false := bne_eq_false_iff_eq.mpr c3
   clear c3
   obtain rfl := Option.some.inj H
   go_enter Try.func44, Try.ntmps44
   go_wp2
   go_ret
   exact ⟨by first | rfl | (simp; done) | (simp [*]; done), by repeat (first | exact Drawn0.refl _ | apply Drawn0.step)⟩
  ·rw [if_neg c3] at H
   have c3b0 : (a0 == 95) = false := beq_eq_false_iff_ne.mpr c3
   have c3b1 : (a0 != 95) = true := bne_iff_ne.mpr c3
   obtain rfl := Option.some.inj H
   go_enter Try.func44, Try.ntmps44
   go_wp2
   go_ret
   exact ⟨by first | rfl | (simp; done) | (simp [*]; done), by repeat (first | exact Drawn0.refl _ | apply Drawn0.step)⟩

end Go.Proofs.Ytgaepocgpjbapaa.Px
