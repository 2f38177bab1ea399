/- That calls of Go functions come to what the Lean functions beside them say; written by a program of this session (wip/xprint) over the printed words; no conditions. -/
import Derived.Test.YtgaepocgpjbapaaPx0
namespace Go.Proofs.Ytgaepocgpjbapaa.Px
open Go.RowKit Go.Proofs.YtgaepocgpjbapaaW.PrintWords Go.Proofs.YtgaepocgpjbapaaW.PrintLast Go.Proofs.YtgaepocgpjbapaaW.PrintMore
attribute [local go_sem] max2_int min2_int max_two min_two max_three min_three max_four min_four   -- for this text's walks alone
set_option linter.unusedVariables false
set_option linter.unusedSimpArgs false

theorem eqA44 (d : Nat) (w : World) (x0 y0 : ByteArray) (x1 y1 : Bool) (x2 y2 : Bool) :
    (Op.equalIn (d + 2) 44 (.agg #[.string x0, .bool x1, .bool x2]) (.agg #[.string y0, .bool y1, .bool y2])).run Try.prog w = .ok (x0.toList == y0.toList && (x1 == y1 && (x2 == y2))) w := by
  refine eqA_of Try.underlying44 (by kernel_rfl) ?_
  refine eqf_cons (by rfl) (by go_simp; rfl) (by go_simp; rfl) (by go_simp) ?_
  refine eqf_cons (by rfl) (by go_simp; rfl) (by go_simp; rfl) (by go_simp) ?_
  exact eqf_last (by rfl) (by go_simp; rfl) (by go_simp; rfl) (by go_simp)
end Go.Proofs.Ytgaepocgpjbapaa.Px
