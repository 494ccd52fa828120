/- Functions that the statements of this seat reach, each as a plain Lean function, with a proof that the Go code comes to its answers; no condition. -/
import Derived.Test.YtdlbnkiolpmnbaaMMeex0
namespace Go.Proofs.Ytdlbnkiolpmnbaa.MMee
open Go.RowKit Go.Proofs.YtdlbnkiolpmnbaaW.PrintWords Go.Proofs.YtdlbnkiolpmnbaaW.PrintLast Go.Proofs.YtdlbnkiolpmnbaaW.PrintMore
attribute [local go_sem] max2_int min2_int max_two min_two max_three min_three max_four min_four   -- for this text's walks alone
set_option linter.unusedVariables false
set_option linter.unusedSimpArgs false

theorem eqA44 (d : Nat) (w : World) (x0 y0 : Int) (x1 y1 : Int) :
    (Op.equalIn (d + 2) 44 (.agg #[.int .i64 x0, .int .i64 x1]) (.agg #[.int .i64 y0, .int .i64 y1])).run Try.prog w = .ok (x0 == y0 && (x1 == y1)) w := by
  refine eqA_of Try.underlying44 (by kernel_rfl) ?_
  refine eqf_cons (by rfl) (by go_simp; rfl) (by go_simp; rfl) (by go_simp) ?_
  exact eqf_last (by rfl) (by go_simp; rfl) (by go_simp; rfl) (by go_simp)
end Go.Proofs.Ytdlbnkiolpmnbaa.MMee
