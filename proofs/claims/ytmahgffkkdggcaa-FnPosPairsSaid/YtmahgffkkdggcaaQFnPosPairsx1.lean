-- Laid by a program of this repo (wip/tools/sprint.py): print.py's functions and walks; the contracts named 'BY HAND' are proved by hand.
import Derived.Test.YtmahgffkkdggcaaQFnPosPairsx0
namespace Go.Proofs.Ytmahgffkkdggcaa.QFnPosPairs
open Go.RowKit Go.Proofs.YtmahgffkkdggcaaW.PrintWords Go.Proofs.YtmahgffkkdggcaaW.PrintLast Go.Proofs.YtmahgffkkdggcaaW.PrintMore
attribute [local go_sem] max2_int min2_int max_two min_two max_three min_three max_four min_four   -- for this text's walks alone
set_option linter.unusedVariables false
set_option linter.unusedSimpArgs false

theorem eqA43 (d : Nat) (w : World) (x0 y0 : Int) (x1 y1 : Int) (x2 y2 : Int) (x3 y3 : Int) (x4 y4 : Bool) :
  (Op.equalIn (d + 2) 43 (.agg #[.int .i64 x0, .int .i64 x1, .int .i64 x2, .int .i64 x3, .bool x4]) (.agg #[.int .i64 y0, .int .i64 y1, .int .i64 y2, .int .i64 y3, .bool y4])).run Try.prog w = .ok (x0 == y0 && (x1 == y1 && (x2 == y2 && (x3 == y3 && (x4 == y4))))) w := by
 refine eqA_of Try.underlying43 (by kernel_rfl) ?_
 refine eqf_cons (by rfl) Z0 Z0 (by go_simp) ?_
 refine eqf_cons (by rfl) Z0 Z0 (by go_simp) ?_
 refine eqf_cons (by rfl) Z0 Z0 (by go_simp) ?_
 refine eqf_cons (by rfl) Z0 Z0 (by go_simp) ?_
 exact eqf_last (by rfl) Z0 Z0 (by go_simp)
end Go.Proofs.Ytmahgffkkdggcaa.QFnPosPairs
