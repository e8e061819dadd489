/- FnExactLinPort: LinPort of any end is the reference's. -/
import Derived.Test.YtlofgoahgnllkaaDoorQFnExactLinPortx1
set_option linter.unusedVariables false
namespace Go.Proofs.YtlofgoahgnllkaaDoor.Pure
open Go.RowKit Go.Proofs.YtlofgoahgnllkaaDoor.QFnExactLinPort Go.Proofs.YtlofgoahgnllkaaDoor.Ends
theorem FnExactLinPort (a p : Int) (h0 : (Lit.int .i64 a).wf = true) (h1 : (Lit.int .i64 p).wf = true) : ∃ k, laws_FnExactLinPort.f k a p = some true := by
  have key : ∃ k t, spec_LinPort.f k a p = some t := by
    by_cases c : endOkP a p
    · obtain ⟨k, hk⟩ := linport_ev a p c
      exact ⟨k, _, hk k (Nat.le_refl _)⟩
    · exact ⟨0, _, linport_no a p c 0⟩
  obtain ⟨k, t, hk⟩ := key
  refine ⟨k, ?_⟩
  unfold laws_FnExactLinPort.f laws_toEndPoint.f impl_LinPort.f
  simp [hk]
end Go.Proofs.YtlofgoahgnllkaaDoor.Pure
