/- FnExactMapOk: for every table (longer than 2^20: nothing is asked) the program's MapOk is the reference's, and the table reads as it did. -/
import Derived.Test.YtlofgoahgnllkaaDFnExactMapOk
set_option linter.unusedVariables false
set_option linter.unusedSimpArgs false
namespace Go.Proofs.Ytlofgoahgnllkaa.Pure
open Go.RowKit Go.Proofs.Ytlofgoahgnllkaa.QFnExactMapOk Go.Proofs.YtlofgoahgnllkaaW.PrintWords Go.Proofs.YtlofgoahgnllkaaW.PrintLast Go.Proofs.Ytlofgoahgnllkaa
theorem FnExactMapOk (l : List QFnExactMapOk.S37) (hm : l.length ≤ 9223372036854775807) (hw : ∀ y ∈ l, (Lit.int .i64 y.f0).wf = true ∧ (Lit.int .i64 y.f1).wf = true) : ∃ k, laws_FnExactMapOk.f k l = some true := by
  obtain ⟨r, h1, h2⟩ := sztab_ev l hm
  refine ⟨2 * l.length + 10, ?_⟩
  unfold laws_FnExactMapOk.f
  rw [h1, Option.bind_some]
  by_cases c : r < 0
  · rw [if_pos c]
  · have hl := h2 c
    have hlen : (l.map cvE).length = l.length := by simp
    rw [if_neg c, totab_ev l hl _ (by omega), Option.bind_some, spec_ok_ev _ (by omega) _ (by omega), Option.bind_some, Option.bind_some, impl_ok_ev _ (by omega) _ (by omega), Option.bind_some, if_neg (by simp), Option.bind_some, eqtab_ev _ (by omega) _ (by omega), Option.bind_some, if_pos rfl]
end Go.Proofs.Ytlofgoahgnllkaa.Pure
