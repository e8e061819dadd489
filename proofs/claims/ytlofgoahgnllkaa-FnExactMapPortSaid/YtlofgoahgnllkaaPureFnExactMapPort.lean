/- FnExactMapPort: for every table (longer than 2^20: nothing is asked) and end the program's MapPort is the reference's, and the table reads as it did. -/
import Derived.Test.YtlofgoahgnllkaaDFnExactMapPort
set_option linter.unusedVariables false
set_option linter.unusedSimpArgs false
namespace Go.Proofs.Ytlofgoahgnllkaa.Pure
open Go.RowKit Go.Proofs.Ytlofgoahgnllkaa.QFnExactMapPort Go.Proofs.YtlofgoahgnllkaaW.PrintWords Go.Proofs.YtlofgoahgnllkaaW.PrintLast Go.Proofs.Ytlofgoahgnllkaa
theorem FnExactMapPort (l : List QFnExactMapPort.S37) (a p : Int) (hm : l.length ≤ 9223372036854775807) (hw : ∀ y ∈ l, (Lit.int .i64 y.f0).wf = true ∧ (Lit.int .i64 y.f1).wf = true) (ha : (Lit.int .i64 a).wf = true) (hp : (Lit.int .i64 p).wf = true) : ∃ k, laws_FnExactMapPort.f k l a p = some true := by
  obtain ⟨r, h1, h2⟩ := sztab_ev l hm
  refine ⟨2 * l.length + 10, ?_⟩
  unfold laws_FnExactMapPort.f
  rw [h1, Option.bind_some]
  by_cases c : r < 0
  · rw [if_pos c]
  · have hl := h2 c
    have hlen : (l.map cvE).length = l.length := by simp
    have hS : ∃ v, spec_MapPort.f (2 * l.length + 10) (l.map cvE) a p = some v ∧ impl_MapPort.f (2 * l.length + 10) (l.map cvE) a p = some v := by
      have hf := find_ev (l.map cvE) a p (by omega) (2 * l.length + 10) (by omega)
      obtain ⟨v, hv⟩ : ∃ v, spec_MapPort.f (2 * l.length + 10) (l.map cvE) a p = some v := by
        unfold spec_MapPort.f
        rw [hf, Option.bind_some]
        split
        · exact ⟨_, rfl⟩
        · exact ⟨_, rfl⟩
      refine ⟨v, hv, ?_⟩
      unfold impl_MapPort.f
      rw [if_pos (by omega), if_pos (by omega), hv]; rfl
    obtain ⟨v, hv1, hv2⟩ := hS
    have hto : laws_toEndPoint.f a p = some (a, p) := rfl
    rw [if_neg c, totab_ev l hl _ (by omega)]
    simp only [Option.bind_some, hto, hv1, hv2, ne_eq, not_true_eq_false, if_false]
    rw [eqtab_ev _ (by omega) _ (by omega)]
    simp
end Go.Proofs.Ytlofgoahgnllkaa.Pure
