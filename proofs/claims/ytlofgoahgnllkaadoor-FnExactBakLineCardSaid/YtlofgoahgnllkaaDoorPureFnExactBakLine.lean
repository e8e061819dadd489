/- FnExactBakLine: for every table (longer than 2^20: nothing is asked) and line the program's BakLine is the reference's, and the table reads as it did. -/
import Derived.Test.YtlofgoahgnllkaaDoorDFnExactBakLine
set_option linter.unusedVariables false
set_option linter.unusedSimpArgs false
namespace Go.Proofs.YtlofgoahgnllkaaDoor.Pure
open Go.RowKit Go.Proofs.YtlofgoahgnllkaaDoor.QFnExactBakLine Go.Proofs.YtlofgoahgnllkaaDoor.Ends Go.Proofs.YtlofgoahgnllkaaDoorW.PrintWords Go.Proofs.YtlofgoahgnllkaaDoorW.PrintLast Go.Proofs.YtlofgoahgnllkaaDoor
theorem FnExactBakLine (l : List QFnExactBakLine.S48) (s : ByteArray) (hm : l.length ≤ 9223372036854775807) (hw : ∀ y ∈ l, (Lit.int .i64 y.f0).wf = true ∧ (Lit.int .i64 y.f1).wf = true) (hs : s.size ≤ 140737488351232) : ∃ k, laws_FnExactBakLine.f k l s = some true := by
  by_cases c0 : (s.size : Int) > 1048576
  · exact ⟨0, by unfold laws_FnExactBakLine.f; rw [if_pos c0]⟩
  obtain ⟨r, h1, h2⟩ := sztab_ev l hm
  by_cases c : r < 0
  · exact ⟨0, by unfold laws_FnExactBakLine.f; rw [if_neg c0, h1, Option.bind_some, if_pos c]⟩
  have hl := h2 c
  have hlen : (l.map cvE).length = l.length := by simp
  obtain ⟨t, _, ⟨K1, e1⟩, K2, e2⟩ := bak_ev (l.map cvE) s (by omega) (by omega)
  dsimp only at e1 e2
  refine ⟨K1 + K2 + 2 * l.length + 10, ?_⟩
  unfold laws_FnExactBakLine.f
  rw [if_neg c0, h1, Option.bind_some, if_neg c, totab_ev l hl _ (by omega), Option.bind_some, e1 _ (by omega), Option.bind_some, Option.bind_some, e2 _ (by omega), Option.bind_some, if_pos rfl, Option.bind_some, eqtab_ev _ (by omega) _ (by omega), Option.bind_some, if_pos rfl]
end Go.Proofs.YtlofgoahgnllkaaDoor.Pure
