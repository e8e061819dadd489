/- FnExactSegRead: for every list of bytes (longer than 2^20: nothing is asked) what the program's SegRead reads is what the reference's reads, and the bytes stand. -/
import Derived.Test.YtdfoelhpeeanlaaDoorDFnExactSegRead
set_option linter.unusedVariables false
set_option linter.unusedSimpArgs false
namespace Go.Proofs.YtdfoelhpeeanlaaDoor.Pure
open Go.RowKit Go.Proofs.YtdfoelhpeeanlaaDoor.QFnExactSegRead Go.Proofs.YtdfoelhpeeanlaaDoorW.PrintWords Go.Proofs.YtdfoelhpeeanlaaDoorW.PrintLast Go.Proofs.YtdfoelhpeeanlaaDoor
theorem FnExactSegRead (l : List Int) (hm : l.length ≤ 9223372036854775807) (hy : l.length * 1 ≤ 140737488351232) (hw : ∀ n ∈ l, (Lit.int .u8 n).wf = true) : ∃ k, laws_FnExactSegRead.f k l = some true := by
  by_cases c0 : (l.length : Int) > 1048576
  · exact ⟨0, by unfold laws_FnExactSegRead.f; rw [if_pos c0]⟩
  have hb := Lib.bytes_wf hw
  obtain ⟨K1, e1⟩ := tob_ev l (by omega)
  obtain ⟨K2, e2⟩ := spec_rd_ev l hb (by omega)
  obtain ⟨K3, e3⟩ := impl_rd_ev l hb (by omega)
  obtain ⟨K4, e4⟩ := eqb_ev l l (by omega)
  dsimp only at e1 e2 e3 e4
  rw [decide_eq_true rfl] at e4
  refine ⟨K1 + K2 + K3 + K4 + 1, ?_⟩
  unfold laws_FnExactSegRead.f
  rw [if_neg c0, e1 _ (by omega), Option.bind_some, e2 _ (by omega), Option.bind_some, Option.bind_some, e3 _ (by omega), Option.bind_some, eqseg_refl, Option.bind_some, if_pos rfl]
  rw [show ((segRdV l).2.2.2.2.2.2.2 != (segRdV l).2.2.2.2.2.2.2) = false by simp, laws_FnExactSegRead.j0, if_neg (by decide), e1 _ (by omega), Option.bind_some, e4 _ (by omega), Option.bind_some, if_pos rfl]
end Go.Proofs.YtdfoelhpeeanlaaDoor.Pure
