/- FnExactStrOk: for every text (longer than 2^20: nothing is asked) the program's StrOk answers as the reference's. -/
import Derived.Test.YtmahgffkkdggcaaDFnExactStrOk
namespace Go.Proofs.Ytmahgffkkdggcaa.Pure
open Go.RowKit Go.Proofs.Ytmahgffkkdggcaa.QFnExactStrOk Go.Proofs.YtmahgffkkdggcaaW.PrintWords Go.Proofs.YtmahgffkkdggcaaW.PrintLast Go.Proofs.Ytmahgffkkdggcaa

theorem FnExactStrOk : laws_FnExactStrOk.Pure := by
  intro s hs
  by_cases c : (s.size : Int) > 1048576
  · exact ⟨0, by unfold laws_FnExactStrOk.f; rw [if_pos c]⟩
  obtain ⟨K1, e1⟩ := spec_strok_ev s (by omega)
  obtain ⟨K2, e2⟩ := impl_strok_ev s (by omega)
  dsimp only at e1 e2
  refine ⟨K1 + K2, ?_⟩
  unfold laws_FnExactStrOk.f
  rw [if_neg c, e1 _ (by omega), Option.bind_some, e2 _ (by omega), Option.bind_some, if_neg (by simp)]

end Go.Proofs.Ytmahgffkkdggcaa.Pure
