/- FnExactPosThere: for every two texts (longer than 2^20: nothing is asked) and every place the program's PosThere says what the reference's says. -/
import Derived.Test.YtmahgffkkdggcaaDFnExactPosThere
namespace Go.Proofs.Ytmahgffkkdggcaa.Pure
open Go.RowKit Go.Proofs.Ytmahgffkkdggcaa.QFnExactPosThere Go.Proofs.YtmahgffkkdggcaaW.PrintWords Go.Proofs.YtmahgffkkdggcaaW.PrintLast Go.Proofs.Ytmahgffkkdggcaa

theorem FnExactPosThere : laws_FnExactPosThere.Pure := by
  intro s t at_ hs ht ha
  by_cases c : (s.size : Int) > 1048576
  · exact ⟨0, by unfold laws_FnExactPosThere.f; rw [if_pos c]⟩
  by_cases c2 : (t.size : Int) > 1048576
  · exact ⟨0, by unfold laws_FnExactPosThere.f; rw [if_neg c, if_pos c2]⟩
  have hl := pairs_len s t
  obtain ⟨r, hr⟩ := back_ev (pairsV s t) at_ (by omega)
  refine ⟨s.size + t.size + 10, ?_⟩
  unfold laws_FnExactPosThere.f spec_PosThere.f impl_PosThere.f
  rw [if_neg c, if_neg c2, spec_both_ev s t (by omega) (by omega) _ (by omega), Option.bind_some, hr _ (by omega), Option.bind_some, Option.bind_some, impl_pairs_ev s t (by omega) (by omega) _ (by omega), Option.bind_some, hr _ (by omega), Option.bind_some, Option.bind_some, if_pos rfl]

end Go.Proofs.Ytmahgffkkdggcaa.Pure
