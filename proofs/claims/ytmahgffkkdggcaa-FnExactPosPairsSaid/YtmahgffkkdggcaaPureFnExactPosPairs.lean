/- FnExactPosPairs: for every two texts (longer than 2^20: nothing is asked) the program's PosPairs gives the reference's spans; what the caller writes into them stays, and a second call gives the same again. -/
import Derived.Test.YtmahgffkkdggcaaDFnExactPosPairs
namespace Go.Proofs.Ytmahgffkkdggcaa.Pure
open Go.RowKit Go.Proofs.Ytmahgffkkdggcaa.QFnExactPosPairs Go.Proofs.YtmahgffkkdggcaaW.PrintWords Go.Proofs.YtmahgffkkdggcaaW.PrintLast Go.Proofs.Ytmahgffkkdggcaa

theorem FnExactPosPairs : laws_FnExactPosPairs.Pure := by
  intro s t hs ht
  by_cases c : (s.size : Int) > 1048576
  · exact ⟨0, by unfold laws_FnExactPosPairs.f; rw [if_pos c]⟩
  by_cases c2 : (t.size : Int) > 1048576
  · exact ⟨0, by unfold laws_FnExactPosPairs.f; rw [if_neg c, if_pos c2]⟩
  have hl := pairs_len s t
  refine ⟨s.size + t.size + 10, ?_⟩
  unfold laws_FnExactPosPairs.f
  rw [if_neg c, if_neg c2, spec_pairs_ev s t (by omega) (by omega) _ (by omega), Option.bind_some, impl_pos_ev s t (by omega) (by omega) _ (by omega), Option.bind_some, eqspans_ev _ (by omega) _ (by omega), Option.bind_some, if_pos rfl,
    markspan_ev _ (by omega) _ (by omega), Option.bind_some]; dsimp only
  rw [heldspan_ev _ (by omega) _ (by omega), Option.bind_some, if_neg (by omega), if_pos rfl, Option.bind_some, eqspans_ev _ (by omega) _ (by omega), Option.bind_some, if_pos rfl, Option.bind_some, if_neg (by omega), if_pos rfl]

end Go.Proofs.Ytmahgffkkdggcaa.Pure
