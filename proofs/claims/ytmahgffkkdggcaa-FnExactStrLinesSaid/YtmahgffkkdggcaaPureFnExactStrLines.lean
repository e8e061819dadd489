/- FnExactStrLines: for every text (longer than 2^20: nothing is asked) the program's StrLines gives the reference's lines and rest; what the caller writes into them stays, and a second call gives the same again. -/
import Derived.Test.YtmahgffkkdggcaaDFnExactStrLines
namespace Go.Proofs.Ytmahgffkkdggcaa.Pure
open Go.RowKit Go.Proofs.Ytmahgffkkdggcaa.QFnExactStrLines Go.Proofs.YtmahgffkkdggcaaW.PrintWords Go.Proofs.YtmahgffkkdggcaaW.PrintLast Go.Proofs.Ytmahgffkkdggcaa

theorem FnExactStrLines : laws_FnExactStrLines.Pure := by
  intro s hs
  by_cases c : (s.size : Int) > 1048576
  · exact ⟨0, by unfold laws_FnExactStrLines.f; rw [if_pos c]⟩
  have hl := lines_len s
  obtain ⟨n, hn⟩ : ∃ n, n = (Str.linesV s).length := ⟨_, rfl⟩
  obtain ⟨K, hK⟩ : ∃ K, K = 3 * s.size + 10 := ⟨_, rfl⟩
  have b1 : ∀ x : List UInt8, (x != x) = false := fun x => by simp
  refine ⟨K + 2, ?_⟩
  unfold laws_FnExactStrLines.f
  rw [if_neg c, lines_ev s (by omega) _ (by omega), Option.bind_some, implines_ev s (by omega) _ (by omega), Option.bind_some]; dsimp only
  rw [eqstrings_ev _ (by omega) _ (by omega), Option.bind_some, if_pos rfl, b1, laws_FnExactStrLines.j0, if_neg (by decide), mark_ev _ (by omega) _ (by omega), Option.bind_some]; dsimp only
  rw [held_ev _ (by omega) _ (by omega), Option.bind_some, if_neg (by omega), if_pos rfl, implines_ev s (by omega) _ (by omega), Option.bind_some]; dsimp only
  rw [eqstrings_ev _ (by omega) _ (by omega), Option.bind_some, if_pos rfl, b1, laws_FnExactStrLines.j1, if_neg (by decide), held_ev _ (by omega) _ (by omega), Option.bind_some, if_neg (by omega), if_pos rfl]

end Go.Proofs.Ytmahgffkkdggcaa.Pure
