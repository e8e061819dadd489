/- FnExactSegCut: for every segment, text and place (texts longer than 2^20: nothing is asked) the program's SegCut is the reference's, and is memory of its own. -/
import Derived.Test.YtdfoelhpeeanlaaDFnExactSegCut
set_option linter.unusedVariables false
set_option linter.unusedSimpArgs false
namespace Go.Proofs.Ytdfoelhpeeanlaa.Pure
open Go.RowKit Go.Proofs.Ytdfoelhpeeanlaa.QFnExactSegCut Go.Proofs.YtdfoelhpeeanlaaW.PrintWords Go.Proofs.YtdfoelhpeeanlaaW.PrintLast Go.Proofs.Ytdfoelhpeeanlaa
theorem FnExactSegCut (a p b q x y : Int) (s F : ByteArray) (at_ : Int) (_ : (Lit.int .i64 a).wf = true) (_ : (Lit.int .i64 p).wf = true) (_ : (Lit.int .i64 b).wf = true) (_ : (Lit.int .i64 q).wf = true) (_ : (Lit.int .i64 x).wf = true) (_ : (Lit.int .i64 y).wf = true) (hs : s.size ≤ maxLen) (hF : F.size ≤ 140737488351232) (_ : (Lit.int .i64 at_).wf = true) :
    ∃ k, laws_FnExactSegCut.f k a p b q x y s F at_ = some true := by
  unfold maxLen at hs
  by_cases c0 : (F.size : Int) > 1048576
  · exact ⟨0, by unfold laws_FnExactSegCut.f; rw [if_pos c0]⟩
  have hz := szseg_eq a p b q x y s (by omega)
  by_cases c : (s.size : Int) > 1048576
  · refine ⟨0, ?_⟩
    unfold laws_FnExactSegCut.f
    rw [if_neg c0, hz, Option.bind_some, if_pos (by rw [if_pos (by omega)]; omega)]
  obtain ⟨K1, e1⟩ := segcut_ev F (by omega) a p b q x y s (by omega) at_
  obtain ⟨K2, e2⟩ := ssegcut_ev F (by omega) a p b q x y s at_
  obtain ⟨L, hL⟩ : ∃ L, L = (if segOkB a p b q x y s = true ∧ F.size ≤ 240 ∧ 0 ≤ at_ then cutL F ⟨a, p⟩ ⟨b, q⟩ y at_.toNat else []) := ⟨_, rfl⟩
  rw [← hL] at e1 e2
  have lL : L.length ≤ 100 := by
    rw [hL]
    split
    · rename_i h; exact cutL_len F h.2.1 _ _ _ _
    · simp
  dsimp only at e1 e2
  refine ⟨K1 + K2 + 11000, ?_⟩
  have h1 := eqsegs_ev L (by omega) (K1 + K2 + 11000) (by omega)
  have h2 := markseg_ev L (by omega) (K1 + K2 + 11000) (by omega)
  have h3 := heldseg_ev L.length (by omega) (K1 + K2 + 11000) (by omega)
  unfold laws_FnExactSegCut.f
  rw [if_neg c0, hz, Option.bind_some, if_neg (by rw [if_neg (by omega)]; omega), toseg_eq, Option.bind_some, e2 _ (by omega), Option.bind_some, Option.bind_some, e1 _ (by omega), Option.bind_some, h1, Option.bind_some, if_pos rfl, h2, Option.bind_some, h3, Option.bind_some,
    if_neg (by omega), if_pos rfl, Option.bind_some, e1 _ (by omega), Option.bind_some, h1, Option.bind_some, if_pos rfl, Option.bind_some, if_neg (by omega), if_pos rfl]
end Go.Proofs.Ytdfoelhpeeanlaa.Pure
