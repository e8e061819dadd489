/- FnExactLinOk: for every text (longer than 2^20: nothing is asked) the program's LinOk is the reference's. -/
import Derived.Test.YtndfmhcfeojahaaQFnExactLinOkx1
namespace Go.Proofs.Ytndfmhcfeojahaa.Pure
open Go.RowKit Go.Proofs.Ytndfmhcfeojahaa.QFnExactLinOk Go.Proofs.YtndfmhcfeojahaaW.PrintWords Go.Proofs.YtndfmhcfeojahaaW.PrintLast

theorem FnExactLinOk (s : ByteArray) (hs : s.size ≤ 140737488351232) : ∃ k, laws_FnExactLinOk.f k s = some true := by
  by_cases c : (s.size : Int) > 1048576
  · exact ⟨0, by unfold laws_FnExactLinOk.f; rw [if_pos c]⟩
  · obtain ⟨K1, h1⟩ := spec_lin_ev s
    obtain ⟨K2, h2⟩ := impl_lin_ev s (by omega)
    dsimp only at h1 h2
    refine ⟨K1 + K2, ?_⟩
    unfold laws_FnExactLinOk.f
    rw [if_neg c, h1 _ (by omega)]
    simp only [Option.bind_some]
    rw [h2 _ (by omega)]
    simp

end Go.Proofs.Ytndfmhcfeojahaa.Pure
