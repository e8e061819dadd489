/- FnLinBox: for every code (longer than 2^20: nothing is asked) the drawn line's box is the reference's; a line that has a box is no line of an end inside, and is the box's own line. -/
import Derived.Test.YtlofgoahgnllkaaDoorDFnLinBox
set_option linter.unusedVariables false
set_option linter.unusedSimpArgs false
namespace Go.Proofs.YtlofgoahgnllkaaDoor.Pure
open Go.RowKit Go.Proofs.YtlofgoahgnllkaaDoor.QFnLinBox Go.Proofs.YtlofgoahgnllkaaDoor.Ends Go.Proofs.YtlofgoahgnllkaaDoorW.PrintWords Go.Proofs.YtlofgoahgnllkaaDoorW.PrintLast Go.Proofs.YtlofgoahgnllkaaDoor
theorem FnLinBox : ∀ (l : List Int), l.length ≤ maxLen → l.length * 1 ≤ 140737488351232 → (∀ x ∈ l, (Lit.int .u8 x).wf = true) → ∃ k, laws_FnLinBox.f k l = some true := by
  intro l hm hl hw
  by_cases c : (l.length : Int) > 1048576
  · exact ⟨0, by unfold laws_FnLinBox.f; rw [if_pos c]⟩
  obtain ⟨t, ⟨K1, e1⟩, ht⟩ := drawlinbox_ev l (Lib.bytes_wf hw) (by omega)
  obtain ⟨x, b, hB, K2, e2⟩ := box_ev t (by omega)
  obtain ⟨u, v, b2, hS, K3, e3⟩ := says_ev t (by omega)
  obtain ⟨K4, e4⟩ := port_ev 50 x
  obtain ⟨K5, e5⟩ := ha_ev
  dsimp only at e1 e2 e3 e4 e5
  refine ⟨K1 + K2 + K3 + K4 + K5 + 1, ?_⟩
  have main : laws_FnLinBox.f (K1 + K2 + K3 + K4 + K5 + 1) l = laws_FnLinBox.j0 (K1 + K2 + K3 + K4 + K5 + 1) t x b false := by
    unfold laws_FnLinBox.f
    rw [if_neg c, e1 _ (by omega)]; simp only [Option.bind_some]
    rw [boxI t (by omega), e2 _ (by omega)]; simp only [Option.bind_some]
    rw [if_pos trivial, bne_self_eq_false]
  rw [main, laws_FnLinBox.j0, if_neg (by decide), saysI t (by omega), e3 _ (by omega)]
  simp only [Option.bind_some]
  rcases hB with ⟨hp, rfl⟩ | ⟨hn, rfl, rfl⟩
  · rw [if_pos rfl]
    have hb2 : b2 = false := by
      rcases hS with ⟨h1, h2, _⟩ | ⟨_, _, _, h⟩
      · obtain ⟨e1, _⟩ := port_one hp h1
        subst e1
        exact absurd h2 (by unfold insB; rw [decide_eq_false (by omega)]; decide)
      · exact h
    rw [if_neg (by rw [hb2]; decide), portI, e4 _ (by omega)]
    simp only [Option.bind_some]
    have : Ends.portV 50 x = t := by unfold Ends.portV; rw [if_pos hp.1]; exact hp.2.symm
    rw [this, beq_self_eq_true]
  · rw [if_neg (by decide), if_pos rfl, e5 _ (by omega)]; rfl
end Go.Proofs.YtlofgoahgnllkaaDoor.Pure
