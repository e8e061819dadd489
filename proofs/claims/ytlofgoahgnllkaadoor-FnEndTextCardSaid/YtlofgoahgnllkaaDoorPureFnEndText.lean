/- FnEndText: for every two codes (longer than 2^20: nothing is asked) the drawn end's text and the drawn text's end are the reference's, and each undoes the other. -/
import Derived.Test.YtlofgoahgnllkaaDoorDFnEndText
set_option linter.unusedVariables false
set_option linter.unusedSimpArgs false
namespace Go.Proofs.YtlofgoahgnllkaaDoor.Pure
open Go.RowKit Go.Proofs.YtlofgoahgnllkaaDoor.QFnEndText Go.Proofs.YtlofgoahgnllkaaDoor.Ends Go.Proofs.YtlofgoahgnllkaaDoorW.PrintWords Go.Proofs.YtlofgoahgnllkaaDoorW.PrintLast Go.Proofs.YtlofgoahgnllkaaDoor
theorem FnEndText : ∀ (l0 : List Int) (l1 : List Int), l0.length ≤ maxLen → l0.length * 1 ≤ 140737488351232 → (∀ x ∈ l0, (Lit.int .u8 x).wf = true) → l1.length ≤ maxLen → l1.length * 1 ≤ 140737488351232 → (∀ x ∈ l1, (Lit.int .u8 x).wf = true) → ∃ k, laws_FnEndText.f k l0 l1 = some true := by
  intro l0 l1 hm0 hl0 hw0 hm1 hl1 hw1
  have hj : ∀ k, laws_FnEndText.j0 (k + 1) l0 l1 true = some true := fun k => by rw [laws_FnEndText.j0, if_pos rfl]
  by_cases c0 : (l0.length : Int) > 1048576
  · exact ⟨1, by unfold laws_FnEndText.f; rw [if_pos c0]; exact hj 0⟩
  by_cases c1 : (l1.length : Int) > 1048576
  · exact ⟨1, by unfold laws_FnEndText.f; rw [if_neg c0, decide_eq_true c1]; exact hj 0⟩
  obtain ⟨a, p, K1, e1⟩ := drawendtext_ev l0 (Lib.bytes_wf hw0) (by omega)
  obtain ⟨t, ⟨K2, e2⟩, ht⟩ := drawendread_ev l1 (Lib.bytes_wf hw1) (by omega)
  obtain ⟨x, y, b, hS, K3, e3⟩ := read_ev t (by omega)
  obtain ⟨K4, e4⟩ := text_ev a p
  obtain ⟨K5, e5⟩ := ha_ev
  obtain ⟨K6, e6⟩ := text_ev x y
  have hz := textV_size2 a p
  obtain ⟨u, v, d, hT, K7, e7⟩ := read_ev (textV a p) (by omega)
  dsimp only at e1 e2 e3 e4 e5 e6 e7
  obtain ⟨K, hK⟩ : ∃ K, K = K1 + K2 + K3 + K4 + K5 + K6 + K7 := ⟨_, rfl⟩
  refine ⟨K + 3, ?_⟩
  unfold laws_FnEndText.f
  rw [if_neg c0, decide_eq_false c1, show K + 3 = K + 2 + 1 from rfl, laws_FnEndText.j0, if_neg (by decide), e1 _ (by omega)]; simp only [Option.bind_some]
  rw [e2 _ (by omega)]; simp only [Option.bind_some]
  rw [readI t (by omega), e3 _ (by omega)]; simp only [Option.bind_some]
  rw [textI, e4 _ (by omega)]; simp only [Option.bind_some]
  rw [if_pos trivial, if_neg (by simp), bne_self_eq_false, show K + 2 = K + 1 + 1 from rfl, laws_FnEndText.j1, if_neg (by decide)]
  have fin : laws_FnEndText.j2 (K + 1) false a p = some true := by
    rw [laws_FnEndText.j2, if_neg (by decide), spec_end, Option.bind_some]
    by_cases c : endOkP a p
    · rw [if_pos (decide_eq_true c), textI, e4 _ (by omega)]; simp only [Option.bind_some]
      rw [readI _ (by omega), e7 _ (by omega)]; simp only [Option.bind_some]
      have hi : IsEnd (textV a p) a p := ⟨c, by unfold textV; rw [if_pos c]⟩
      rcases hT with ⟨h1, rfl⟩ | ⟨h1, _⟩
      · obtain ⟨rfl, rfl⟩ := endT_inj a p u v hi.1 h1.1 (hi.2.symm.trans h1.2)
        simp
      · exact absurd hi (h1 a p)
    · have hv : textV a p = ⟨#[]⟩ := by unfold textV; rw [if_neg c]
      rw [if_neg (by rw [decide_eq_false c]; decide), textI, e4 _ (by omega)]; simp only [Option.bind_some]
      rw [hv, if_pos (by rw [ByteArray.toList_eq]), e5 _ (by omega)]; rfl
  rcases hS with ⟨h1, rfl⟩ | ⟨h1, rfl, rfl, rfl⟩
  · have hv : textV x y = t := by unfold textV; rw [if_pos h1.1]; exact h1.2.symm
    rw [if_pos rfl, impl_end, Option.bind_some, if_pos (decide_eq_true h1.1), textI, e6 _ (by omega)]; simp only [Option.bind_some]
    rw [hv, bne_self_eq_false]
    exact fin
  · rw [if_neg (by decide)]
    exact fin
end Go.Proofs.YtlofgoahgnllkaaDoor.Pure
