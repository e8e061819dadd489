/- FnEndRead: for every two codes (longer than 2^20: nothing is asked) the drawn text's end is the reference's, and two texts that are ends are one end just if they are one text. -/
import Derived.Test.YtlofgoahgnllkaaDoorDFnEndRead
set_option linter.unusedVariables false
set_option linter.unusedSimpArgs false
namespace Go.Proofs.YtlofgoahgnllkaaDoor.Pure
open Go.RowKit Go.Proofs.YtlofgoahgnllkaaDoor.QFnEndRead Go.Proofs.YtlofgoahgnllkaaDoor.Ends Go.Proofs.YtlofgoahgnllkaaDoorW.PrintWords Go.Proofs.YtlofgoahgnllkaaDoorW.PrintLast Go.Proofs.YtlofgoahgnllkaaDoor
theorem FnEndRead : ∀ (l0 : List Int) (l1 : List Int), l0.length ≤ maxLen → l0.length * 1 ≤ 140737488351232 → (∀ x ∈ l0, (Lit.int .u8 x).wf = true) → l1.length ≤ maxLen → l1.length * 1 ≤ 140737488351232 → (∀ x ∈ l1, (Lit.int .u8 x).wf = true) → ∃ k, laws_FnEndRead.f k l0 l1 = some true := by
  intro l0 l1 hm0 hl0 hw0 hm1 hl1 hw1
  have hj : ∀ k, laws_FnEndRead.j0 (k + 1) l0 l1 true = some true := fun k => by rw [laws_FnEndRead.j0, if_pos rfl]
  by_cases c0 : (l0.length : Int) > 1048576
  · exact ⟨1, by unfold laws_FnEndRead.f; rw [if_pos c0]; exact hj 0⟩
  by_cases c1 : (l1.length : Int) > 1048576
  · exact ⟨1, by unfold laws_FnEndRead.f; rw [if_neg c0, decide_eq_true c1]; exact hj 0⟩
  obtain ⟨s, ⟨K1, e1⟩, hs⟩ := drawendread_ev l0 (Lib.bytes_wf hw0) (by omega)
  obtain ⟨t, ⟨K2, e2⟩, ht⟩ := drawendread_ev l1 (Lib.bytes_wf hw1) (by omega)
  obtain ⟨x, y, b, hS, K3, e3⟩ := read_ev s (by omega)
  obtain ⟨u, v, d, hT, K4, e4⟩ := read_ev t (by omega)
  obtain ⟨K5, e5⟩ := ha_ev
  dsimp only at e1 e2 e3 e4 e5
  obtain ⟨K, hK⟩ : ∃ K, K = K1 + K2 + K3 + K4 + K5 := ⟨_, rfl⟩
  refine ⟨K + 2, ?_⟩
  unfold laws_FnEndRead.f
  rw [if_neg c0, decide_eq_false c1, show K + 2 = K + 1 + 1 from rfl, laws_FnEndRead.j0, if_neg (by decide), e1 _ (by omega)]; simp only [Option.bind_some]
  rw [e2 _ (by omega)]; simp only [Option.bind_some]
  rw [readI s (by omega), e3 _ (by omega)]; simp only [Option.bind_some]
  rw [readI t (by omega), e4 _ (by omega)]; simp only [Option.bind_some]
  rw [if_neg (by simp), bne_self_eq_false, laws_FnEndRead.j1, if_neg (by decide)]
  rcases hS with ⟨h1, rfl⟩ | ⟨h1, rfl, rfl, rfl⟩
  · rw [if_pos rfl]
    rcases hT with ⟨h2, rfl⟩ | ⟨h2, rfl, rfl, rfl⟩
    · rw [if_pos rfl]
      congr 1
      rw [toList_eq_iff]
      by_cases e : s = t
      · subst e
        obtain ⟨rfl, rfl⟩ := endT_inj x y u v h1.1 h2.1 (h1.2.symm.trans h2.2)
        simp
      · have : ¬ (x = u ∧ y = v) := fun ⟨e1, e2⟩ => e (by rw [h1.2, h2.2, e1, e2])
        rw [decide_eq_false e]
        by_cases e3 : x = u
        · have e4 : ¬ y = v := fun e4 => this ⟨e3, e4⟩
          simp [e3, e4]
        · simp [e3]
    · rw [if_neg (by decide), e5 _ (by omega)]; rfl
  · rw [if_neg (by decide), if_pos (by decide), e5 _ (by omega)]; rfl
end Go.Proofs.YtlofgoahgnllkaaDoor.Pure
