/- FnLinSays: for every two codes (longer than 2^20: nothing is asked) what the drawn line says is the reference's; the line of the drawn end is the reference's, it is a line, and it says that end if it is inside. -/
import Derived.Test.YtlofgoahgnllkaaDoorDFnLinSays
set_option linter.unusedVariables false
set_option linter.unusedSimpArgs false
namespace Go.Proofs.YtlofgoahgnllkaaDoor.Pure
open Go.RowKit Go.Proofs.YtlofgoahgnllkaaDoor.QFnLinSays Go.Proofs.YtlofgoahgnllkaaDoor.Ends Go.Proofs.YtlofgoahgnllkaaDoorW.PrintWords Go.Proofs.YtlofgoahgnllkaaDoorW.PrintLast Go.Proofs.YtlofgoahgnllkaaDoor
theorem FnLinSays : ∀ (l0 : List Int) (l1 : List Int), l0.length ≤ maxLen → l0.length * 1 ≤ 140737488351232 → (∀ x ∈ l0, (Lit.int .u8 x).wf = true) → l1.length ≤ maxLen → l1.length * 1 ≤ 140737488351232 → (∀ x ∈ l1, (Lit.int .u8 x).wf = true) → ∃ k, laws_FnLinSays.f k l0 l1 = some true := by
  intro l0 l1 hm0 hl0 hw0 hm1 hl1 hw1
  have hj : ∀ k, laws_FnLinSays.j0 (k + 1) l0 l1 true = some true := fun k => by rw [laws_FnLinSays.j0, if_pos rfl]
  by_cases c0 : (l0.length : Int) > 1048576
  · exact ⟨1, by unfold laws_FnLinSays.f; rw [if_pos c0]; exact hj 0⟩
  by_cases c1 : (l1.length : Int) > 1048576
  · exact ⟨1, by unfold laws_FnLinSays.f; rw [if_neg c0, decide_eq_true c1]; exact hj 0⟩
  obtain ⟨t, ⟨K1, e1⟩, ht⟩ := drawlinsays_ev l0 (Lib.bytes_wf hw0) (by omega)
  obtain ⟨a, p, K2, e2⟩ := drawlinport_ev l1 (Lib.bytes_wf hw1) (by omega)
  obtain ⟨x, y, b, hS, K3, e3⟩ := says_ev t (by omega)
  obtain ⟨K4, e4⟩ := port_ev a p
  obtain ⟨K5, e5⟩ := ha_ev
  obtain ⟨K6, e6⟩ := spec_lin_ev t
  obtain ⟨K7, e7⟩ := impl_lin_ev t (by omega)
  obtain ⟨K8, e8⟩ := port_ev x y
  have hz := portV_size2 a p
  obtain ⟨u, v, d, hS2, K9, e9⟩ := says_ev (Ends.portV a p) (by omega)
  obtain ⟨K10, e10⟩ := impl_lin_ev (Ends.portV a p) (by omega)
  dsimp only at e1 e2 e3 e4 e5 e6 e7 e8 e9 e10
  obtain ⟨K, hK⟩ : ∃ K, K = K1 + K2 + K3 + K4 + K5 + K6 + K7 + K8 + K9 + K10 := ⟨_, rfl⟩
  refine ⟨K + 3, ?_⟩
  unfold laws_FnLinSays.f
  rw [if_neg c0, decide_eq_false c1, show K + 3 = K + 2 + 1 from rfl, laws_FnLinSays.j0, if_neg (by decide), e1 _ (by omega)]; simp only [Option.bind_some]
  rw [e2 _ (by omega)]; simp only [Option.bind_some]
  rw [saysI t (by omega), e3 _ (by omega)]; simp only [Option.bind_some]
  rw [if_neg (by simp), if_neg (by simp), portI, e4 _ (by omega)]; simp only [Option.bind_some]
  rw [if_pos trivial, e7 _ (by omega)]; simp only [Option.bind_some]
  rw [e6 _ (by omega)]; simp only [Option.bind_some]
  rw [bne_self_eq_false, show K + 2 = K + 1 + 1 from rfl, laws_FnLinSays.j1, if_neg (by decide)]
  have fin : laws_FnLinSays.j2 (K + 1) false a p = some true := by
    rw [laws_FnLinSays.j2, if_neg (by decide), spec_end, Option.bind_some]
    by_cases c : endOkP a p
    · rw [if_pos (decide_eq_true c)]
      have hv : Ends.portV a p = portT a p := by unfold Ends.portV; rw [if_pos c]
      rw [portI, e4 _ (by omega)]; simp only [Option.bind_some]
      rw [saysI _ (by omega), e9 _ (by omega)]; simp only [Option.bind_some]
      rw [e10 _ (by omega)]; simp only [Option.bind_some]
      rw [hv, lin_port a p c, if_pos rfl, spec_ins, Option.bind_some]
      rw [hv] at hS2
      have hp : IsPort (portT a p) a p := ⟨c, rfl⟩
      rcases hS2 with ⟨h1, h2, rfl⟩ | ⟨h1, rfl, rfl, rfl⟩
      · obtain ⟨rfl, rfl⟩ := port_one hp h1
        rw [h2]; simp
      · rw [h1 a p hp]; simp
    · rw [if_neg (by rw [decide_eq_false c]; decide)]
      have hv : Ends.portV a p = ⟨#[]⟩ := by unfold Ends.portV; rw [if_neg c]
      rw [portI, e4 _ (by omega)]; simp only [Option.bind_some]
      rw [hv, if_pos (by rw [ByteArray.toList_eq]), e5 _ (by omega)]; rfl
  rcases hS with ⟨h1, h2, rfl⟩ | ⟨h1, rfl, rfl, rfl⟩
  · have hv : Ends.portV x y = t := by unfold Ends.portV; rw [if_pos h1.1]; exact h1.2.symm
    rw [if_pos rfl, impl_ins, Option.bind_some, if_pos h2, portI, e8 _ (by omega)]; simp only [Option.bind_some]
    rw [hv, bne_self_eq_false]
    exact fin
  · rw [if_neg (by decide)]
    exact fin
end Go.Proofs.YtlofgoahgnllkaaDoor.Pure
