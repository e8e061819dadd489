/- FnLinShort: for every code (longer than 2^20: nothing is asked) the line of the drawn end is the reference's, a line of at most 16 bytes, that says the end if it is inside and the box if it is the box. -/
import Derived.Test.YtlofgoahgnllkaaDoorDFnLinShort
set_option linter.unusedVariables false
set_option linter.unusedSimpArgs false
namespace Go.Proofs.YtlofgoahgnllkaaDoor.Pure
open Go.RowKit Go.Proofs.YtlofgoahgnllkaaDoor.QFnLinShort Go.Proofs.YtlofgoahgnllkaaDoor.Ends Go.Proofs.YtlofgoahgnllkaaDoorW.PrintWords Go.Proofs.YtlofgoahgnllkaaDoorW.PrintLast Go.Proofs.YtlofgoahgnllkaaDoor
theorem FnLinShort : ∀ (l : List Int), l.length ≤ maxLen → l.length * 1 ≤ 140737488351232 → (∀ x ∈ l, (Lit.int .u8 x).wf = true) → ∃ k, laws_FnLinShort.f k l = some true := by
  intro l hm hl hw
  by_cases c0 : (l.length : Int) > 1048576
  · exact ⟨0, by unfold laws_FnLinShort.f; rw [if_pos c0]⟩
  obtain ⟨a, p, K2, e2⟩ := drawlinport_ev l (Lib.bytes_wf hw) (by omega)
  obtain ⟨K4, e4⟩ := port_ev a p
  obtain ⟨K5, e5⟩ := ha_ev
  have hz := portV_size2 a p
  obtain ⟨u, v, d, hS, K9, e9⟩ := says_ev (Ends.portV a p) (by omega)
  obtain ⟨x, d2, hB, K3, e3⟩ := box_ev (Ends.portV a p) (by omega)
  obtain ⟨K10, e10⟩ := impl_lin_ev (Ends.portV a p) (by omega)
  dsimp only at e2 e3 e4 e5 e9 e10
  obtain ⟨K, hK⟩ : ∃ K, K = K2 + K3 + K4 + K5 + K9 + K10 := ⟨_, rfl⟩
  refine ⟨K, ?_⟩
  unfold laws_FnLinShort.f
  rw [if_neg c0, e2 _ (by omega)]; simp only [Option.bind_some]
  rw [portI, e4 _ (by omega)]; simp only [Option.bind_some]
  rw [if_pos trivial, spec_end, Option.bind_some]
  by_cases c : endOkP a p
  · rw [if_pos (decide_eq_true c)]
    have hv : Ends.portV a p = portT a p := by unfold Ends.portV; rw [if_pos c]
    rw [saysI _ (by omega), e9 _ (by omega)]; simp only [Option.bind_some]
    rw [boxI _ (by omega), e3 _ (by omega)]; simp only [Option.bind_some]
    rw [e10 _ (by omega)]; simp only [Option.bind_some]
    rw [hv, lin_port a p c, if_pos rfl]
    rw [hv] at hS hB hz
    rw [if_pos (by omega)]
    have hp : IsPort (portT a p) a p := ⟨c, rfl⟩
    rcases hS with ⟨h1, h2, rfl⟩ | ⟨h1, rfl, rfl, rfl⟩
    · obtain ⟨rfl, rfl⟩ := port_one hp h1
      have hd : d2 = false := by
        rcases hB with ⟨g, _⟩ | ⟨_, _, g⟩
        · obtain ⟨e, _⟩ := port_one hp g
          subst e
          exact absurd h2 (by unfold insB; rw [decide_eq_false (by omega)]; decide)
        · exact g
      rw [if_pos rfl, hd, if_neg (by decide), spec_ins, Option.bind_some, h2]; rfl
    · have hi := h1 a p hp
      rw [if_neg (by decide), spec_ins, Option.bind_some, hi, if_neg (by decide)]
      rcases hB with ⟨g, rfl⟩ | ⟨g, rfl, rfl⟩
      · obtain ⟨rfl, _⟩ := port_one hp g
        rfl
      · have : a ≠ 50 := fun e => by subst e; exact g p hp
        have h3 : (a == 50) = false := by simpa using this
        rw [h3]; rfl
  · rw [if_neg (by rw [decide_eq_false c]; decide)]
    have hv : Ends.portV a p = ⟨#[]⟩ := by unfold Ends.portV; rw [if_neg c]
    rw [hv, if_pos (by rw [ByteArray.toList_eq]), e5 _ (by omega)]; rfl
end Go.Proofs.YtlofgoahgnllkaaDoor.Pure
