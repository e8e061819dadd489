/- FnEndOk: for every code (longer than 2^20: nothing is asked) the end that it draws is inside, outside, or the box's, and of these it is one alone. -/
import Derived.Test.YtndfmhcfeojahaaDFnEndOk
namespace Go.Proofs.Ytndfmhcfeojahaa.Pure
open Go.RowKit Go.Proofs.Ytndfmhcfeojahaa.QFnEndOk Go.Proofs.YtndfmhcfeojahaaW.PrintWords Go.Proofs.YtndfmhcfeojahaaW.PrintLast Go.Proofs.Ytndfmhcfeojahaa

theorem ha_ev : Ev (fun k => laws_haOk.f k) true := by
  obtain ⟨K, h⟩ := impl_lin_ev (⟨#[97]⟩ : ByteArray) (by decide)
  refine ⟨K, fun k hk => ?_⟩
  dsimp only at h ⊢
  unfold laws_haOk.f
  rw [h k hk, show linOkB (⟨#[97]⟩ : ByteArray) = true by decide]; rfl

theorem FnEndOk : laws_FnEndOk.Pure := by
  intro l hm hl hw
  by_cases c : (l.length : Int) > 1048576
  · exact ⟨0, by unfold laws_FnEndOk.f; rw [if_pos c]⟩
  obtain ⟨a, q, ⟨K1, e1⟩⟩ := drawendok_ev l (Lib.bytes_wf hw) (by omega)
  obtain ⟨K5, e5⟩ := ha_ev
  dsimp only at e1 e5
  have i1 : impl_EndInside.f a q = some (decide ((1 ≤ a ∧ a ≤ 9) ∧ 1 ≤ q ∧ q ≤ 999)) := by
    simp only [impl_EndInside.f, impl_inside.f, impl_portOk.f, impl_within.f]
    by_cases h1 : a ≥ 1 <;> by_cases h2 : a ≤ 9 <;> by_cases h3 : q ≥ 1 <;> simp [h1, h2, h3]
  have i2 : impl_EndOutside.f a q = some (decide ((100 ≤ a ∧ a ≤ 109) ∧ 1 ≤ q ∧ q ≤ 999)) := by
    simp only [impl_EndOutside.f, impl_outside.f, impl_portOk.f, impl_within.f]
    by_cases h1 : a ≥ 100 <;> by_cases h2 : a ≤ 109 <;> by_cases h3 : q ≥ 1 <;> simp [h1, h2, h3]
  have i3 : impl_EndOk.f a q = some (decide (endOkP a q)) := by
    simp only [impl_EndOk.f, impl_inside.f, impl_outside.f, impl_portOk.f, impl_within.f, endOkP]
    by_cases h1 : a ≥ 1 <;> by_cases h2 : a ≤ 9 <;> by_cases h3 : q ≥ 1 <;> by_cases h4 : q ≤ 999 <;> by_cases h5 : a ≥ 100 <;> by_cases h6 : a ≤ 109 <;> by_cases h7 : a = 50 <;> simp [h1, h2, h3, h4, h5, h6, h7] <;> omega
  have s1 : spec_EndInside.f a q = some (decide ((1 ≤ a ∧ a ≤ 9) ∧ 1 ≤ q ∧ q ≤ 999)) := by
    simp only [spec_EndInside.f, spec_l1In.f]
    by_cases h1 : a ≥ 1 <;> by_cases h2 : a ≤ 9 <;> by_cases h3 : q ≥ 1 <;> simp [h1, h2, h3]
  have s2 : spec_EndOutside.f a q = some (decide ((100 ≤ a ∧ a ≤ 109) ∧ 1 ≤ q ∧ q ≤ 999)) := by
    simp only [spec_EndOutside.f, spec_l1In.f]
    by_cases h1 : a ≥ 100 <;> by_cases h2 : a ≤ 109 <;> by_cases h3 : q ≥ 1 <;> simp [h1, h2, h3]
  have s3 := spec_end a q
  refine ⟨K1 + K5 + 1, ?_⟩
  unfold laws_FnEndOk.f
  rw [if_neg c, e1 _ (by omega)]; simp only [Option.bind_some]
  rw [i1, i2, i3, s1, s2, s3]; simp only [Option.bind_some, bne_self_eq_false]
  rw [if_neg (by decide), if_neg (by decide), if_neg (by decide)]
  have e6 := e5 (K1 + K5) (by omega)
  by_cases h1 : (1 ≤ a ∧ a ≤ 9) ∧ 1 ≤ q ∧ q ≤ 999
  · have h2 : ¬ ((100 ≤ a ∧ a ≤ 109) ∧ 1 ≤ q ∧ q ≤ 999) := by omega
    have h3 : endOkP a q := by unfold endOkP; omega
    have h4 : ¬ a = 50 := by omega
    rw [decide_eq_true h1, decide_eq_false h2, decide_eq_true h3]
    simp [laws_FnEndOk.j0, h4, e6]
  · by_cases h2 : (100 ≤ a ∧ a ≤ 109) ∧ 1 ≤ q ∧ q ≤ 999
    · have h3 : endOkP a q := by unfold endOkP; omega
      have h4 : ¬ a = 50 := by omega
      rw [decide_eq_false h1, decide_eq_true h2, decide_eq_true h3]
      simp [laws_FnEndOk.j0, h4, e6]
    · rw [decide_eq_false h1, decide_eq_false h2]
      by_cases h4 : a = 50
      · by_cases h5 : 1 ≤ q ∧ q ≤ 999
        · have h3 : endOkP a q := by unfold endOkP; omega
          rw [decide_eq_true h3]
          have g1 := h5.1
          have g2 := h5.2
          simp [laws_FnEndOk.j0, h4, g1, g2, e6]
        · have h3 : ¬ endOkP a q := by unfold endOkP; omega
          rw [decide_eq_false h3]
          by_cases g1 : 1 ≤ q
          · have g2 : ¬ q ≤ 999 := by omega
            simp [laws_FnEndOk.j0, h4, g1, g2, e6]
          · simp [laws_FnEndOk.j0, h4, g1, e6]
      · have h3 : ¬ endOkP a q := by unfold endOkP; omega
        rw [decide_eq_false h3]
        simp [laws_FnEndOk.j0, h4, e6]

end Go.Proofs.Ytndfmhcfeojahaa.Pure
