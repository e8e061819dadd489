/- FnExactRulOk: for every rule the program's RulOk is the reference's. -/
import Derived.Test.YtndfmhcfeojahaaPFnExactRulOkx1
namespace Go.Proofs.Ytndfmhcfeojahaa.Pure
open Go.RowKit Go.Proofs.Ytndfmhcfeojahaa.PFnExactRulOk Go.Proofs.YtndfmhcfeojahaaW.PrintWords Go.Proofs.YtndfmhcfeojahaaW.PrintLast

theorem some_ite (c : Prop) [Decidable c] (x y : Bool) : (if c then some x else some y) = some (if c then x else y) := by split <;> rfl

theorem FnExactRulOk (b : Bool) (i j o q p r : Int) (_ : (Lit.int .i64 i).wf = true) (_ : (Lit.int .i64 j).wf = true) (_ : (Lit.int .i64 o).wf = true) (_ : (Lit.int .i64 q).wf = true) (_ : (Lit.int .i64 p).wf = true) (_ : (Lit.int .i64 r).wf = true) :
    laws_FnExactRulOk.f b i j o q p r = some true := by
  have e1 : spec_RulOk.f b i j o q p r = some (decide (1 ≤ i ∧ i ≤ j ∧ j ≤ 9 ∧ 100 ≤ o ∧ o ≤ q ∧ q ≤ 109 ∧ 1 ≤ p ∧ p ≤ r ∧ r ≤ 999)) := by
    simp only [spec_RulOk.f, spec_l1In.f, ge_iff_le]
    by_cases h1 : 1 ≤ i <;> by_cases h2 : i ≤ j <;> by_cases h3 : j ≤ 9 <;> simp [h1, h2, h3]
    by_cases h4 : 100 ≤ o <;> by_cases h5 : o ≤ q <;> by_cases h6 : q ≤ 109 <;> simp [h4, h5, h6]
    by_cases h7 : 1 ≤ p <;> by_cases h8 : p ≤ r <;> simp [h7, h8]
  have e2 : impl_RulOk.f b i j o q p r = some (decide (1 ≤ i ∧ i ≤ j ∧ j ≤ 9 ∧ 100 ≤ o ∧ o ≤ q ∧ q ≤ 109 ∧ 1 ≤ p ∧ p ≤ r ∧ r ≤ 999)) := by
    have w1 : ∀ x, impl_inside.f x = some (decide (1 ≤ x ∧ x ≤ 9)) := fun x => by
      simp only [impl_inside.f, impl_within.f, ge_iff_le]; by_cases h : 1 ≤ x <;> simp [h]
    have w2 : ∀ x, impl_outside.f x = some (decide (100 ≤ x ∧ x ≤ 109)) := fun x => by
      simp only [impl_outside.f, impl_within.f, ge_iff_le]; by_cases h : 100 ≤ x <;> simp [h]
    have w3 : ∀ x, impl_portOk.f x = some (decide (1 ≤ x ∧ x ≤ 999)) := fun x => by
      simp only [impl_portOk.f, impl_within.f, ge_iff_le]; by_cases h : 1 ≤ x <;> simp [h]
    simp only [impl_RulOk.f, w1, w2, w3, Option.bind_some, decide_eq_true_eq]
    by_cases h1 : 1 ≤ i ∧ i ≤ 9
    · rw [if_pos h1]
      by_cases h2 : 1 ≤ j ∧ j ≤ 9
      · rw [if_pos h2]
        by_cases h3 : i ≤ j
        · rw [if_pos h3]
          by_cases h4 : 100 ≤ o ∧ o ≤ 109
          · rw [if_pos h4]
            by_cases h5 : 100 ≤ q ∧ q ≤ 109
            · rw [if_pos h5]
              by_cases h6 : o ≤ q
              · rw [if_pos h6]
                by_cases h7 : 1 ≤ p ∧ p ≤ 999
                · rw [if_pos h7]
                  by_cases h8 : 1 ≤ r ∧ r ≤ 999
                  · rw [if_pos h8]; congr 1; exact decide_eq_decide.2 (by omega)
                  · rw [if_neg h8]; congr 1; exact (decide_eq_false (by omega)).symm
                · rw [if_neg h7]; congr 1; exact (decide_eq_false (by omega)).symm
              · rw [if_neg h6]; congr 1; exact (decide_eq_false (by omega)).symm
            · rw [if_neg h5]; congr 1; exact (decide_eq_false (by omega)).symm
          · rw [if_neg h4]; congr 1; exact (decide_eq_false (by omega)).symm
        · rw [if_neg h3]; congr 1; exact (decide_eq_false (by omega)).symm
      · rw [if_neg h2]; congr 1; exact (decide_eq_false (by omega)).symm
    · rw [if_neg h1]; congr 1; exact (decide_eq_false (by omega)).symm
  simp only [laws_FnExactRulOk.f, laws_toRulRule.f, Option.bind_some, e1, e2]
  simp

end Go.Proofs.Ytndfmhcfeojahaa.Pure
