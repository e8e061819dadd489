/- FnExactLinBox: for every text (longer than 2^20: nothing is asked) what is read is what the reference reads. -/
import Derived.Test.YtlofgoahgnllkaaDoorDFnExactLinBox
set_option linter.unusedVariables false
set_option linter.unusedSimpArgs false
namespace Go.Proofs.YtlofgoahgnllkaaDoor.Pure
open Go.RowKit Go.Proofs.YtlofgoahgnllkaaDoor.QFnExactLinBox Go.Proofs.YtlofgoahgnllkaaDoor.Ends
theorem FnExactLinBox (s : ByteArray) (hs : s.size ≤ 140737488351232) : ∃ k, laws_FnExactLinBox.f k s = some true := by
  by_cases c : (s.size : Int) > 1048576
  · exact ⟨0, by unfold laws_FnExactLinBox.f; rw [if_pos c]⟩
  · obtain ⟨x, b, _, K, hK⟩ := box_ev s (by omega)
    have h : spec_LinBox.f K s = some _ := hK K (Nat.le_refl _)
    refine ⟨K, ?_⟩
    have i1 : (0 : Int) ≤ (s.size : Int) := by omega
    have i2 : ((s.size : Int)).toNat ≤ 281474976710656 := by omega
    unfold laws_FnExactLinBox.f
    rw [if_neg c, h, Option.bind_some]
    unfold impl_LinBox.f
    rw [h, if_pos i1, if_pos i2]
    simp
end Go.Proofs.YtlofgoahgnllkaaDoor.Pure
