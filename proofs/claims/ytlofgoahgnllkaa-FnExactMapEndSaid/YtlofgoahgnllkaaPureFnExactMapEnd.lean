/- FnExactMapEnd: for every table (longer than 2^20: nothing is asked) and number the program's MapEnd is the reference's, and the table reads as it did. -/
import Derived.Test.YtlofgoahgnllkaaDFnExactMapEnd
set_option linter.unusedVariables false
set_option linter.unusedSimpArgs false
namespace Go.Proofs.Ytlofgoahgnllkaa.Pure
open Go.RowKit Go.Proofs.Ytlofgoahgnllkaa.QFnExactMapEnd Go.Proofs.YtlofgoahgnllkaaW.PrintWords Go.Proofs.YtlofgoahgnllkaaW.PrintLast Go.Proofs.Ytlofgoahgnllkaa
theorem spec_end_some (L : List QFnExactMapEnd.S27) (x : Int) (hL : L.length ≤ 1048576) (h0 : -9223372036854775808 ≤ x) (h1 : x ≤ 9223372036854775807) : ∃ v, spec_MapEnd.f L x = some v := by
  unfold spec_MapEnd.f spec_l1In.f
  have e1 : wrap64 (500 + (L.length : Int)) = 500 + (L.length : Int) := Lib.wrap_id (by omega) (by omega)
  have e2 : wrap64 (500 + (L.length : Int) - 1) = 500 + (L.length : Int) - 1 := Lib.wrap_id (by omega) (by omega)
  rw [e1, e2]
  by_cases c : x ≥ 500
  · have e3 : wrap64 (x - 500) = x - 500 := Lib.wrap_id (by omega) (by omega)
    rw [if_pos c, Option.bind_some]
    by_cases c2 : x ≤ 500 + (L.length : Int) - 1
    · rw [decide_eq_true c2, if_pos rfl, e3, if_pos (by omega), if_pos (by omega)]; exact ⟨_, rfl⟩
    · rw [decide_eq_false c2, if_neg (by decide)]; exact ⟨_, rfl⟩
  · rw [if_neg c, Option.bind_some, if_neg (by decide)]; exact ⟨_, rfl⟩
theorem FnExactMapEnd (l : List QFnExactMapEnd.S37) (x : Int) (hm : l.length ≤ 9223372036854775807) (hw : ∀ y ∈ l, (Lit.int .i64 y.f0).wf = true ∧ (Lit.int .i64 y.f1).wf = true) (hx : (Lit.int .i64 x).wf = true) : ∃ k, laws_FnExactMapEnd.f k l x = some true := by
  obtain ⟨r, h1, h2⟩ := sztab_ev l hm
  refine ⟨2 * l.length + 10, ?_⟩
  unfold laws_FnExactMapEnd.f
  rw [h1, Option.bind_some]
  by_cases c : r < 0
  · rw [if_pos c]
  · have hl := h2 c
    have hlen : (l.map cvE).length = l.length := by simp
    have hxb : -9223372036854775808 ≤ x ∧ x ≤ 9223372036854775807 := by
      simp [Lit.wf, IntKind.min, IntKind.max, IntKind.signed, IntKind.bits] at hx
      omega
    obtain ⟨⟨v1, v2, v3⟩, hv1⟩ := spec_end_some (l.map cvE) x (by omega) hxb.1 hxb.2
    have hv2 : impl_MapEnd.f (l.map cvE) x = some (v1, v2, v3) := by
      unfold impl_MapEnd.f
      rw [if_pos (by omega), if_pos (by omega), hv1]; rfl
    have he : laws_eqEndPoint.f v1 v2 v1 v2 = some true := by unfold laws_eqEndPoint.f; simp
    rw [if_neg c, totab_ev l hl _ (by omega)]
    simp only [Option.bind_some, hv1, hv2, he, if_true, ne_eq, bne_self_eq_false, Bool.false_eq_true, if_false, not_true_eq_false]
    rw [show 2 * l.length + 10 = (2 * l.length + 9) + 1 from rfl, laws_FnExactMapEnd.j0, if_neg (by decide), totab_ev l hl _ (by omega), Option.bind_some, eqtab_ev _ (by omega) _ (by omega)]
    simp
end Go.Proofs.Ytlofgoahgnllkaa.Pure
