/- FnMapEnd: for every two codes (longer than 2^20: nothing is asked) MapEnd of the drawn port and MapPort of the drawn end are the reference's, and each is the other's: MapEnd of a port that has an end is the end whose MapPort it is (of a table that is ok), and back. -/
import Derived.Test.YtlofgoahgnllkaaDFnMapEnd
set_option linter.unusedVariables false
set_option linter.unusedSimpArgs false
namespace Go.Proofs.Ytlofgoahgnllkaa.Pure
open Go.RowKit Go.Proofs.Ytlofgoahgnllkaa.QFnMapEnd Go.Proofs.YtlofgoahgnllkaaW.PrintWords Go.Proofs.YtlofgoahgnllkaaW.PrintLast Go.Proofs.Ytlofgoahgnllkaa

theorem ha_okM : laws_haOk.f = some true := by
  have hb : bt (⟨#[97]⟩ : ByteArray) 0 = 97 := rfl
  have hs : (⟨#[97]⟩ : ByteArray).size = 1 := rfl
  have w1 : wrap64 97 = 97 := Lib.wrap_id (by omega) (by omega)
  have w2 : wrap64 (97 - 97) = 0 := Lib.wrap_id (x := 97 - 97) (by omega) (by omega)
  have w3 : wrap64 (((1 : Nat) : Int) - 1) = 0 := Lib.wrap_id (x := ((1 : Nat) : Int) - 1) (by omega) (by omega)
  unfold laws_haOk.f impl_LinOk.f
  rw [hb, hs, w1, w2, w3]
  simp
theorem port_is (U : List S27) (a p : Int) (hU : U.length ≤ 1000000) (h : portV U a p ≠ 0) : endV U (portV U a p) = (a, p, true) ∧ -9223372036854775808 ≤ portV U a p ∧ portV U a p ≤ 9223372036854775807 := by
  unfold portV at h ⊢
  by_cases c : fnd U a p 0 < 0
  · rw [if_pos c] at h; exact absurd rfl h
  · rw [if_neg c]
    have hs := fnd_spec U a p U.length 0 (Nat.zero_add _)
    rw [List.drop_zero] at hs
    rw [show ((0 : Nat) : Int) = 0 from rfl] at hs
    rcases hs with ⟨e, _⟩ | ⟨j, _, hj, e, he, _⟩
    · rw [e] at c; exact absurd (by decide) c
    · rw [e]
      refine ⟨?_, by omega, by omega⟩
      unfold endV
      rw [if_pos ⟨by omega, by omega⟩, show 500 + (j : Int) - 500 = (j : Int) by omega, he.1, he.2]
theorem FnMapEnd (l0 l1 : List Int) (hm0 : l0.length ≤ maxLen) (y0 : l0.length * 1 ≤ 140737488351232) (hw0 : ∀ x ∈ l0, (Lit.int .u8 x).wf = true) (hm1 : l1.length ≤ maxLen) (y1 : l1.length * 1 ≤ 140737488351232) (hw1 : ∀ x ∈ l1, (Lit.int .u8 x).wf = true) : ∃ k, laws_FnMapEnd.f k l0 l1 = some true := by
  obtain ⟨T, x, ⟨K1, e1⟩, hT, hx0, hx1⟩ := drawmapend_ev l0 (Lib.bytes_wf hw0) (by omega)
  obtain ⟨U, a, q, ⟨K2, e2⟩, hU⟩ := drawmapport_ev l1 (Lib.bytes_wf hw1) (by omega)
  dsimp only at e1 e2
  obtain ⟨K, hK⟩ : ∃ K, K = K1 + K2 + 100 := ⟨_, rfl⟩
  have j2 : ∀ b : Bool, b = false → laws_FnMapEnd.j2 (K + 1) (portV U a q) b U a q = some true := fun b hb => by
    subst hb
    rw [laws_FnMapEnd.j2, if_neg (by decide)]
    by_cases c : portV U a q = 0
    · rw [if_pos c, ha_okM]; rfl
    · obtain ⟨h1, h2, h3⟩ := port_is U a q (by omega) c
      rw [if_neg c, impl_endv_ev U _ (by omega) h2 h3, h1, Option.bind_some]
      simp
  have j1 : laws_FnMapEnd.j1 (K + 2) x (endV T x).2.2 (portV U a q) false T U a q (endV T x).1 (endV T x).2.1 = some true := by
    rw [show K + 2 = (K + 1) + 1 from rfl, laws_FnMapEnd.j1, if_neg (by decide)]
    by_cases c : (endV T x).2.2 = true
    · rw [if_pos c, spec_ok_ev T (by omega) _ (by omega), Option.bind_some]
      cases d : mapOkB T with
      | false => rw [if_neg (by decide)]; exact j2 false rfl
      | true =>
        rw [if_pos rfl, impl_port_ev T _ _ (by omega) _ (by omega), Option.bind_some]
        refine j2 _ ?_
        have hin : 500 ≤ x ∧ x ≤ 500 + (T.length : Int) - 1 := by
          unfold endV at c
          by_cases h : 500 ≤ x ∧ x ≤ 500 + (T.length : Int) - 1
          · exact h
          · rw [if_neg h] at c; cases c
        obtain ⟨j, hj⟩ := Int.eq_ofNat_of_zero_le (show 0 ≤ x - 500 by omega)
        have hf := fnd_first T d j (by omega)
        have : portV T (endV T x).1 (endV T x).2.1 = x := by
          unfold endV
          rw [if_pos hin, hj]
          unfold portV
          simp only
          rw [hf, if_neg (by omega)]
          omega
        rw [this]; simp
    · rw [if_neg c]; exact j2 false rfl
  have j0 : ∀ b : Bool, laws_FnMapEnd.j0 (K + 3) l0 l1 b = some true := fun b => by
    rw [show K + 3 = (K + 2) + 1 from rfl, laws_FnMapEnd.j0]
    cases b with
    | true => rw [if_pos rfl]
    | false =>
      rw [if_neg (by decide), e1 _ (by omega), Option.bind_some]; dsimp only
      rw [e2 _ (by omega), Option.bind_some]; dsimp only
      rw [impl_endv_ev T x (by omega) hx0 hx1, Option.bind_some, spec_endv_ev T x (by omega) hx0 hx1, Option.bind_some, impl_port_ev U a q (by omega) _ (by omega), Option.bind_some, if_neg (by simp), if_neg (by simp), spec_port_ev U a q (by omega) _ (by omega), Option.bind_some]
      simp only [bne_self_eq_false]
      exact j1
  refine ⟨K + 3, ?_⟩
  unfold laws_FnMapEnd.f
  by_cases c : (l0.length : Int) > 1048576
  · rw [if_pos c]; exact j0 true
  · rw [if_neg c]; exact j0 _
end Go.Proofs.Ytlofgoahgnllkaa.Pure
