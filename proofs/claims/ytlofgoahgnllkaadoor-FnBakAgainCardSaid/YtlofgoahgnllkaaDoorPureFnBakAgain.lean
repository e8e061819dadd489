/- FnBakAgain: for every two codes (longer than 2^20: nothing is asked) BakLine of what BakLine gives is that, and a line that is no box goes in as it is, whatever the table. -/
import Derived.Test.YtlofgoahgnllkaaDoorDFnBakAgain
set_option linter.unusedVariables false
set_option linter.unusedSimpArgs false
namespace Go.Proofs.YtlofgoahgnllkaaDoor.Pure
open Go.RowKit Go.Proofs.YtlofgoahgnllkaaDoor.QFnBakAgain Go.Proofs.YtlofgoahgnllkaaDoor.Ends Go.Proofs.YtlofgoahgnllkaaDoorW.PrintWords Go.Proofs.YtlofgoahgnllkaaDoorW.PrintLast Go.Proofs.YtlofgoahgnllkaaDoor
theorem bak_says (U : List QFnBakAgain.S43) (x : Int) (hm : mapOkB U = true) (hc : (endV U x).2.2 = true) : insB (endV U x).1 (endV U x).2.1 = true := by
  unfold endV at hc ⊢
  by_cases h : 500 ≤ x ∧ x ≤ 500 + (U.length : Int) - 1
  · rw [if_pos h]
    obtain ⟨j, hj⟩ := Int.eq_ofNat_of_zero_le (show 0 ≤ x - 500 by omega)
    rw [hj]
    unfold mapOkB at hm
    rw [Bool.and_eq_true] at hm
    exact (okF_at U U.length 0 j hm.2 (Nat.zero_le _) (by omega)).1
  · rw [if_neg h] at hc; cases hc
theorem ins_ok {a p : Int} (h : insB a p = true) : endOkP a p := by
  unfold insB at h
  have := of_decide_eq_true h
  unfold endOkP; omega
theorem FnBakAgain : ∀ (l0 : List Int) (l1 : List Int), l0.length ≤ maxLen → l0.length * 1 ≤ 140737488351232 → (∀ x ∈ l0, (Lit.int .u8 x).wf = true) → l1.length ≤ maxLen → l1.length * 1 ≤ 140737488351232 → (∀ x ∈ l1, (Lit.int .u8 x).wf = true) → ∃ k, laws_FnBakAgain.f k l0 l1 = some true := by
  intro l0 l1 hm0 hl0 hw0 hm1 hl1 hw1
  have hj : ∀ k, laws_FnBakAgain.j0 (k + 1) l0 l1 true = some true := fun k => by rw [laws_FnBakAgain.j0, if_pos rfl]
  by_cases c0 : (l0.length : Int) > 1048576
  · exact ⟨1, by unfold laws_FnBakAgain.f; rw [if_pos c0]; exact hj 0⟩
  by_cases c1 : (l1.length : Int) > 1048576
  · exact ⟨1, by unfold laws_FnBakAgain.f; rw [if_neg c0, decide_eq_true c1]; exact hj 0⟩
  obtain ⟨U, s, ⟨K1, e1⟩, hU, hs⟩ := drawbakline_ev l0 (Lib.bytes_wf hw0) (by omega)
  obtain ⟨V, s', ⟨K9, e9⟩, hV, hs'⟩ := drawbakline_ev l1 (Lib.bytes_wf hw1) (by omega)
  obtain ⟨t, hB, ⟨K2, e2⟩, K3, e3⟩ := bak_ev U s (by omega) (by omega)
  have htz : t.size ≤ 17 := by
    rcases hB with ⟨_, rfl⟩ | ⟨_, _, ⟨x, _, _, rfl⟩ | ⟨_, rfl⟩⟩
    · show 0 ≤ 17; omega
    · have := portV_size2 (endV U x).1 (endV U x).2.1; omega
    · exact hs
  obtain ⟨K4, e4⟩ := spec_lin_ev s
  obtain ⟨K5, e5⟩ := ha_ev
  obtain ⟨x, b, hX, K6, e6⟩ := box_ev s (by omega)
  obtain ⟨t2, hB2, _, K7, e7⟩ := bak_ev U t (by omega) (by omega)
  obtain ⟨t3, hB3, _, K8, e8⟩ := bak_ev V s (by omega) (by omega)
  dsimp only at e1 e2 e3 e4 e5 e6 e7 e8 e9
  obtain ⟨K, hK⟩ : ∃ K, K = K1 + K2 + K3 + K4 + K5 + K6 + K7 + K8 + K9 + 100 := ⟨_, rfl⟩
  have j1 : ∀ f : Bool, (f = false → mapOkB U = true ∧ mapOkB V = true ∧ linOkB s = true) → laws_FnBakAgain.j1 (K + 1) s t f U V = some true := fun f h0 => by
    rw [laws_FnBakAgain.j1]
    cases f with
    | true => rw [if_pos rfl, e5 _ (by omega)]; rfl
    | false =>
      obtain ⟨g1, g2, g3⟩ := h0 rfl
      rw [if_neg (by decide), boxI s (by omega), e6 _ (by omega), Option.bind_some]; dsimp only
      have h2 : t2 = t := by
        have nobox : ∀ t : ByteArray, linOkB t = true → (∀ x, Ends.LB t x true → (endV U x).2.2 = false) → ∀ t2, Bk U t t2 → t2 = t := fun t hl hn t2 h => by
          rcases h with ⟨h, _⟩ | ⟨_, _, ⟨x, h1, h2, _⟩ | ⟨_, h⟩⟩
          · exact absurd ⟨g1, hl⟩ h
          · rw [hn x h1] at h2; cases h2
          · exact h
        rcases hB with ⟨h, _⟩ | ⟨_, _, ⟨x', hx', hc, ht⟩ | ⟨hno, ht⟩⟩
        · exact absurd ⟨g1, g3⟩ h
        · have hi := bak_says U x' g1 hc
          have hpt : Ends.portV (endV U x').1 (endV U x').2.1 = portT (endV U x').1 (endV U x').2.1 := if_pos (ins_ok hi)
          refine nobox t (by rw [ht, hpt]; exact lin_port _ _ (ins_ok hi)) (fun y hy => ?_) t2 hB2
          rcases hy with ⟨hy, _⟩ | ⟨_, _, hy⟩
          · obtain ⟨q1, _⟩ := port_one (show IsPort t (endV U x').1 (endV U x').2.1 from ⟨ins_ok hi, ht.trans hpt⟩) hy
            rw [q1] at hi
            exact absurd hi (by unfold insB; rw [decide_eq_false (by omega)]; decide)
          · cases hy
        · exact nobox t (by rw [ht]; exact g3) (by rw [ht]; exact hno) t2 hB2
      rw [e7 _ (by omega), Option.bind_some, h2, if_pos rfl]
      cases b with
      | true => rw [if_pos rfl, e5 _ (by omega)]; rfl
      | false =>
        have h3 : t3 = s := by
          rcases hB3 with ⟨h, _⟩ | ⟨_, _, ⟨x', h1, _⟩ | ⟨_, h⟩⟩
          · exact absurd ⟨g2, g3⟩ h
          · have := (lb_one hX h1).2; cases this
          · exact h
        rw [if_neg (by decide), e8 _ (by omega), Option.bind_some, h3, if_pos rfl, e5 _ (by omega)]; rfl
  refine ⟨K + 2, ?_⟩
  unfold laws_FnBakAgain.f
  rw [if_neg c0, decide_eq_false c1, show K + 2 = (K + 1) + 1 from rfl, laws_FnBakAgain.j0, if_neg (by decide), e1 _ (by omega), Option.bind_some]; dsimp only
  rw [e9 _ (by omega), Option.bind_some]; dsimp only
  rw [e3 _ (by omega), Option.bind_some, e2 _ (by omega), Option.bind_some, if_pos rfl, spec_ok_ev U (by omega) _ (by omega), Option.bind_some]
  cases c1 : mapOkB U with
  | false => rw [if_neg (by decide)]; exact j1 true (fun h => by cases h)
  | true =>
    rw [if_pos rfl, spec_ok_ev V (by omega) _ (by omega), Option.bind_some]
    cases c2 : mapOkB V with
    | false => rw [if_neg (by decide)]; exact j1 true (fun h => by cases h)
    | true =>
      rw [if_pos rfl, e4 _ (by omega), Option.bind_some]
      exact j1 _ (fun h => ⟨c1, c2, by simpa using h⟩)
end Go.Proofs.YtlofgoahgnllkaaDoor.Pure
