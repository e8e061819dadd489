/- FnBakLine: for every code (longer than 2^20: nothing is asked) BakLine of the drawn table and line is the reference's; of a line that is the box's of an end of the table it says that end, else it is the line. -/
import Derived.Test.YtlofgoahgnllkaaDoorDFnBakLine
set_option linter.unusedVariables false
set_option linter.unusedSimpArgs false
namespace Go.Proofs.YtlofgoahgnllkaaDoor.Pure
open Go.RowKit Go.Proofs.YtlofgoahgnllkaaDoor.QFnBakLine Go.Proofs.YtlofgoahgnllkaaDoor.Ends Go.Proofs.YtlofgoahgnllkaaDoorW.PrintWords Go.Proofs.YtlofgoahgnllkaaDoorW.PrintLast Go.Proofs.YtlofgoahgnllkaaDoor
theorem bak_says (U : List QFnBakLine.S43) (x : Int) (hm : mapOkB U = true) (hc : (endV U x).2.2 = true) : insB (endV U x).1 (endV U x).2.1 = true := by
  unfold endV at hc ⊢
  by_cases h : 500 ≤ x ∧ x ≤ 500 + (U.length : Int) - 1
  · rw [if_pos h]
    obtain ⟨j, hj⟩ := Int.eq_ofNat_of_zero_le (show 0 ≤ x - 500 by omega)
    rw [hj]
    unfold mapOkB at hm
    rw [Bool.and_eq_true] at hm
    exact (okF_at U U.length 0 j hm.2 (Nat.zero_le _) (by omega)).1
  · rw [if_neg h] at hc; cases hc
theorem ins_ok {a p : Int} (h : insB a p = true) : endOkP a p := by
  unfold insB at h
  have := of_decide_eq_true h
  unfold endOkP; omega
theorem FnBakLine : ∀ (l : List Int), l.length ≤ maxLen → l.length * 1 ≤ 140737488351232 → (∀ x ∈ l, (Lit.int .u8 x).wf = true) → ∃ k, laws_FnBakLine.f k l = some true := by
  intro l hm hl hw
  by_cases c0 : (l.length : Int) > 1048576
  · exact ⟨0, by unfold laws_FnBakLine.f; rw [if_pos c0]⟩
  obtain ⟨U, s, ⟨K1, e1⟩, hU, hs⟩ := drawbakline_ev l (Lib.bytes_wf hw) (by omega)
  obtain ⟨t, hB, ⟨K2, e2⟩, K3, e3⟩ := bak_ev U s (by omega) (by omega)
  obtain ⟨K4, e4⟩ := spec_lin_ev s
  obtain ⟨K5, e5⟩ := ha_ev
  obtain ⟨x, b, hX, K6, e6⟩ := box_ev s (by omega)
  have hp := portV_size2 (endV U x).1 (endV U x).2.1
  obtain ⟨u, v, d, hS, K7, e7⟩ := says_ev (Ends.portV (endV U x).1 (endV U x).2.1) (by omega)
  obtain ⟨K8, e8⟩ := impl_lin_ev (Ends.portV (endV U x).1 (endV U x).2.1) (by omega)
  dsimp only at e1 e2 e3 e4 e5 e6 e7 e8
  obtain ⟨K, hK⟩ : ∃ K, K = K1 + K2 + K3 + K4 + K5 + K6 + K7 + K8 + 100 := ⟨_, rfl⟩
  have j0 : ∀ f : Bool, (f = false → mapOkB U = true ∧ linOkB s = true) → (f = true → ¬ (mapOkB U = true ∧ linOkB s = true)) → laws_FnBakLine.j0 (K + 2) s t f U = some true := fun f h0 h1 => by
    rw [show K + 2 = (K + 1) + 1 from rfl, laws_FnBakLine.j0]
    cases f with
    | true =>
      rcases hB with ⟨_, rfl⟩ | ⟨g1, g2, _⟩
      · rw [if_pos rfl, if_pos (by rw [ByteArray.toList_eq]), e5 _ (by omega)]; rfl
      · exact absurd ⟨g1, g2⟩ (h1 rfl)
    | false =>
      obtain ⟨g1, g2⟩ := h0 rfl
      have hxr : -9223372036854775808 ≤ x ∧ x ≤ 9223372036854775807 := by
        rcases hX with ⟨h, rfl⟩ | ⟨_, rfl, rfl⟩
        · have := box_range (.inl ⟨h, rfl⟩); omega
        · omega
      have same : t = s → laws_FnBakLine.j1 (K + 1) s t true (endV U x).1 (endV U x).2.1 = some true := fun e => by
        rw [laws_FnBakLine.j1, if_pos rfl, e, if_pos rfl, e5 _ (by omega)]; rfl
      rw [if_neg (by decide), boxI s (by omega), e6 _ (by omega), Option.bind_some]; dsimp only
      rw [impl_endv_ev U x (by omega) hxr.1 hxr.2, Option.bind_some]
      rcases hB with ⟨h, _⟩ | ⟨_, _, ⟨x', hx', hc, rfl⟩ | ⟨hno, ht⟩⟩
      · exact absurd ⟨g1, g2⟩ h
      · obtain ⟨rfl, rfl⟩ := lb_one hX hx'
        have hi := bak_says U x' g1 hc
        have hpt : Ends.portV (endV U x').1 (endV U x').2.1 = portT (endV U x').1 (endV U x').2.1 := if_pos (ins_ok hi)
        have hip : IsPort (Ends.portV (endV U x').1 (endV U x').2.1) (endV U x').1 (endV U x').2.1 := ⟨ins_ok hi, hpt⟩
        rw [if_pos rfl, hc, laws_FnBakLine.j1, if_neg (by decide), saysI _ (by omega), e7 _ (by omega), Option.bind_some]; dsimp only
        rcases hS with ⟨s1, s2, rfl⟩ | ⟨s1, _⟩
        · obtain ⟨q1, q2⟩ := port_one hip s1
          rw [if_pos rfl, if_pos (by rw [q1, q2]; simp), e8 _ (by omega), hpt, lin_port _ _ (ins_ok hi)]; rfl
        · rw [s1 _ _ hip] at hi; cases hi
      · cases b with
        | false => rw [if_neg (by decide)]; exact same ht
        | true => rw [if_pos rfl, hno x hX]; exact same ht
  refine ⟨K + 2, ?_⟩
  unfold laws_FnBakLine.f
  rw [if_neg c0, e1 _ (by omega), Option.bind_some]; dsimp only
  rw [e3 _ (by omega), Option.bind_some, e2 _ (by omega), Option.bind_some, if_pos rfl, spec_ok_ev U (by omega) _ (by omega), Option.bind_some]
  cases c1 : mapOkB U with
  | false => rw [if_neg (by decide)]; exact j0 true (fun h => by cases h) (fun _ h => by rw [c1] at h; cases h.1)
  | true =>
    rw [if_pos rfl, e4 _ (by omega), Option.bind_some]
    refine j0 _ (fun h => ⟨c1, by simpa using h⟩) (fun h g => ?_)
    rw [g.2] at h; cases h
end Go.Proofs.YtlofgoahgnllkaaDoor.Pure
