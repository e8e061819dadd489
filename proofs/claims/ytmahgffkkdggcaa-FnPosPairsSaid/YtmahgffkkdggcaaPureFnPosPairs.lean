/- FnPosPairs: for every code (longer than 2^20: nothing is asked) the program's spans of the two drawn texts are the reference's: as many as the one has lines that has fewer; each from where the one ahead of it ends, as long as its line and the sign; plain just if both lines are the same. -/
import Derived.Test.YtmahgffkkdggcaaDFnPosPairs
set_option linter.unusedVariables false
set_option linter.unusedSimpArgs false
namespace Go.Proofs.Ytmahgffkkdggcaa.Pure
open Go.RowKit Go.Proofs.Ytmahgffkkdggcaa.QFnPosPairs Go.Proofs.YtmahgffkkdggcaaW.PrintWords Go.Proofs.YtmahgffkkdggcaaW.PrintLast Go.Proofs.Ytmahgffkkdggcaa
theorem w_upZ (n : Nat) (h : n ≤ 4611686018427387904) : wrap64 ((n : Int) + 1) = ((n + 1 : Nat) : Int) := by
  rw [Lib.wrap_id (by omega) (by omega)]; omega
theorem head_rd (V : List S43) (i : Nat) (x : S43) (R : List S43) (h : V.drop i = x :: R) : rd_T43 V (i : Int) = x ∧ V.drop (i + 1) = R := by
  have hi : i < V.length := by
    rcases Nat.lt_or_ge i V.length with h' | h'
    · exact h'
    · rw [List.drop_of_length_le h'] at h; cases h
  rw [List.drop_eq_getElem_cons hi] at h
  simp only [List.cons.injEq] at h
  refine ⟨?_, h.2⟩
  unfold rd_T43
  rw [Int.toNat_natCast, List.getD_eq_getElem?_getD, List.getElem?_eq_getElem hi]
  exact h.1
theorem pos_rounds (V : List S43) (L M : List ByteArray) (hV : V.length = min L.length M.length) (hL : L.length ≤ 2000000000) (K0 : Nat) (hha : ∀ k, K0 ≤ k → laws_haOk.f k = some true) : ∀ (n i k : Nat) (a b : Int), i + n = V.length → V.drop i = prs (L.drop i) (M.drop i) a b → K0 + n + 1 ≤ k →
    laws_FnPosPairs.l0 k V L M a b (i : Int) = some true := by
  intro n
  induction n with
  | zero =>
    intro i k a b hi hd hk
    obtain ⟨k, rfl⟩ : ∃ k', k = k' + 1 := ⟨k - 1, by omega⟩
    rw [laws_FnPosPairs.l0, if_neg (by omega), hha k (by omega)]; rfl
  | succ n ih =>
    intro i k a b hi hd hk
    obtain ⟨k, rfl⟩ : ∃ k', k = k' + 1 := ⟨k - 1, by omega⟩
    rw [rdOf_dropQ L i (by omega), rdOf_dropQ M i (by omega), prs] at hd
    obtain ⟨h1, h2⟩ := head_rd V i _ _ hd
    have e := ih (i + 1) k _ _ (by omega) h2 (by omega)
    rw [laws_FnPosPairs.l0, if_pos (by omega), if_pos (by omega), h1]
    dsimp only
    rw [if_pos rfl, if_pos rfl, if_pos (by omega), if_pos (by rfl), if_pos (by omega), if_pos (by rfl), if_neg (by simp), w_upZ i (by omega)]
    exact e
theorem FnPosPairs (l : List Int) (hm : l.length ≤ 9223372036854775807) (hy : l.length * 1 ≤ 140737488351232) (hw : ∀ n ∈ l, (Lit.int .u8 n).wf = true) : ∃ k, laws_FnPosPairs.f k l = some true := by
  by_cases c0 : (l.length : Int) > 1048576
  · exact ⟨0, by unfold laws_FnPosPairs.f; rw [if_pos c0]⟩
  obtain ⟨s, t, ⟨K1, e1⟩, hs, ht⟩ := drawpospairs_ev l (Lib.bytes_wf hw) (by omega)
  obtain ⟨K2, e2⟩ := ha_ev
  dsimp only at e1 e2
  have hl := pairs_len s t
  have h1 := lines_len s
  have hV : (pairsV s t).length = min (Str.linesV s).length (Str.linesV t).length := prs_len _ _ _ _
  refine ⟨K1 + K2 + s.size + t.size + (pairsV s t).length + 10, ?_⟩
  unfold laws_FnPosPairs.f
  rw [if_neg c0, e1 _ (by omega), Option.bind_some]; dsimp only
  rw [impl_pos_ev s t (by omega) (by omega) _ (by omega), Option.bind_some, spec_pairs_ev s t (by omega) (by omega) _ (by omega), Option.bind_some, haspans_ev _ (by omega) _ (by omega), Option.bind_some, if_pos rfl, implines_ev s (by omega) _ (by omega), Option.bind_some, implines_ev t (by omega) _ (by omega), Option.bind_some]; dsimp only
  rw [if_pos (by rw [hV]; unfold mn; split <;> omega)]
  have e := pos_rounds (pairsV s t) (Str.linesV s) (Str.linesV t) hV (by omega) K2 e2 (pairsV s t).length 0 (K1 + K2 + s.size + t.size + (pairsV s t).length + 10) 0 0 (Nat.zero_add _) rfl (by omega)
  rw [show ((0 : Nat) : Int) = 0 from rfl] at e
  exact e
end Go.Proofs.Ytmahgffkkdggcaa.Pure
