/- FnPosThere: for every code (longer than 2^20: nothing is asked) the program's PosThere of the drawn texts and place is the reference's; it never falls as the place rises; of nothing it is nothing, of all of the other side all lines that both have. -/
import Derived.Test.YtmahgffkkdggcaaDFnPosThere
set_option linter.unusedVariables false
set_option linter.unusedSimpArgs false
namespace Go.Proofs.Ytmahgffkkdggcaa.Pure
open Go.RowKit Go.Proofs.Ytmahgffkkdggcaa.QFnPosThere Go.Proofs.YtmahgffkkdggcaaW.PrintWords Go.Proofs.YtmahgffkkdggcaaW.PrintLast Go.Proofs.Ytmahgffkkdggcaa
theorem w_upZ (n : Nat) (h : n ≤ 4611686018427387904) : wrap64 ((n : Int) + 1) = ((n + 1 : Nat) : Int) := by
  rw [Lib.wrap_id (by omega) (by omega)]; omega
theorem there_rounds (s t : ByteArray) (hs : s.size ≤ 1000000) (ht : t.size ≤ 1000000) (n e : Int) (h0 : 0 ≤ n) (h1 : n ≤ e) (hm : ∀ p q, p ≤ q → backV (pairsV s t) p 0 ≤ backV (pairsV s t) q 0) (hz : backV (pairsV s t) 0 0 = 0) (he : backV (pairsV s t) (t.size : Int) 0 = e)
    (K0 : Nat) (hha : ∀ k, K0 ≤ k → laws_haOk.f k = some true) : ∀ (m i k : Nat), i + m = t.size → K0 + s.size + t.size + m + 12 ≤ k → laws_FnPosThere.l0 k s t n e (i : Int) = some true := by
  intro m
  induction m with
  | zero =>
    intro i k hi hk
    obtain ⟨k, rfl⟩ : ∃ k', k = k' + 1 := ⟨k - 1, by omega⟩
    rw [laws_FnPosThere.l0, if_neg (by omega), if_pos h0, if_pos h1, impl_there_ev s t 0 (by omega) (by omega) k (by omega), Option.bind_some, if_pos hz, impl_there_ev s t _ (by omega) (by omega) k (by omega), Option.bind_some, if_pos he, hha k (by omega)]; rfl
  | succ m ih =>
    intro i k hi hk
    obtain ⟨k, rfl⟩ : ∃ k', k = k' + 1 := ⟨k - 1, by omega⟩
    have hmm := hm (i : Int) ((i + 1 : Nat) : Int) (by omega)
    rw [laws_FnPosThere.l0, if_pos (by omega), w_upZ i (by omega), impl_there_ev s t _ (by omega) (by omega) k (by omega), Option.bind_some, impl_there_ev s t _ (by omega) (by omega) k (by omega), Option.bind_some, if_neg (by omega)]
    exact ih (i + 1) k (by omega) (by omega)
theorem FnPosThere (l : List Int) (hm : l.length ≤ 9223372036854775807) (hy : l.length * 1 ≤ 140737488351232) (hw : ∀ n ∈ l, (Lit.int .u8 n).wf = true) : ∃ k, laws_FnPosThere.f k l = some true := by
  by_cases c0 : (l.length : Int) > 1048576
  · exact ⟨0, by unfold laws_FnPosThere.f; rw [if_pos c0]⟩
  obtain ⟨s, t, x, ⟨K1, e1⟩, hs, ht⟩ := drawposthere_ev l (Lib.bytes_wf hw) (by omega)
  obtain ⟨K2, e2⟩ := ha_ev
  dsimp only at e1 e2
  have hl := pairs_len s t
  have t1 := lines_tot s
  have t2 := lines_tot t
  obtain ⟨b1, b2, b3, b4⟩ := back_all (Str.linesV s) (Str.linesV t) 0 0 (Int.le_refl _) (Int.le_refl _) (by omega) (by omega)
  have hB := endB_le (Str.linesV s) (Str.linesV t) 0
  have hend : ∃ k0 e, e = endA (Str.linesV s) (Str.linesV t) 0 ∧ ∀ k, k0 ≤ k → laws_FnPosThere.f k l = laws_FnPosThere.j0 k s t (backV (pairsV s t) x 0) e := by
    refine ⟨K1 + s.size + t.size + 12, _, rfl, fun k hk => ?_⟩
    unfold laws_FnPosThere.f
    rw [if_neg c0, e1 _ (by omega), Option.bind_some]; dsimp only
    rw [impl_there_ev s t x (by omega) (by omega) _ (by omega), Option.bind_some, spec_there_ev s t x (by omega) (by omega) _ (by omega), Option.bind_some, if_pos rfl, impl_pos_ev s t (by omega) (by omega) _ (by omega), Option.bind_some]
    by_cases c : ((pairsV s t).length : Int) > 0
    · obtain ⟨n, hn⟩ : ∃ n, (pairsV s t).length = n + 1 := ⟨(pairsV s t).length - 1, by omega⟩
      have hw1 : wrap64 (((pairsV s t).length : Int) - 1) = (n : Int) := by rw [Lib.wrap_id (by omega) (by omega)]; omega
      rw [if_pos c, hw1, if_pos (by omega), if_pos (by omega)]
      have := last_end (Str.linesV s) (Str.linesV t) 0 0 (Int.le_refl _) (by omega) n hn
      unfold pairsV
      rw [this]
    · rw [if_neg c]
      have hz : (pairsV s t).length = 0 := by omega
      unfold pairsV at hz
      rw [prs_len] at hz
      have : endA (Str.linesV s) (Str.linesV t) 0 = 0 := by
        revert hz
        cases Str.linesV s with
        | nil => intro _; rfl
        | cons _ L =>
          cases Str.linesV t with
          | nil => intro _; rfl
          | cons _ M => intro hz; simp at hz
      rw [this]
  obtain ⟨k0, e, he, hf⟩ := hend
  refine ⟨k0 + K2 + s.size + 2 * t.size + 20, ?_⟩
  rw [hf _ (by omega), show k0 + K2 + s.size + 2 * t.size + 20 = (k0 + K2 + s.size + 2 * t.size + 19) + 1 from rfl, laws_FnPosThere.j0]
  have hp : pairsV s t = prs (Str.linesV s) (Str.linesV t) 0 0 := rfl
  rw [← hp] at b1 b2 b3 b4
  have hfin := there_rounds s t (by omega) (by omega) (backV (pairsV s t) x 0) e (b1 x).1 (by rw [he]; exact (b1 x).2) b3 (b2 0 (Int.le_refl _)) (by rw [he]; exact b4 _ (by omega)) K2 e2 t.size 0 (k0 + K2 + s.size + 2 * t.size + 19) (Nat.zero_add _) (by omega)
  rw [show ((0 : Nat) : Int) = 0 from rfl] at hfin
  exact hfin
end Go.Proofs.Ytmahgffkkdggcaa.Pure
