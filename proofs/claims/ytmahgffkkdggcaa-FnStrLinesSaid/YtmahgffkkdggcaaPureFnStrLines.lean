/- FnStrLines: for every code (longer than 2^20: nothing is asked) the program's StrLines of the drawn text gives the reference's lines; each with its sign behind it, and then the rest, are the text; no line has a sign. -/
import Derived.Test.YtmahgffkkdggcaaDFnStrLines
import Derived.Test.YtmahgffkkdggcaaStrD
namespace Go.Proofs.Ytmahgffkkdggcaa.Pure
open Go.RowKit Go.Proofs.Ytmahgffkkdggcaa.QFnStrLines Go.Proofs.YtmahgffkkdggcaaW.PrintWords Go.Proofs.YtmahgffkkdggcaaW.PrintLast Go.Proofs.Ytmahgffkkdggcaa

theorem ha_evS : Ev (fun k => laws_haOk.f k) true := by
  obtain ⟨K, h⟩ := impl_lin_ev (⟨#[97]⟩ : ByteArray) (by decide)
  refine ⟨K, fun k hk => ?_⟩
  dsimp only at h ⊢
  unfold laws_haOk.f
  rw [h k hk, show linOkB (⟨#[97]⟩ : ByteArray) = true by decide]; rfl
theorem w_upP (n : Nat) (h : n ≤ 4611686018427387904) : wrap64 ((n : Int) + 1) = ((n + 1 : Nat) : Int) := by
  rw [Lib.wrap_id (by omega) (by omega)]; omega
theorem rest_le (s : ByteArray) : Str.restP s ≤ s.size := (Str.rest_last s).2
theorem bne_self (x : List UInt8) : (x != x) = false := by simp
theorem no_sign (s : ByteArray) (L : List ByteArray) (R y : ByteArray) (j : Nat) (hj : j < L.length) (hs : (rdOf ByteArray.empty L (j : Int)).size ≤ 1000) (hJ : j ≤ 1000)
    (h : ∀ t, t < (rdOf ByteArray.empty L (j : Int)).size → bt (rdOf ByteArray.empty L (j : Int)) (t : Int) ≠ 59) : ∀ (n i k : Nat), i + n = (rdOf ByteArray.empty L (j : Int)).size →
    laws_FnStrLines.l1 (k + n + 1) s L R y (j : Int) (i : Int) = laws_FnStrLines.l0 k s L R y ((j + 1 : Nat) : Int) := by
  intro n
  induction n with
  | zero =>
    intro i k hi
    rw [Nat.add_zero, laws_FnStrLines.l1, if_pos (by omega), if_pos (by omega), if_neg (by omega), w_upP j (by omega)]
  | succ n ih =>
    intro i k hi
    rw [show k + (n + 1) + 1 = (k + n + 1) + 1 by omega, laws_FnStrLines.l1, if_pos (by omega), if_pos (by omega), if_pos (by omega), if_pos (by omega), if_neg (h i (by omega)), w_upP i (by omega)]
    exact ih (i + 1) k (by omega)
theorem all_back (s : ByteArray) (hs : s.size ≤ 200) (L : List ByteArray) (hL : L.length ≤ 200) : ∀ (m fr j : Nat), fr ≤ s.size → L.drop j = (Str.lns s (s.size - fr) fr fr).1 → Str.restP s = (Str.lns s (s.size - fr) fr fr).2 →
    j + m = L.length → ∃ K, ∀ k, K ≤ k → laws_FnStrLines.l0 k s L (s.extract (Str.restP s) s.size) (s.extract 0 fr) (j : Int) = some true := by
  intro m
  induction m with
  | zero =>
    intro fr j hf hd hr hj
    obtain ⟨K, hK⟩ := ha_evS
    dsimp only at hK
    have hlen := congrArg List.length hd
    rw [List.length_drop] at hlen
    rcases Str.lns_cases s fr hf with h | ⟨d, _, _, _, h⟩
    · rw [h] at hr
      replace hr : Str.restP s = fr := hr
      have hz : (s.extract 0 fr).size + (s.extract fr s.size).size = s.size := by rw [ByteArray.size_extract, ByteArray.size_extract]; omega
      have e : s.extract 0 fr ++ s.extract fr s.size = s := by
        rw [ByteArray.extract_append_extract, show min 0 fr = 0 by omega, show max fr s.size = s.size by omega]
        apply ByteArray.ext; simp [ByteArray.data_extract, ← ByteArray.size_data]
      refine ⟨K + 1, fun k hk => ?_⟩
      obtain ⟨k, rfl⟩ : ∃ k', k = k' + 1 := ⟨k - 1, by omega⟩
      rw [laws_FnStrLines.l0, if_neg (by omega), hr, if_pos (by omega), e, if_pos rfl, hK k (by omega)]; rfl
    · rw [h, List.length_cons] at hlen
      omega
  | succ m ih =>
    intro fr j hf hd hr hj
    rcases Str.lns_cases s fr hf with h | ⟨d, h1, h2, h3, h4⟩
    · rw [h] at hd
      have := congrArg List.length hd
      rw [List.length_drop, List.length_nil] at this
      omega
    · rw [h4] at hd hr
      have hx : rdOf ByteArray.empty L (j : Int) = s.extract fr (fr + d) := by
        have e := List.drop_eq_getElem_cons (show j < L.length by omega)
        rw [hd] at e
        have e2 := (List.cons.inj e).1
        unfold rdOf
        rw [Int.toNat_natCast, List.getD_eq_getElem?_getD, List.getElem?_eq_getElem (by omega), Option.getD_some, e2]
      have hd2 : L.drop (j + 1) = (Str.lns s (s.size - (fr + d + 1)) (fr + d + 1) (fr + d + 1)).1 := by
        have e := List.drop_eq_getElem_cons (show j < L.length by omega)
        rw [hd] at e
        exact (List.cons.inj e).2.symm
      have hz : (s.extract fr (fr + d)).size = d := by rw [ByteArray.size_extract]; omega
      have hz0 : (s.extract 0 fr).size = fr := by rw [ByteArray.size_extract]; omega
      obtain ⟨K, hK⟩ := ih (fr + d + 1) (j + 1) (by omega) hd2 hr (by omega)
      refine ⟨K + d + 2, fun k hk => ?_⟩
      obtain ⟨k, rfl⟩ : ∃ k', k = (k' + d + 1) + 1 := ⟨k - d - 2, by omega⟩
      rw [laws_FnStrLines.l0, if_pos (by omega), if_pos (by omega), hx, if_pos (by omega), if_pos (by rw [ByteArray.size_append]; omega), h3]
      have hn := no_sign s L (s.extract (Str.restP s) s.size) (s.extract 0 (fr + d + 1)) j (by omega) (by rw [hx]; omega) (by omega) (by rw [hx, hz]; exact h2) d 0 k (by rw [hx]; omega)
      rw [show ((0 : Nat) : Int) = 0 from rfl] at hn
      rw [hn]
      exact hK k (by omega)

theorem FnStrLines : laws_FnStrLines.Pure := by
  intro l hm hl hw
  by_cases c : (l.length : Int) > 1048576
  · exact ⟨0, by unfold laws_FnStrLines.f; rw [if_pos c]⟩
  obtain ⟨s, ⟨K1, e1⟩, hs⟩ := drawstrlines_ev l (Lib.bytes_wf hw) (by omega)
  dsimp only at e1
  have hl := lines_len s
  obtain ⟨K2, e2⟩ := all_back s (by omega) (Str.linesV s) (by omega) (Str.linesV s).length 0 0 (Nat.zero_le _) rfl rfl (Nat.zero_add _)
  have ez : s.extract 0 0 = (⟨#[]⟩ : ByteArray) := by apply ByteArray.ext; simp
  rw [ez] at e2
  refine ⟨K1 + K2 + 1000, ?_⟩
  unfold laws_FnStrLines.f
  rw [if_neg c, e1 _ (by omega), Option.bind_some, implines_ev s (by omega) _ (by omega), Option.bind_some, lines_ev s (by omega) _ (by omega), Option.bind_some]; dsimp only
  rw [hatexts_ev _ _ rfl (by omega) _ (by omega), Option.bind_some, if_pos rfl, bne_self, laws_FnStrLines.j0, if_neg (by decide)]
  exact e2 _ (by omega)

end Go.Proofs.Ytmahgffkkdggcaa.Pure
