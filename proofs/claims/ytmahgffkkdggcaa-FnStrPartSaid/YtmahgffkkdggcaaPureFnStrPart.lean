/- FnStrPart: for every code (longer than 2^20: nothing is asked) the lines that the program's StrLines gives of each beginning of the drawn text are the first lines of the text, and the rest is no longer than the beginning. -/
import Derived.Test.YtmahgffkkdggcaaDFnStrPart
import Derived.Test.YtmahgffkkdggcaaStrD
namespace Go.Proofs.Ytmahgffkkdggcaa.Pure
open Go.RowKit Go.Proofs.Ytmahgffkkdggcaa.QFnStrPart Go.Proofs.YtmahgffkkdggcaaW.PrintWords Go.Proofs.YtmahgffkkdggcaaW.PrintLast Go.Proofs.Ytmahgffkkdggcaa

theorem ha_evS : Ev (fun k => laws_haOk.f k) true := by
  obtain ⟨K, h⟩ := impl_lin_ev (⟨#[97]⟩ : ByteArray) (by decide)
  refine ⟨K, fun k hk => ?_⟩
  dsimp only at h ⊢
  unfold laws_haOk.f
  rw [h k hk, show linOkB (⟨#[97]⟩ : ByteArray) = true by decide]; rfl
theorem w_upP (n : Nat) (h : n ≤ 4611686018427387904) : wrap64 ((n : Int) + 1) = ((n + 1 : Nat) : Int) := by
  rw [Lib.wrap_id (by omega) (by omega)]; omega
theorem rest_le (s : ByteArray) : Str.restP s ≤ s.size := (Str.rest_last s).2
theorem bne_self (x : List UInt8) : (x != x) = false := by simp
theorem parts_ev (s : ByteArray) (hs : s.size ≤ 200) : ∀ (n i : Nat), i + n = s.size → ∃ K, ∀ k, K ≤ k → laws_FnStrPart.l0 k s (Str.linesV s) (i : Int) = some true := by
  intro n
  induction n with
  | zero =>
    intro i hi
    obtain ⟨K, hK⟩ := ha_evS
    dsimp only at hK
    refine ⟨K + 1, fun k hk => ?_⟩
    obtain ⟨k, rfl⟩ : ∃ k', k = k' + 1 := ⟨k - 1, by omega⟩
    rw [laws_FnStrPart.l0, if_neg (by omega), hK k (by omega)]; rfl
  | succ n ih =>
    intro i hi
    obtain ⟨K, hK⟩ := ih (i + 1) (by omega)
    obtain ⟨p1, p2, p3, _⟩ := Str.lines_part s i (by omega)
    rw [← p1] at p3
    have hz : (s.extract 0 i).size = i := by rw [ByteArray.size_extract]; omega
    have hl := lines_len (s.extract 0 i)
    have hlen := congrArg List.length p3
    rw [List.length_append] at hlen
    have ht : (Str.linesV s).take (Str.linesV (s.extract 0 i)).length = Str.linesV (s.extract 0 i) := by
      rw [p3, List.take_left]
    have hrz : ((s.extract 0 i).extract (Str.restP (s.extract 0 i)) (s.extract 0 i).size).size ≤ i := by rw [ByteArray.size_extract]; omega
    refine ⟨K + 1000, fun k hk => ?_⟩
    obtain ⟨k, rfl⟩ : ∃ k', k = k' + 1 := ⟨k - 1, by omega⟩
    rw [laws_FnStrPart.l0, if_pos (by omega), if_pos (by omega), if_pos (by omega), Int.toNat_natCast, implines_ev _ (by omega) k (by omega), Option.bind_some]; dsimp only
    rw [if_neg (by omega), if_pos (by omega), if_pos (by omega), Int.toNat_natCast, ht, hatexts_ev _ _ rfl (by omega) k (by omega), Option.bind_some, if_pos rfl, if_neg (by omega), w_upP i (by omega)]
    exact hK k (by omega)

theorem FnStrPart : laws_FnStrPart.Pure := by
  intro l hm hl hw
  by_cases c : (l.length : Int) > 1048576
  · exact ⟨0, by unfold laws_FnStrPart.f; rw [if_pos c]⟩
  obtain ⟨s, ⟨K1, e1⟩, hs⟩ := drawstrlines_ev l (Lib.bytes_wf hw) (by omega)
  dsimp only at e1
  have hl := lines_len s
  obtain ⟨K2, e2⟩ := parts_ev s (by omega) s.size 0 (Nat.zero_add _)
  refine ⟨K1 + K2 + 1000, ?_⟩
  unfold laws_FnStrPart.f
  rw [if_neg c, e1 _ (by omega), Option.bind_some, implines_ev s (by omega) _ (by omega), Option.bind_some, lines_ev s (by omega) _ (by omega), Option.bind_some]; dsimp only
  rw [hatexts_ev _ _ rfl (by omega) _ (by omega), Option.bind_some, if_pos rfl]
  exact e2 _ (by omega)

end Go.Proofs.Ytmahgffkkdggcaa.Pure
