/- FnStrJoin: for every two codes (longer than 2^20: nothing is asked) of the two drawn texts: the program's StrLines of the first is the reference's; if nothing is behind its last sign, both texts one behind the other have the lines of both, and the rest of the second. -/
import Derived.Test.YtmahgffkkdggcaaDFnStrJoin
import Derived.Test.YtmahgffkkdggcaaStrD
namespace Go.Proofs.Ytmahgffkkdggcaa.Pure
open Go.RowKit Go.Proofs.Ytmahgffkkdggcaa.QFnStrJoin Go.Proofs.YtmahgffkkdggcaaW.PrintWords Go.Proofs.YtmahgffkkdggcaaW.PrintLast Go.Proofs.Ytmahgffkkdggcaa

theorem ha_evS : Ev (fun k => laws_haOk.f k) true := by
  obtain ⟨K, h⟩ := impl_lin_ev (⟨#[97]⟩ : ByteArray) (by decide)
  refine ⟨K, fun k hk => ?_⟩
  dsimp only at h ⊢
  unfold laws_haOk.f
  rw [h k hk, show linOkB (⟨#[97]⟩ : ByteArray) = true by decide]; rfl
theorem w_upP (n : Nat) (h : n ≤ 4611686018427387904) : wrap64 ((n : Int) + 1) = ((n + 1 : Nat) : Int) := by
  rw [Lib.wrap_id (by omega) (by omega)]; omega
theorem rest_le (s : ByteArray) : Str.restP s ≤ s.size := (Str.rest_last s).2
theorem bne_self (x : List UInt8) : (x != x) = false := by simp

theorem FnStrJoin : laws_FnStrJoin.Pure := by
  intro l l2 hm hl hw hm2 hl2 hw2
  by_cases c : (l.length : Int) > 1048576
  · exact ⟨1, by unfold laws_FnStrJoin.f; rw [if_pos c, laws_FnStrJoin.j0, if_pos rfl]⟩
  by_cases c2 : (l2.length : Int) > 1048576
  · exact ⟨1, by unfold laws_FnStrJoin.f; rw [if_neg c, decide_eq_true c2, laws_FnStrJoin.j0, if_pos rfl]⟩
  obtain ⟨a, ⟨K1, e1⟩, ha⟩ := drawstrlines_ev l (Lib.bytes_wf hw) (by omega)
  obtain ⟨b, ⟨K2, e2⟩, hb⟩ := drawstrlines_ev l2 (Lib.bytes_wf hw2) (by omega)
  obtain ⟨K3, e3⟩ := ha_evS
  dsimp only at e1 e2 e3
  have hla := lines_len a
  have hlb := lines_len b
  have hz : (a ++ b).size = a.size + b.size := ByteArray.size_append
  have hlab := lines_len (a ++ b)
  have hr := rest_le a
  refine ⟨K1 + K2 + K3 + 1002, ?_⟩
  obtain ⟨K, hK⟩ : ∃ K, K = K1 + K2 + K3 + 1000 := ⟨_, rfl⟩
  rw [show K1 + K2 + K3 + 1002 = K + 2 by omega]
  unfold laws_FnStrJoin.f
  rw [if_neg c, decide_eq_false c2, laws_FnStrJoin.j0, if_neg (by decide), e1 _ (by omega), Option.bind_some, e2 _ (by omega), Option.bind_some, implines_ev a (by omega) _ (by omega), Option.bind_some, lines_ev a (by omega) _ (by omega), Option.bind_some]; dsimp only
  rw [hatexts_ev _ _ rfl (by omega) _ (by omega), Option.bind_some, if_pos rfl, bne_self, laws_FnStrJoin.j1, if_neg (by decide), implines_ev b (by omega) _ (by omega), Option.bind_some, if_pos (by omega), implines_ev (a ++ b) (by omega) _ (by omega), Option.bind_some]; dsimp only
  by_cases h : (a.extract (Str.restP a) a.size).toList = ([] : List UInt8)
  · have h2 := congrArg ByteArray.size ((toList_nil_iff_emptyBytes _).1 h)
    rw [ByteArray.size_extract, show ByteArray.empty.size = 0 from rfl] at h2
    obtain ⟨j1, j2⟩ := Str.lines_join a b (by omega)
    rw [if_pos h, Option.bind_some, if_pos (by simp; omega), Option.bind_some, if_pos (by simp; omega), List.nil_append, hatexts_ev _ _ j1 (by omega) _ (by omega), Option.bind_some, if_pos rfl, if_pos (by rw [j2]), e3 _ (by omega)]; rfl
  · rw [if_neg h, e3 _ (by omega)]; rfl

end Go.Proofs.Ytmahgffkkdggcaa.Pure
