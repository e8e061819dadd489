/- FnSegOk: for every code (longer than 2^20: nothing is asked) the program's SegOk says of the drawn segment what the reference's says; and a segment with a longer text, with a text of another kind, or with a start too high is not well. -/
import Derived.Test.YtdfoelhpeeanlaaDFnSegOk
namespace Go.Proofs.Ytdfoelhpeeanlaa.Pure
open Go.RowKit Go.Proofs.Ytdfoelhpeeanlaa.QFnSegOk Go.Proofs.YtdfoelhpeeanlaaW.PrintWords Go.Proofs.YtdfoelhpeeanlaaW.PrintLast Go.Proofs.Ytdfoelhpeeanlaa

theorem ha_okV : laws_haOk.f = some true := by
  have hb : bt (⟨#[97]⟩ : ByteArray) 0 = 97 := rfl
  have hs : (⟨#[97]⟩ : ByteArray).size = 1 := rfl
  have w1 : wrap64 97 = 97 := Lib.wrap_id (by omega) (by omega)
  have w2 : wrap64 (97 - 97) = 0 := Lib.wrap_id (x := 97 - 97) (by omega) (by omega)
  have w3 : wrap64 (((1 : Nat) : Int) - 1) = 0 := Lib.wrap_id (x := ((1 : Nat) : Int) - 1) (by omega) (by omega)
  unfold laws_haOk.f impl_LinOk.f
  rw [hb, hs, w1, w2, w3]
  simp

theorem FnSegOk : laws_FnSegOk.Pure := by
  intro l hm hl hw
  by_cases c : (l.length : Int) > 1048576
  · exact ⟨0, by unfold laws_FnSegOk.f; rw [if_pos c]⟩
  obtain ⟨a, p, b, q, x, y, t, ⟨K1, e1⟩, ht⟩ := drawsegok_ev l (Lib.bytes_wf hw) (by omega)
  obtain ⟨K2, e2⟩ := impl_seg_ev a p b q x y t (by omega)
  obtain ⟨K3, e3⟩ := spec_seg_ev a p b q x y t
  obtain ⟨K4, e4⟩ := impl_seg_ev a p b q x y (⟨#[97, 98, 99, 100, 101, 102, 103, 104, 105, 106, 107, 108, 109]⟩ : ByteArray) (by decide)
  obtain ⟨K5, e5⟩ := impl_seg_ev a p b q x y (⟨#[65]⟩ : ByteArray) (by decide)
  obtain ⟨K6, e6⟩ := impl_seg_ev a p b q 241 y t (by omega)
  have f1 : segOkB a p b q x y (⟨#[97, 98, 99, 100, 101, 102, 103, 104, 105, 106, 107, 108, 109]⟩ : ByteArray) = false := by
    unfold segOkB; refine decide_eq_false fun h => ?_
    have := h.2.2.2.2.1; revert this; decide
  have f2 : segOkB a p b q x y (⟨#[65]⟩ : ByteArray) = false := by
    unfold segOkB; refine decide_eq_false fun h => ?_
    have := h.2.2.2.2.2; revert this; decide
  have f3 : segOkB a p b q 241 y t = false := by
    unfold segOkB; refine decide_eq_false fun h => ?_
    have := h.2.2.1; omega
  dsimp only at e1 e2 e3 e4 e5 e6
  refine ⟨K1 + K2 + K3 + K4 + K5 + K6 + 1, ?_⟩
  unfold laws_FnSegOk.f
  rw [if_neg c, e1 _ (by omega)]; simp only [Option.bind_some]
  rw [e2 _ (by omega)]; simp only [Option.bind_some]
  rw [e3 _ (by omega)]; simp only [Option.bind_some]
  rw [if_neg (by simp), e4 _ (by omega)]; simp only [Option.bind_some]
  rw [f1, if_neg (by decide), e5 _ (by omega)]; simp only [Option.bind_some]
  rw [f2, if_neg (by decide), e6 _ (by omega)]; simp only [Option.bind_some]
  rw [f3]
  rw [laws_FnSegOk.j0, if_neg (by decide), ha_okV]
  cases segOkB a p b q x y t <;> rfl

end Go.Proofs.Ytdfoelhpeeanlaa.Pure
