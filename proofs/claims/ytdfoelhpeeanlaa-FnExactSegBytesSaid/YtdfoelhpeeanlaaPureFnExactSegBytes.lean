/- FnExactSegBytes: for every segment (its text longer than 2^20: nothing is asked) the program's bytes are the reference's, and are memory of their own. -/
import Derived.Test.YtdfoelhpeeanlaaDFnExactSegBytes
namespace Go.Proofs.Ytdfoelhpeeanlaa.Pure
open Go.RowKit Go.Proofs.Ytdfoelhpeeanlaa.QFnExactSegBytes Go.Proofs.YtdfoelhpeeanlaaW.PrintWords Go.Proofs.YtdfoelhpeeanlaaW.PrintLast Go.Proofs.Ytdfoelhpeeanlaa

theorem FnExactSegBytes (a p b q x y : Int) (s : ByteArray) (_ : (Lit.int .i64 a).wf = true) (_ : (Lit.int .i64 p).wf = true) (_ : (Lit.int .i64 b).wf = true) (_ : (Lit.int .i64 q).wf = true) (_ : (Lit.int .i64 x).wf = true) (_ : (Lit.int .i64 y).wf = true) (hs : s.size ≤ maxLen) :
    ∃ k, laws_FnExactSegBytes.f k a p b q x y s = some true := by
  unfold maxLen at hs
  have hz := szseg_eq a p b q x y s (by omega)
  by_cases c : (s.size : Int) > 1048576
  · refine ⟨0, ?_⟩
    unfold laws_FnExactSegBytes.f
    rw [hz]; simp only [Option.bind_some]
    rw [if_pos (by rw [if_pos (by omega)]; omega)]
  obtain ⟨L, hL⟩ : ∃ L, L = segBytesV a p b q x y s := ⟨_, rfl⟩
  have hlen : L.length ≤ 100 := by
    rw [hL, bytes_len]
    split
    · rename_i h; have := segOk_bd h; omega
    · omega
  obtain ⟨K1, e1⟩ := spec_bytes_ev a p b q x y s
  obtain ⟨K2, e2⟩ := impl_bytes_ev a p b q x y s (by omega)
  rw [← hL] at e1 e2
  obtain ⟨K3, e3⟩ := eqb_ev L L (by omega)
  obtain ⟨K4, e4⟩ := mark_ev L (by omega)
  obtain ⟨K5, e5⟩ := held_ev L.length (by omega)
  dsimp only at e1 e2 e3 e4 e5
  rw [decide_eq_true rfl] at e3
  refine ⟨K1 + K2 + K3 + K4 + K5, ?_⟩
  unfold laws_FnExactSegBytes.f
  rw [hz]; simp only [Option.bind_some]
  rw [if_neg (by rw [if_neg (by omega)]; omega), toseg_eq]; simp only [Option.bind_some]
  rw [e1 _ (by omega)]; simp only [Option.bind_some]
  rw [e2 _ (by omega)]; simp only [Option.bind_some]
  rw [e3 _ (by omega)]; simp only [Option.bind_some, if_true]
  rw [e4 _ (by omega)]; simp only [Option.bind_some]
  rw [e5 _ (by omega)]; simp only [Option.bind_some]
  rw [if_neg (by omega)]; simp only [if_true]
  rw [if_neg (by omega)]

end Go.Proofs.Ytdfoelhpeeanlaa.Pure
