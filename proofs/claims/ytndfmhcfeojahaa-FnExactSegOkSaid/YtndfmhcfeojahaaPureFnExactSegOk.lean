/- FnExactSegOk: for every segment (its text longer than 2^20: nothing is asked) the program's SegOk is the reference's. -/
import Derived.Test.YtndfmhcfeojahaaQFnExactSegOkx3
namespace Go.Proofs.Ytndfmhcfeojahaa.Pure
open Go.RowKit Go.Proofs.Ytndfmhcfeojahaa.QFnExactSegOk Go.Proofs.YtndfmhcfeojahaaW.PrintWords Go.Proofs.YtndfmhcfeojahaaW.PrintLast

theorem FnExactSegOk (a p b q x y : Int) (s : ByteArray) (_ : (Lit.int .i64 a).wf = true) (_ : (Lit.int .i64 p).wf = true) (_ : (Lit.int .i64 b).wf = true) (_ : (Lit.int .i64 q).wf = true) (_ : (Lit.int .i64 x).wf = true) (_ : (Lit.int .i64 y).wf = true) (hs : s.size ≤ maxLen) :
    ∃ k, laws_FnExactSegOk.f k a p b q x y s = some true := by
  unfold maxLen at hs
  have hz : laws_szSegSeg.f a p b q x y s 1048576 = some (if 1048576 - (s.size : Int) < 0 then -1 else 1048576 - (s.size : Int)) := by
    unfold laws_szSegSeg.f
    rw [Lib.wrap_id (by omega) (by omega)]
    split <;> rfl
  by_cases c : (s.size : Int) > 1048576
  · refine ⟨0, ?_⟩
    unfold laws_FnExactSegOk.f
    rw [hz]; simp only [Option.bind_some]
    rw [if_pos (by rw [if_pos (by omega)]; omega)]
  · obtain ⟨K1, h1⟩ := spec_seg_ev a p b q x y s
    obtain ⟨K2, h2⟩ := impl_seg_ev a p b q x y s (by omega)
    dsimp only at h1 h2
    refine ⟨K1 + K2, ?_⟩
    unfold laws_FnExactSegOk.f
    rw [hz]; simp only [Option.bind_some]
    rw [if_neg (by rw [if_neg (by omega)]; omega)]
    have e : laws_toSegSeg.f a p b q x y s = some (a, p, b, q, x, y, s) := by
      simp [laws_toSegSeg.f, laws_toEndPoint.f]
    rw [e]; simp only [Option.bind_some]
    rw [h1 _ (by omega)]; simp only [Option.bind_some]
    rw [h2 _ (by omega)]
    simp

end Go.Proofs.Ytndfmhcfeojahaa.Pure
