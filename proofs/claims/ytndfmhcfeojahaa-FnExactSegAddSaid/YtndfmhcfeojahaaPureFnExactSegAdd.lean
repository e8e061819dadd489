/- FnExactSegAdd: for every text and segment (longer than 2^20: nothing is asked) the program's SegAdd is the reference's. -/
import Derived.Test.YtndfmhcfeojahaaQFnExactSegAddx1
namespace Go.Proofs.Ytndfmhcfeojahaa.Pure
open Go.RowKit Go.Proofs.Ytndfmhcfeojahaa.QFnExactSegAdd Go.Proofs.YtndfmhcfeojahaaW.PrintWords Go.Proofs.YtndfmhcfeojahaaW.PrintLast

theorem FnExactSegAdd (t : ByteArray) (a p b q x y : Int) (s : ByteArray) (ht : t.size ≤ 140737488351232) (_ : (Lit.int .i64 a).wf = true) (_ : (Lit.int .i64 p).wf = true) (_ : (Lit.int .i64 b).wf = true) (_ : (Lit.int .i64 q).wf = true) (_ : (Lit.int .i64 x).wf = true) (_ : (Lit.int .i64 y).wf = true) (hs : s.size ≤ maxLen) :
    laws_FnExactSegAdd.f t a p b q x y s = some true := by
  unfold maxLen at hs
  have hz : laws_szSegSeg.f a p b q x y s 1048576 = some (if 1048576 - (s.size : Int) < 0 then -1 else 1048576 - (s.size : Int)) := by
    unfold laws_szSegSeg.f
    rw [Lib.wrap_id (by omega) (by omega)]
    split <;> rfl
  unfold laws_FnExactSegAdd.f
  by_cases c0 : (t.size : Int) > 1048576
  · rw [if_pos c0]
  rw [if_neg c0, hz]; simp only [Option.bind_some]
  by_cases c : (s.size : Int) > 1048576
  · rw [if_pos (by rw [if_pos (by omega)]; omega)]
  · rw [if_neg (by rw [if_neg (by omega)]; omega)]
    have e : laws_toSegSeg.f a p b q x y s = some (a, p, b, q, x, y, s) := by
      simp [laws_toSegSeg.f, laws_toEndPoint.f]
    rw [e]; simp only [Option.bind_some]
    have fin : ∀ z, spec_SegAdd.f t a p b q x y s = some z → impl_SegAdd.f t a p b q x y s = some z →
        ((spec_SegAdd.f t a p b q x y s).bind fun t131 => (impl_SegAdd.f t a p b q x y s).bind fun t139 => if t139.toList = t131.toList then some true else some false) = some true := fun z h1 h2 => by
      rw [h1]; simp only [Option.bind_some]
      rw [h2]; simp
    have hw : impl_within.f x 0 (t.size : Int) = some (decide (0 ≤ x ∧ x ≤ (t.size : Int))) := by
      unfold impl_within.f; by_cases h : x ≥ 0 <;> simp [h]
    by_cases h1 : 0 ≤ x ∧ x ≤ (t.size : Int)
    · have w1 : wrap64 (x + (s.size : Int)) = x + (s.size : Int) := Lib.wrap_id (by omega) (by omega)
      have w2 : wrap64 ((t.size : Int) - x) = (t.size : Int) - x := Lib.wrap_id (by omega) (by omega)
      by_cases h2 : x + (s.size : Int) ≤ (t.size : Int)
      · exact fin t (by simp only [spec_SegAdd.f, spec_l5Grown.f]; rw [if_neg (by omega), if_neg (by omega), w1, if_pos h2]; rfl)
          (by simp only [impl_SegAdd.f]; rw [hw]; simp only [Option.bind_some, decide_eq_true_eq]; rw [if_pos h1, w1, if_pos h2])
      · have hb : (s.extract ((t.size : Int) - x).toNat s.size).size ≤ 1048576 := by
          rw [ByteArray.size_extract]; omega
        have hc : ∀ z : ByteArray, z.size ≤ 281474976710656 → strings_Clone.f z = some z := fun z hz => by
          unfold strings_Clone.f stringslite_Clone.f
          rw [if_pos (by omega), if_pos (by omega)]; rfl
        exact fin (t ++ s.extract ((t.size : Int) - x).toNat s.size)
          (by simp only [spec_SegAdd.f, spec_l5Grown.f]; rw [if_neg (by omega), if_neg (by omega), w1, w2, if_neg h2, if_pos (by omega), if_pos (by omega), if_pos (by omega)]; rfl)
          (by simp only [impl_SegAdd.f]; rw [hw]; simp only [Option.bind_some, decide_eq_true_eq]; rw [if_pos h1, w1, w2, if_neg h2, if_pos (by omega), if_pos (by omega), if_pos (by omega), hc _ (by rw [ByteArray.size_append]; omega)]; rfl)
    · exact fin t (by
          simp only [spec_SegAdd.f, spec_l5Grown.f]
          by_cases h3 : x < 0
          · rw [if_pos h3]; rfl
          · rw [if_neg h3, if_pos (by omega)]; rfl)
        (by simp only [impl_SegAdd.f]; rw [hw]; simp only [Option.bind_some, decide_eq_true_eq]; rw [if_neg h1])

end Go.Proofs.Ytndfmhcfeojahaa.Pure
