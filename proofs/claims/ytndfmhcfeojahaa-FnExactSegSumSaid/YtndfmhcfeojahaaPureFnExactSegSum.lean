/- FnExactSegSum: for every list of bytes (longer than 2^20: nothing is asked) the program's sum is the reference's, and the bytes stand. -/
import Derived.Test.YtndfmhcfeojahaaPFnExactSegSumx1
import Derived.Test.YtndfmhcfeojahaaLib
namespace Go.Proofs.Ytndfmhcfeojahaa.Pure
open Go.RowKit Go.Proofs.Ytndfmhcfeojahaa.PFnExactSegSum Go.Proofs.YtndfmhcfeojahaaW.PrintWords Go.Proofs.YtndfmhcfeojahaaW.PrintLast Go.Proofs.Ytndfmhcfeojahaa.Lib

def segStep (n x : Int) : Int := (n * 257 + x) % 65521

theorem step_eq {n x : Int} (h0 : 0 ≤ n) (h1 : n ≤ 65520) (x0 : 0 ≤ x) (x1 : x ≤ 255) : Int.tmod (wrap64 ((wrap64 (n * 257)) + (wrap64 x))) 65521 = segStep n x := by
  rw [wrap_id (x := n * 257) (by omega) (by omega), wrap_id (x := x) (by omega) (by omega), wrap_id (by omega) (by omega)]
  rw [Int.tmod_eq_emod_of_nonneg (by omega)]; rfl

theorem step_bd (n x : Int) : 0 ≤ segStep n x ∧ segStep n x ≤ 65520 := by
  unfold segStep; omega

theorem spec_sum (l : List Int) (hl : l.length ≤ 140737488351232) (hb : Bytes l) (d : Nat) : ∀ (k i : Nat) (n : Int), i ≤ l.length → l.length - i = d → d < k → 0 ≤ n → n ≤ 65520 →
    spec_SegSum.l0 k l n (i : Int) = some ((l.drop i).foldl segStep n) := by
  induction d with
  | zero =>
    intro k i n hi hd hk h0 h1
    obtain ⟨k, rfl⟩ : ∃ m, k = m + 1 := ⟨k - 1, by omega⟩
    simp only [spec_SegSum.l0]; rw [if_neg (by omega), List.drop_eq_nil_of_le (by omega)]; rfl
  | succ d ih =>
    intro k i n hi hd hk h0 h1
    obtain ⟨k, rfl⟩ : ∃ m, k = m + 1 := ⟨k - 1, by omega⟩
    have hr := bytes_rd hb i
    simp only [spec_SegSum.l0]
    rw [if_pos (by omega), if_pos (by omega), step_eq h0 h1 hr.1 hr.2, wrap_id (x := (i : Int) + 1) (by omega) (by omega)]
    have := ih k (i + 1) (segStep n (rd l i)) (by omega) (by omega) (by omega) (step_bd _ _).1 (step_bd _ _).2
    rw [show (((i + 1 : Nat)) : Int) = (i : Int) + 1 by omega] at this
    rw [this, drop_cons l i (by omega)]; rfl

theorem impl_sum (l : List Int) (hl : l.length ≤ 140737488351232) (hb : Bytes l) (d : Nat) : ∀ (k i : Nat) (n : Int), i ≤ l.length → l.length - i = d → d < k → 0 ≤ n → n ≤ 65520 →
    impl_SegSum.l0 k n l (l.length : Int) (i : Int) = some ((l.drop i).foldl segStep n) := by
  induction d with
  | zero =>
    intro k i n hi hd hk h0 h1
    obtain ⟨k, rfl⟩ : ∃ m, k = m + 1 := ⟨k - 1, by omega⟩
    simp only [impl_SegSum.l0]; rw [if_neg (by omega), List.drop_eq_nil_of_le (by omega)]; rfl
  | succ d ih =>
    intro k i n hi hd hk h0 h1
    obtain ⟨k, rfl⟩ : ∃ m, k = m + 1 := ⟨k - 1, by omega⟩
    have hr := bytes_rd hb i
    simp only [impl_SegSum.l0]
    rw [if_pos (by omega), if_pos (by omega), if_pos (by omega), step_eq h0 h1 hr.1 hr.2, wrap_id (x := (i : Int) + 1) (by omega) (by omega)]
    have := ih k (i + 1) (segStep n (rd l i)) (by omega) (by omega) (by omega) (step_bd _ _).1 (step_bd _ _).2
    rw [show (((i + 1 : Nat)) : Int) = (i : Int) + 1 by omega] at this
    rw [this, drop_cons l i (by omega)]; rfl

theorem to_bytes (l : List Int) (hl : l.length ≤ 140737488351232) (d : Nat) : ∀ (k i : Nat), i ≤ l.length → l.length - i = d → d < k →
    laws_toByteS.l0 k l (l.take i ++ List.replicate (l.length - i) 0) (i : Int) = some l := by
  induction d with
  | zero =>
    intro k i hi hd hk
    obtain ⟨k, rfl⟩ : ∃ m, k = m + 1 := ⟨k - 1, by omega⟩
    simp only [laws_toByteS.l0]; rw [if_neg (by omega)]
    have : i = l.length := by omega
    subst this; simp
  | succ d ih =>
    intro k i hi hd hk
    obtain ⟨k, rfl⟩ : ∃ m, k = m + 1 := ⟨k - 1, by omega⟩
    simp only [laws_toByteS.l0]
    rw [if_pos (by omega), if_pos (by omega), if_pos (by simp; omega), wrap_id (x := (i : Int) + 1) (by omega) (by omega)]
    have := ih k (i + 1) (by omega) (by omega) (by omega)
    rw [show (((i + 1 : Nat)) : Int) = (i : Int) + 1 by omega] at this
    rw [← this]
    rw [rd_nat, Int.toNat_natCast, copy_step l 0 i (by omega)]

theorem eq_bytes (l : List Int) (hl : l.length ≤ 140737488351232) (d : Nat) : ∀ (k i : Nat), i ≤ l.length → l.length - i = d → d < k →
    laws_eqByteS.l0 k l l (i : Int) = some true := by
  induction d with
  | zero =>
    intro k i hi hd hk
    obtain ⟨k, rfl⟩ : ∃ m, k = m + 1 := ⟨k - 1, by omega⟩
    simp only [laws_eqByteS.l0]; rw [if_neg (by omega)]
  | succ d ih =>
    intro k i hi hd hk
    obtain ⟨k, rfl⟩ : ∃ m, k = m + 1 := ⟨k - 1, by omega⟩
    simp only [laws_eqByteS.l0]
    rw [if_pos (by omega), if_pos (by omega), if_pos (by omega), if_pos trivial, wrap_id (x := (i : Int) + 1) (by omega) (by omega)]
    have := ih k (i + 1) (by omega) (by omega) (by omega)
    rwa [show (((i + 1 : Nat)) : Int) = (i : Int) + 1 by omega] at this

theorem FnExactSegSum : laws_FnExactSegSum.Pure := by
  intro l hm hl hw
  have hb := bytes_wf hw
  refine ⟨l.length + 1, ?_⟩
  unfold laws_FnExactSegSum.f
  by_cases h : (l.length : Int) > 1048576
  · rw [if_pos h]
  · rw [if_neg h]
    have e1 : laws_toByteS.f (l.length + 1) l = some l := by
      unfold laws_toByteS.f
      rw [if_pos (by omega), if_pos (by omega)]
      have := to_bytes l (by omega) l.length (l.length + 1) 0 (by omega) (by omega) (by omega)
      simpa using this
    have e2 : spec_SegSum.f (l.length + 1) l = some (l.foldl segStep 1) := by
      have := spec_sum l (by omega) hb l.length (l.length + 1) 0 1 (by omega) (by omega) (by omega) (by omega) (by omega)
      simpa [spec_SegSum.f] using this
    have e3 : impl_SegSum.f (l.length + 1) l = some (l.foldl segStep 1) := by
      have := impl_sum l (by omega) hb l.length (l.length + 1) 0 1 (by omega) (by omega) (by omega) (by omega) (by omega)
      simpa [impl_SegSum.f] using this
    have e4 : laws_eqByteS.f (l.length + 1) l l = some true := by
      unfold laws_eqByteS.f
      rw [if_pos rfl]
      exact eq_bytes l (by omega) l.length (l.length + 1) 0 (by omega) (by omega) (by omega)
    rw [e1]; simp only [Option.bind_some]
    rw [e2]; simp only [Option.bind_some]
    rw [e3]; simp only [Option.bind_some, if_true]
    rw [e4]; simp

end Go.Proofs.Ytndfmhcfeojahaa.Pure
