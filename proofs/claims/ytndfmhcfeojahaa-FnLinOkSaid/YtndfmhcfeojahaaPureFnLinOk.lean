/- FnLinOk: for every code (longer than 2^20: nothing is asked) of the text that it draws each beginning is a line if it is one, and no line has the sign that ends one. -/
import Derived.Test.YtndfmhcfeojahaaDFnLinOk
namespace Go.Proofs.Ytndfmhcfeojahaa.Pure
open Go.RowKit Go.Proofs.Ytndfmhcfeojahaa.QFnLinOk Go.Proofs.YtndfmhcfeojahaaW.PrintWords Go.Proofs.YtndfmhcfeojahaaW.PrintLast Go.Proofs.Ytndfmhcfeojahaa

theorem lin_head (s : ByteArray) (h : linOkB s = true) (i : Nat) (hi : i ≤ s.size) : linOkB (s.extract 0 i) = true := by
  unfold linOkB at h ⊢
  have h := of_decide_eq_true h
  refine decide_eq_true ⟨by rw [ByteArray.size_extract]; omega, fun j hj => ?_⟩
  rw [ByteArray.size_extract] at hj
  rw [Lib.bt_extract s 0 i j hi (by omega), show 0 + j = j by omega]
  exact h.2 j (by omega)
theorem lin_no59 (s : ByteArray) (h : linOkB s = true) (i : Nat) (hi : i < s.size) : ¬ bt s (i : Int) = 59 := by
  unfold linOkB at h
  have h := (of_decide_eq_true h).2 i hi
  intro e
  rw [e] at h
  exact absurd h (by decide)
theorem lin_semi (s : ByteArray) : linOkB (s ++ (⟨#[59]⟩ : ByteArray)) = false := by
  unfold linOkB
  refine decide_eq_false fun h => ?_
  have := h.2 s.size (by rw [ByteArray.size_append]; show s.size < s.size + 1; omega)
  rw [show ((s.size : Nat) : Int) = ((s.size + 0 : Nat) : Int) by simp, Lib.bt_right s _ 0 (by decide)] at this
  exact absurd this (by decide)
theorem lin_a : linOkB (⟨#[97]⟩ : ByteArray) = true := by decide
theorem ha_ev : Ev (fun k => laws_haOk.f k) true := by
  obtain ⟨K, h⟩ := impl_lin_ev (⟨#[97]⟩ : ByteArray) (by decide)
  refine ⟨K, fun k hk => ?_⟩
  dsimp only at h ⊢
  unfold laws_haOk.f
  rw [h k hk, lin_a]; rfl
theorem loop_ev (s : ByteArray) (hs : s.size ≤ 16) (hok : linOkB s = true) : ∀ (d i : Nat), i ≤ s.size → s.size - i = d → Ev (fun k => laws_FnLinOk.l0 k s (i : Int)) true
  | 0, i, h1, h2 => ⟨1, fun k hk => by
      obtain ⟨k, rfl⟩ : ∃ m, k = m + 1 := ⟨k - 1, by omega⟩
      dsimp only
      rw [laws_FnLinOk.l0, if_neg (by omega), decide_eq_true (by omega)]⟩
  | d + 1, i, h1, h2 => by
    obtain ⟨K1, e1⟩ := loop_ev s hs hok d (i + 1) (by omega) (by omega)
    obtain ⟨K2, e2⟩ := impl_lin_ev (s.extract 0 i) (by rw [ByteArray.size_extract]; omega)
    refine ⟨K1 + K2 + 1, fun k hk => ?_⟩
    obtain ⟨k, rfl⟩ : ∃ m, k = m + 1 := ⟨k - 1, by omega⟩
    dsimp only at e1 e2 ⊢
    rw [laws_FnLinOk.l0, if_pos (by omega), if_pos (by omega), if_pos (by omega), Int.toNat_natCast, e2 k (by omega), lin_head s hok i h1]
    simp only [Option.bind_some, if_true]
    rw [if_neg (lin_no59 s hok i (by omega)), Lib.wrap_id (by omega) (by omega)]
    exact e1 k (by omega)

theorem FnLinOk : laws_FnLinOk.Pure := by
  intro l hm hl hw
  by_cases c : (l.length : Int) > 1048576
  · exact ⟨0, by unfold laws_FnLinOk.f; rw [if_pos c]⟩
  obtain ⟨t, ⟨K1, e1⟩, ht⟩ := drawlinok_ev l (Lib.bytes_wf hw) (by omega)
  obtain ⟨K2, e2⟩ := impl_lin_ev t (by omega)
  obtain ⟨K3, e3⟩ := spec_lin_ev t
  obtain ⟨K4, e4⟩ := impl_lin_ev (t ++ (⟨#[59]⟩ : ByteArray)) (by rw [ByteArray.size_append]; show t.size + 1 ≤ _; omega)
  obtain ⟨K5, e5⟩ := ha_ev
  dsimp only at e1 e2 e3 e4 e5
  have main : ∀ k, K1 + K2 + K3 + K4 ≤ k → laws_FnLinOk.f k l = laws_FnLinOk.j0 k t (linOkB t) false := fun k hk => by
    unfold laws_FnLinOk.f
    rw [if_neg c, e1 k (by omega)]; simp only [Option.bind_some]
    rw [e2 k (by omega)]; simp only [Option.bind_some]
    rw [e3 k (by omega)]; simp only [Option.bind_some]
    rw [if_neg (by simp), if_pos (by omega), e4 k (by omega), lin_semi]; rfl
  by_cases hok : linOkB t = true
  · obtain ⟨K6, e6⟩ := loop_ev t (by unfold linOkB at hok; exact (of_decide_eq_true hok).1) hok t.size 0 (by omega) (by omega)
    dsimp only at e6
    refine ⟨K1 + K2 + K3 + K4 + K6 + 1, ?_⟩
    rw [main _ (by omega), laws_FnLinOk.j0, if_neg (by decide), if_pos hok]
    exact e6 _ (by omega)
  · refine ⟨K1 + K2 + K3 + K4 + K5 + 1, ?_⟩
    rw [main _ (by omega), laws_FnLinOk.j0, if_neg (by decide), if_neg hok, e5 _ (by omega)]; rfl

end Go.Proofs.Ytndfmhcfeojahaa.Pure
