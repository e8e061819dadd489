/- FnMapOk: for every code (longer than 2^20: nothing is asked) the program says of the drawn table what the reference says; of one that is ok each beginning is ok, each end has the port of its place, and the table with that end again is not ok. -/
import Derived.Test.YtlofgoahgnllkaaDFnMapOk
set_option linter.unusedVariables false
set_option linter.unusedSimpArgs false
namespace Go.Proofs.Ytlofgoahgnllkaa.Pure
open Go.RowKit Go.Proofs.Ytlofgoahgnllkaa.QFnMapOk Go.Proofs.YtlofgoahgnllkaaW.PrintWords Go.Proofs.YtlofgoahgnllkaaW.PrintLast Go.Proofs.Ytlofgoahgnllkaa
theorem ha_true : laws_haOk.f = some true := by
  have hb : bt (⟨#[97]⟩ : ByteArray) 0 = 97 := rfl
  have hs : (⟨#[97]⟩ : ByteArray).size = 1 := rfl
  have w1 : wrap64 97 = 97 := Lib.wrap_id (by omega) (by omega)
  have w2 : wrap64 (97 - 97) = 0 := Lib.wrap_id (x := 97 - 97) (by omega) (by omega)
  have w3 : wrap64 (((1 : Nat) : Int) - 1) = 0 := Lib.wrap_id (x := ((1 : Nat) : Int) - 1) (by omega) (by omega)
  unfold laws_haOk.f impl_LinOk.f
  rw [hb, hs, w1, w2, w3]
  simp
theorem parts_l (L : List S27) (h9 : L.length ≤ 9) (hk : mapOkB L = true) : ∀ (n i k : Nat), i + n = L.length → n + 100 ≤ k → laws_FnMapOk.l0 k (i : Int) L = some true := by
  intro n
  induction n with
  | zero =>
    intro i k hi hk2
    obtain ⟨k, rfl⟩ : ∃ k', k = k' + 1 := ⟨k - 1, by omega⟩
    rw [laws_FnMapOk.l0, if_neg (by omega), ha_true]; rfl
  | succ n ih =>
    intro i k hi hk2
    obtain ⟨k, rfl⟩ : ∃ k', k = k' + 1 := ⟨k - 1, by omega⟩
    have hlt : (L.take i).length ≤ 9 := by rw [List.length_take]; omega
    have ha : (L ++ [rd_T27 L (i : Int)]).length = L.length + 1 := by simp
    have w1 : wrap64 (500 + (i : Int)) = 500 + (i : Int) := Lib.wrap_id (by omega) (by omega)
    have w2 : wrap64 ((i : Int) + 1) = ((i + 1 : Nat) : Int) := by rw [Lib.wrap_id (by omega) (by omega)]; omega
    rw [laws_FnMapOk.l0, if_pos (by omega), if_pos (by omega), if_pos (by omega), Int.toNat_natCast,
      impl_ok_ev (L.take i) (by omega) k (by omega), Option.bind_some, ok_take L hk i (by omega), if_pos rfl,
      impl_port_ev L _ _ (by omega) k (by omega), Option.bind_some, port_at L hk i (by omega), if_pos w1.symm,
      Option.bind_some, if_pos (by simp; omega), Option.bind_some, Option.bind_some, if_pos (by simp; omega), List.nil_append]
    rw [show ([(⟨(rd_T27 L (i : Int)).f0, (rd_T27 L (i : Int)).f1⟩ : S27)] : List S27) = [rd_T27 L (i : Int)] from rfl]
    rw [impl_ok_ev (L ++ [rd_T27 L (i : Int)]) (by omega) k (by omega), Option.bind_some, ok_dup L hk i (by omega), if_neg (by decide), w2]
    exact ih (i + 1) k (by omega) (by omega)
theorem FnMapOk (l0 : List Int) (hm0 : l0.length ≤ 9223372036854775807) (hy0 : l0.length * 1 ≤ 140737488351232) (hw0 : ∀ n ∈ l0, (Lit.int .u8 n).wf = true) : ∃ k, laws_FnMapOk.f k l0 = some true := by
  by_cases c0 : (l0.length : Int) > 1048576
  · exact ⟨0, by unfold laws_FnMapOk.f; rw [if_pos c0]⟩
  obtain ⟨L, ⟨K1, e1⟩, hL⟩ := drawmapok_ev l0 (Lib.bytes_wf hw0) (by omega)
  dsimp only at e1
  refine ⟨K1 + 200, ?_⟩
  unfold laws_FnMapOk.f
  rw [if_neg c0, e1 _ (by omega), Option.bind_some, impl_ok_ev L (by omega) _ (by omega), Option.bind_some, spec_ok_ev L (by omega) _ (by omega), Option.bind_some, if_neg (by simp)]
  cases c : mapOkB L with
  | false => rw [if_neg (by decide), ha_true]; rfl
  | true => rw [if_pos rfl]; exact parts_l L hL c L.length 0 _ (Nat.zero_add _) (by omega)
end Go.Proofs.Ytlofgoahgnllkaa.Pure
