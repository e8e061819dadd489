/- What the reference's draws and functions that this law reaches come to: plain lemmas on the printed functions. -/
import Derived.Test.YtlofgoahgnllkaaQFnExactMapEndx2
import Derived.Test.YtlofgoahgnllkaaLib
import Derived.Laws.BitsLemmas
set_option linter.unusedVariables false
set_option linter.unusedSimpArgs false
namespace Go.Proofs.Ytlofgoahgnllkaa.QFnExactMapEnd
open Go.RowKit Go.Proofs.YtlofgoahgnllkaaW.PrintWords Go.Proofs.YtlofgoahgnllkaaW.PrintLast Go.Proofs.YtlofgoahgnllkaaW.PrintMore
open Go.Proofs.Ytlofgoahgnllkaa
def cvE (x : S37) : S27 := ⟨x.f0, x.f1⟩
theorem w_upV (n : Nat) (h : n ≤ 4611686018427387904) : wrap64 ((n : Int) + 1) = ((n + 1 : Nat) : Int) := by
  rw [Lib.wrap_id (by omega) (by omega)]; omega
theorem toends_l (L : List S37) (hL : L.length ≤ 4611686018427387904) : ∀ (n i k : Nat), i + n = L.length → n + 1 ≤ k →
    laws_toEndPointS.l0 k L ((L.map cvE).take i ++ List.replicate (L.length - i) z27) (i : Int) = some (L.map cvE) := by
  intro n
  induction n with
  | zero =>
    intro i k hi hk
    obtain ⟨k, rfl⟩ : ∃ k', k = k' + 1 := ⟨k - 1, by omega⟩
    rw [laws_toEndPointS.l0, if_neg (by omega), List.take_of_length_le (by simp; omega), show L.length - i = 0 by omega]; simp
  | succ n ih =>
    intro i k hi hk
    obtain ⟨k, rfl⟩ : ∃ k', k = k' + 1 := ⟨k - 1, by omega⟩
    have hlen : (L.map cvE).length = L.length := by simp
    have hst := Lib.copy_step (L.map cvE) z27 i (by omega)
    have hg : (L.map cvE).getD i z27 = ⟨(rd_T37 L (i : Int)).f0, (rd_T37 L (i : Int)).f1⟩ := by
      unfold rd_T37
      rw [Int.toNat_natCast, List.getD_eq_getElem?_getD, List.getD_eq_getElem?_getD, List.getElem?_map, List.getElem?_eq_getElem (by omega : i < L.length)]; rfl
    rw [hlen, hg] at hst
    rw [laws_toEndPointS.l0, if_pos (by omega), if_pos (by omega)]
    unfold laws_toEndPoint.f
    rw [Option.bind_some, if_pos (by simp; omega), Int.toNat_natCast, w_upV i (by omega)]
    dsimp only
    rw [hst]
    exact ih (i + 1) k (by omega) (by omega)
theorem totab_ev (L : List S37) (hL : L.length ≤ 1048576) (k : Nat) (hk : L.length + 1 ≤ k) : laws_toMapTab.f k L = some (L.map cvE) := by
  unfold laws_toMapTab.f laws_toEndPointS.f
  rw [if_pos (by omega), if_pos (by omega), Int.toNat_natCast]
  have := toends_l L (by omega) L.length 0 k (Nat.zero_add _) hk
  simp only [List.take_zero, List.nil_append, Nat.sub_zero] at this
  rw [show ((0 : Nat) : Int) = 0 from rfl] at this
  rw [this]; rfl
theorem sztab_ev (L : List S37) (hL : L.length ≤ 9223372036854775807) : ∃ r, laws_szMapTab.f L 1048576 = some r ∧ (¬ r < 0 → L.length ≤ 1048576) := by
  unfold laws_szMapTab.f laws_szEndPointS.f
  rw [Lib.wrap_id (x := 1048576 - (L.length : Int)) (by omega) (by omega)]
  by_cases c : 1048576 - (L.length : Int) < 0
  · rw [if_pos c]; exact ⟨-1, by rw [Option.bind_some]; rfl, fun h => absurd (by decide) h⟩
  · rw [if_neg c]; exact ⟨1048576 - (L.length : Int), by rw [Option.bind_some, if_neg c], fun h => by omega⟩
theorem w_upQ (n : Nat) (h : n ≤ 4611686018427387904) : wrap64 ((n : Int) + 1) = ((n + 1 : Nat) : Int) := by
  rw [Lib.wrap_id (by omega) (by omega)]; omega
theorem eqends_l (L : List S27) (hL : L.length ≤ 4611686018427387904) : ∀ (n i k : Nat), i + n = L.length → n + 1 ≤ k → laws_eqEndPointS.l0 k L L (i : Int) = some true := by
  intro n
  induction n with
  | zero =>
    intro i k hi hk
    obtain ⟨k, rfl⟩ : ∃ k', k = k' + 1 := ⟨k - 1, by omega⟩
    rw [laws_eqEndPointS.l0, if_neg (by omega)]
  | succ n ih =>
    intro i k hi hk
    obtain ⟨k, rfl⟩ : ∃ k', k = k' + 1 := ⟨k - 1, by omega⟩
    rw [laws_eqEndPointS.l0, if_pos (by omega), if_pos (by omega), if_pos (by omega)]
    unfold laws_eqEndPoint.f
    rw [if_pos rfl, if_pos rfl, Option.bind_some, if_pos rfl, w_upQ i (by omega)]
    exact ih (i + 1) k (by omega) (by omega)
theorem eqtab_ev (L : List S27) (hL : L.length ≤ 4611686018427387904) (k : Nat) (hk : L.length + 1 ≤ k) : laws_eqMapTab.f k L L = some true := by
  unfold laws_eqMapTab.f laws_eqEndPointS.f
  rw [if_pos rfl]
  have := eqends_l L hL L.length 0 k (Nat.zero_add _) hk
  rw [show ((0 : Nat) : Int) = 0 from rfl] at this
  rw [this]; rfl
end Go.Proofs.Ytlofgoahgnllkaa.QFnExactMapEnd
