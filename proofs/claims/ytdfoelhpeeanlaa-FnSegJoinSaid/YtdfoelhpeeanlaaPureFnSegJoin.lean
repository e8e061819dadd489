/- FnSegJoin: for every code (longer than 2^20: nothing is asked) of the drawn segment and text: if the segment is ok, the segments that the program's SegCut makes of the whole text, added one by one, give the text: in order, each twice, and from the last one back, as often as there are segments; if it is not ok there are none. -/
import Derived.Test.YtdfoelhpeeanlaaDFnSegJoin
namespace Go.Proofs.Ytdfoelhpeeanlaa.Pure
open Go.RowKit Go.Proofs.Ytdfoelhpeeanlaa.QFnSegJoin Go.Proofs.YtdfoelhpeeanlaaW.PrintWords Go.Proofs.YtdfoelhpeeanlaaW.PrintLast Go.Proofs.Ytdfoelhpeeanlaa

theorem ha_okJ : laws_haOk.f = some true := by
  have hb : bt (⟨#[97]⟩ : ByteArray) 0 = 97 := rfl
  have hs : (⟨#[97]⟩ : ByteArray).size = 1 := rfl
  have w1 : wrap64 97 = 97 := Lib.wrap_id (by omega) (by omega)
  have w2 : wrap64 (97 - 97) = 0 := Lib.wrap_id (x := 97 - 97) (by omega) (by omega)
  have w3 : wrap64 (((1 : Nat) : Int) - 1) = 0 := Lib.wrap_id (x := ((1 : Nat) : Int) - 1) (by omega) (by omega)
  unfold laws_haOk.f impl_LinOk.f
  rw [hb, hs, w1, w2, w3]
  simp
theorem w_up (n : Nat) (h : n ≤ 1000) : wrap64 ((n : Int) + 1) = ((n + 1 : Nat) : Int) := by
  rw [Lib.wrap_id (by omega) (by omega)]; omega
theorem w_down (n : Nat) (h : n ≤ 1000) : wrap64 ((n : Int) - 1) = (n : Int) - 1 := Lib.wrap_id (by omega) (by omega)

/-- The segments lie one behind the other, and hold all of the text. -/
def Cuts (F : ByteArray) (L : List S31) : Prop := F.size ≤ 12 * L.length ∧ L.length ≤ 20 ∧
  ∀ i : Nat, i < L.length → 12 * i ≤ F.size ∧ (rd_T31 L (i : Int)).f2 = ((12 * i : Nat) : Int) ∧ (rd_T31 L (i : Int)).f4 = F.extract (12 * i) (min (12 * i + 12) F.size)
theorem cuts_of (F : ByteArray) (A B : S29) (y : Int) (hF : F.size ≤ 120) : Cuts F (cutL F A B y 0) := by
  unfold cutL
  by_cases h : 0 < F.size
  · rw [if_pos h]
    refine ⟨by rw [List.length_map, List.length_range]; omega, by rw [List.length_map, List.length_range]; omega, fun i hi => ?_⟩
    rw [List.length_map, List.length_range] at hi
    have e : rd_T31 ((List.range ((F.size - 0 + 11) / 12)).map (segAt F A B y 0)) (i : Int) = segAt F A B y 0 i := by
      unfold rd_T31
      rw [Int.toNat_natCast, List.getD_eq_getElem?_getD, List.getElem?_map, List.getElem?_range hi]; rfl
    rw [e]
    unfold segAt
    refine ⟨by omega, ?_, ?_⟩ <;> simp only [Nat.zero_add]
  · rw [if_neg h]
    have hz : F.size = 0 := by omega
    refine ⟨by omega, by simp, fun i hi => ?_⟩
    have : i = 0 := by simpa using hi
    subst this
    refine ⟨by omega, ?_, ?_⟩
    · simp [rd_T31, hz]
    · simp only [rd_T31, hz]
      apply ByteArray.ext
      simp

section
variable {F : ByteArray} {L : List S31} (hC : Cuts F L) (hF : F.size ≤ 120)
include hC hF
theorem one_add (i j : Nat) (hi : i < L.length) (hj : j ≤ F.size) : impl_SegAdd.f (F.extract 0 j) ((rd_T31 L (i : Int)).f0.f0) ((rd_T31 L (i : Int)).f0.f1) ((rd_T31 L (i : Int)).f1.f0) ((rd_T31 L (i : Int)).f1.f1) ((rd_T31 L (i : Int)).f2) ((rd_T31 L (i : Int)).f3) ((rd_T31 L (i : Int)).f4) =
    some (F.extract 0 (if 12 * i ≤ j ∧ j < min (12 * i + 12) F.size then min (12 * i + 12) F.size else j)) := by
  obtain ⟨h1, h2, h3⟩ := hC.2.2 i hi
  rw [impl_add _ _ _ _ _ _ _ _ (by rw [ByteArray.size_extract]; omega) (by rw [h3, ByteArray.size_extract]; omega), h2, h3, addV_part F j (12 * i) (min (12 * i + 12) F.size) hj (by omega) (by omega)]
/-- One round back over all segments: from a text that has the first i segments comes one that has i + 1. -/
theorem back_round (i : Nat) (hi : i < L.length) (t7 t8 : ByteArray) : ∀ (d j : Nat), d ≤ L.length → j ≤ F.size → min (12 * i) F.size ≤ j → (d ≤ i → min (12 * i + 12) F.size ≤ j) →
    ∃ j', j' ≤ F.size ∧ min (12 * i + 12) F.size ≤ j' ∧ ∀ k, laws_FnSegJoin.l1 (k + d + 1) F L t7 t8 (F.extract 0 j) (i : Int) ((d : Int) - 1) = laws_FnSegJoin.l0 k F L t7 t8 (F.extract 0 j') ((i + 1 : Nat) : Int) := by
  have hn : L.length ≤ 20 := hC.2.1
  intro d
  induction d with
  | zero =>
    intro j hd hj h1 h2
    refine ⟨j, hj, h2 (by omega), fun k => ?_⟩
    rw [Nat.add_zero, laws_FnSegJoin.l1, if_neg (by omega), w_up i (by omega)]
  | succ d ih =>
    intro j hd hj h1 h2
    obtain ⟨j', a1, a2, a3⟩ := ih (if 12 * d ≤ j ∧ j < min (12 * d + 12) F.size then min (12 * d + 12) F.size else j) (by omega) (by split <;> omega) (by split <;> omega) (by
      intro hdi
      by_cases e : d = i
      · subst e; split <;> omega
      · have := h2 (by omega); split <;> omega)
    refine ⟨j', a1, a2, fun k => ?_⟩
    have e : ((d + 1 : Nat) : Int) - 1 = (d : Int) := by omega
    rw [e, show k + (d + 1) + 1 = (k + d + 1) + 1 by omega, laws_FnSegJoin.l1, if_pos (by omega), if_pos (by omega), if_pos (by omega), one_add hC hF d j (by omega) hj, Option.bind_some, w_down d (by omega)]
    exact a3 k
theorem rounds (d : Nat) : ∀ (i j : Nat), i + d = L.length → j ≤ F.size → min (12 * i) F.size ≤ j → ∃ K, ∀ k, K ≤ k →
    laws_FnSegJoin.l0 k F L (F.extract 0 (min (12 * i) F.size)) (F.extract 0 (min (12 * i) F.size)) (F.extract 0 j) (i : Int) = some true := by
  have hn : L.length ≤ 20 := hC.2.1
  have hz := hC.1
  induction d with
  | zero =>
    intro i j hi hj h1
    refine ⟨1, fun k hk => ?_⟩
    obtain ⟨k, rfl⟩ : ∃ k', k = k' + 1 := ⟨k - 1, by omega⟩
    rw [laws_FnSegJoin.l0, if_neg (by omega), show min (12 * i) F.size = F.size by omega, show j = F.size by omega, ext_self, if_pos rfl, if_pos rfl, if_pos rfl, ha_okJ]; rfl
  | succ d ih =>
    intro i j hi hj h1
    obtain ⟨j', a1, a2, a3⟩ := back_round hC hF i (by omega) (F.extract 0 (min (12 * (i + 1)) F.size)) (F.extract 0 (min (12 * (i + 1)) F.size)) L.length j (Nat.le_refl _) hj h1 (fun h => by omega)
    obtain ⟨K, hK⟩ := ih (i + 1) j' (by omega) a1 (by omega)
    have hgo : (if 12 * i ≤ min (12 * i) F.size ∧ min (12 * i) F.size < min (12 * i + 12) F.size then min (12 * i + 12) F.size else min (12 * i) F.size) = min (12 * (i + 1)) F.size := by split <;> omega
    have hgo2 : (if 12 * i ≤ min (12 * (i + 1)) F.size ∧ min (12 * (i + 1)) F.size < min (12 * i + 12) F.size then min (12 * i + 12) F.size else min (12 * (i + 1)) F.size) = min (12 * (i + 1)) F.size := by split <;> omega
    refine ⟨K + L.length + 2, fun k hk => ?_⟩
    obtain ⟨k, rfl⟩ : ∃ k', k = (k' + L.length + 1) + 1 := ⟨k - L.length - 2, by omega⟩
    rw [laws_FnSegJoin.l0, if_pos (by omega), if_pos (by omega), one_add hC hF i _ (by omega) (by omega), Option.bind_some, Option.bind_some, hgo, one_add hC hF i _ (by omega) (by omega), Option.bind_some, hgo2, w_down _ (by omega), a3 k]
    exact hK k (by omega)
end

theorem FnSegJoin : laws_FnSegJoin.Pure := by
  intro l hm hl hw
  by_cases c : (l.length : Int) > 1048576
  · exact ⟨0, by unfold laws_FnSegJoin.f; rw [if_pos c]⟩
  obtain ⟨a, p, b, q, x, y, s, F, at_, ⟨K1, e1⟩, hF, hs, _, _⟩ := drawsegcut_ev l (Lib.bytes_wf hw) (by omega)
  obtain ⟨K2, e2⟩ := impl_seg_ev a p b q x y s (by omega)
  obtain ⟨K3, e3⟩ := spec_seg_ev a p b q x y s
  dsimp only at e1 e2 e3
  have hC := cuts_of F ⟨a, p⟩ ⟨b, q⟩ y hF
  obtain ⟨K4, e4⟩ := rounds hC hF (cutL F ⟨a, p⟩ ⟨b, q⟩ y 0).length 0 0 (by omega) (by omega) (by omega)
  have ez : F.extract 0 (min (12 * 0) F.size) = (⟨#[]⟩ : ByteArray) := by
    apply ByteArray.ext; simp
  have ez2 : F.extract 0 0 = (⟨#[]⟩ : ByteArray) := by
    apply ByteArray.ext; simp
  rw [ez, ez2] at e4
  refine ⟨K1 + K2 + K3 + K4 + 40, ?_⟩
  unfold laws_FnSegJoin.f
  rw [if_neg c, e1 _ (by omega), Option.bind_some]; dsimp only
  have ec : impl_SegCut.f (K1 + K2 + K3 + K4 + 40) a p b q x y s F 0 = some (if segOkB a p b q x y s = true then cutL F ⟨a, p⟩ ⟨b, q⟩ y 0 else []) := by
    unfold impl_SegCut.f
    rw [e2 _ (by omega), Option.bind_some]
    by_cases h : segOkB a p b q x y s = true
    · rw [if_pos h, if_pos h, if_neg (by omega), if_neg (by omega), cut_ev F (by omega) 0 a p b q x y s (by omega) _ (by omega)]; rfl
    · rw [if_neg h, if_neg h]
  rw [ec, Option.bind_some, e3 _ (by omega), Option.bind_some]
  by_cases h : segOkB a p b q x y s = true
  · rw [if_pos h, if_pos h]
    exact e4 _ (by omega)
  · rw [if_neg h, if_neg h, if_pos (by simp), ha_okJ]; rfl

end Go.Proofs.Ytdfoelhpeeanlaa.Pure
