/- FnSegCut: for every code (longer than 2^20: nothing is asked) the program's SegCut of the drawn segment, text and place is the reference's; if the segment is ok and the place is in the text, the segments are like it, lie one behind the other, hold all bytes from the place on, and all but the last hold twelve; behind the text it is one without bytes. -/
import Derived.Test.YtdfoelhpeeanlaaDFnSegCut
namespace Go.Proofs.Ytdfoelhpeeanlaa.Pure
open Go.RowKit Go.Proofs.Ytdfoelhpeeanlaa.QFnSegCut Go.Proofs.YtdfoelhpeeanlaaW.PrintWords Go.Proofs.YtdfoelhpeeanlaaW.PrintLast Go.Proofs.Ytdfoelhpeeanlaa

theorem ha_okC : laws_haOk.f = some true := by
  have hb : bt (⟨#[97]⟩ : ByteArray) 0 = 97 := rfl
  have hs : (⟨#[97]⟩ : ByteArray).size = 1 := rfl
  have w1 : wrap64 97 = 97 := Lib.wrap_id (by omega) (by omega)
  have w2 : wrap64 (97 - 97) = 0 := Lib.wrap_id (x := 97 - 97) (by omega) (by omega)
  have w3 : wrap64 (((1 : Nat) : Int) - 1) = 0 := Lib.wrap_id (x := ((1 : Nat) : Int) - 1) (by omega) (by omega)
  unfold laws_haOk.f impl_LinOk.f
  rw [hb, hs, w1, w2, w3]
  simp
theorem w_addN (a b : Nat) (h : a + b ≤ 1000) : wrap64 ((a : Int) + (b : Int)) = ((a + b : Nat) : Int) := by
  rw [Lib.wrap_id (by omega) (by omega)]; omega
theorem w_sub1 (n : Nat) (h : n ≤ 1000) : wrap64 ((n : Int) - 1) = (n : Int) - 1 := Lib.wrap_id (by omega) (by omega)
theorem rd_cut (F : ByteArray) (A B : S29) (y : Int) (p m i : Nat) (hi : i < m) : rd_T31 ((List.range m).map (segAt F A B y p)) (i : Int) = segAt F A B y p i := by
  unfold rd_T31
  rw [Int.toNat_natCast, List.getD_eq_getElem?_getD, List.getElem?_map, List.getElem?_range hi]; rfl
theorem not_nil (t : ByteArray) (h : 0 < t.size) : ¬ t.toList = ([] : List UInt8) := fun e => by
  have h2 := congrArg ByteArray.size ((toList_nil_iff_emptyBytes _).1 e)
  have : ByteArray.empty.size = 0 := rfl
  omega
theorem cut_rounds (F : ByteArray) (hF : F.size ≤ 240) (p : Nat) (hp : p < F.size) (a b c d x y : Int) (s : ByteArray) : ∀ (n i k : Nat), i + n = (F.size - p + 11) / 12 → n + 1 ≤ k →
    laws_FnSegCut.l0 k F ((List.range ((F.size - p + 11) / 12)).map (segAt F ⟨a, b⟩ ⟨c, d⟩ y p)) ((min (p + 12 * i) F.size : Nat) : Int) (i : Int) a b c d x y s = some true := by
  intro n
  have hlen : ((List.range ((F.size - p + 11) / 12)).map (segAt F ⟨a, b⟩ ⟨c, d⟩ y p)).length = (F.size - p + 11) / 12 := by rw [List.length_map, List.length_range]
  induction n with
  | zero =>
    intro i k hi hk
    obtain ⟨k, rfl⟩ : ∃ k', k = k' + 1 := ⟨k - 1, by omega⟩
    rw [laws_FnSegCut.l0, if_neg (by rw [hlen]; omega), show min (p + 12 * i) F.size = F.size by omega]
    simp
  | succ n ih =>
    intro i k hi hk
    obtain ⟨k, rfl⟩ : ∃ k', k = k' + 1 := ⟨k - 1, by omega⟩
    have hr := rd_cut F ⟨a, b⟩ ⟨c, d⟩ y p ((F.size - p + 11) / 12) i (by omega)
    have e := ih (i + 1) k (by omega) (by omega)
    revert hr hlen e
    generalize (List.range ((F.size - p + 11) / 12)).map (segAt F ⟨a, b⟩ ⟨c, d⟩ y p) = L
    intro hlen hr e
    have r0 : (rd_T31 L (i : Int)).f0.f0 = a := by rw [hr]; rfl
    have r1 : (rd_T31 L (i : Int)).f0.f1 = b := by rw [hr]; rfl
    have r2 : (rd_T31 L (i : Int)).f1.f0 = c := by rw [hr]; rfl
    have r3 : (rd_T31 L (i : Int)).f1.f1 = d := by rw [hr]; rfl
    have r4 : (rd_T31 L (i : Int)).f2 = ((p + 12 * i : Nat) : Int) := by rw [hr]; rfl
    have r5 : (rd_T31 L (i : Int)).f3 = y := by rw [hr]; rfl
    have r6 : (rd_T31 L (i : Int)).f4 = F.extract (p + 12 * i) (min (p + 12 * i + 12) F.size) := by rw [hr]; rfl
    have sz : (F.extract (p + 12 * i) (min (p + 12 * i + 12) F.size)).size = min (p + 12 * i + 12) F.size - (p + 12 * i) := by rw [ByteArray.size_extract]; omega
    have ea : p + 12 * i + (min (p + 12 * i + 12) F.size - (p + 12 * i)) = min (p + 12 * (i + 1)) F.size := by omega
    rw [show min (p + 12 * i) F.size = p + 12 * i by omega, laws_FnSegCut.l0, r0, r1, r2, r3, r4, r5, r6, if_pos (by rw [hlen]; omega), if_pos (by omega), if_neg (by simp), if_neg (by simp), if_pos rfl, if_pos rfl, sz, w_addN _ _ (by omega), ea,
      if_neg (by omega), if_pos (by omega), if_pos (by omega), if_pos (by omega), Int.toNat_natCast, Int.toNat_natCast, show min (p + 12 * i + 12) F.size = min (p + 12 * (i + 1)) F.size by omega, if_pos rfl, w_sub1 _ (by rw [hlen]; omega), w_upS i (by omega)]
    have nn := not_nil (F.extract (p + 12 * i) (min (p + 12 * (i + 1)) F.size)) (by rw [ByteArray.size_extract]; omega)
    by_cases h : (i : Int) < (L.length : Int) - 1
    · rw [if_pos h, if_pos (by rw [hlen] at h; omega), if_neg nn, if_neg (by omega)]
      exact e
    · rw [if_neg h, if_neg nn, if_neg (by omega)]
      exact e

theorem FnSegCut : laws_FnSegCut.Pure := by
  intro l hm hl hw
  by_cases c : (l.length : Int) > 1048576
  · exact ⟨0, by unfold laws_FnSegCut.f; rw [if_pos c]⟩
  obtain ⟨a, p, b, q, x, y, s, F, at_, ⟨K1, e1⟩, hF, hs, h1, h2⟩ := drawsegcut_ev l (Lib.bytes_wf hw) (by omega)
  obtain ⟨K2, e2⟩ := segcut_ev F (by omega) a p b q x y s (by omega) at_
  obtain ⟨K3, e3⟩ := ssegcut_ev F (by omega) a p b q x y s at_
  obtain ⟨K4, e4⟩ := spec_seg_ev a p b q x y s
  dsimp only at e1 e2 e3 e4
  have hlen : (if segOkB a p b q x y s = true ∧ F.size ≤ 240 ∧ 0 ≤ at_ then cutL F ⟨a, p⟩ ⟨b, q⟩ y at_.toNat else []).length ≤ 30 := by
    split
    · unfold cutL
      split
      · rw [List.length_map, List.length_range]; omega
      · simp
    · simp
  refine ⟨K1 + K2 + K3 + K4 + 100, ?_⟩
  unfold laws_FnSegCut.f
  rw [if_neg c, e1 _ (by omega), Option.bind_some]; dsimp only
  rw [e2 _ (by omega), Option.bind_some, e3 _ (by omega), Option.bind_some, hasegs_ev _ (by omega) _ (by omega), Option.bind_some, if_pos rfl, e4 _ (by omega), Option.bind_some]
  clear hlen
  obtain ⟨K, hK⟩ : ∃ K, K1 + K2 + K3 + K4 + 100 = K + 60 := ⟨K1 + K2 + K3 + K4 + 40, by omega⟩
  rw [hK]
  have bad : laws_FnSegCut.j0 (K + 60) F at_ [] true a p b q x y s = some true := by
    rw [laws_FnSegCut.j0, if_pos rfl, if_pos (by simp), ha_okC]; rfl
  by_cases h : segOkB a p b q x y s = true
  · rw [if_pos h]
    by_cases h3 : at_ < 0
    · rw [if_pos h3, if_neg (fun h_ => by omega), bad]
    · rw [if_neg h3, if_pos ⟨h, by omega, by omega⟩, decide_eq_false (by omega), laws_FnSegCut.j0, if_neg (by decide)]
      obtain ⟨n, rfl⟩ := Int.eq_ofNat_of_zero_le (show 0 ≤ at_ by omega)
      rw [Int.toNat_natCast]
      unfold cutL
      by_cases h4 : n < F.size
      · rw [if_pos h4, if_neg (by omega)]
        have e := cut_rounds F (by omega) n h4 a p b q x y s _ 0 (K + 59) (Nat.zero_add _) (by omega)
        rw [show min (n + 12 * 0) F.size = n by omega] at e
        exact e
      · rw [if_neg h4, if_pos (by omega), if_pos (by simp), if_pos (by simp)]
        have r : rd_T31 [(⟨⟨a, p⟩, ⟨b, q⟩, (F.size : Int), y, ⟨#[]⟩⟩ : S31)] 0 = ⟨⟨a, p⟩, ⟨b, q⟩, (F.size : Int), y, ⟨#[]⟩⟩ := rfl
        rw [r]
        dsimp only
        rw [if_pos (show (⟨#[]⟩ : ByteArray).toList = ([] : List UInt8) from (toList_nil_iff_emptyBytes _).2 rfl), if_pos rfl, if_pos (by simp), if_pos (by simp)]
        simp
  · rw [if_neg h, if_neg (fun h_ => h h_.1), bad]

end Go.Proofs.Ytdfoelhpeeanlaa.Pure
