/- FnStrOk: for every code (longer than 2^20: nothing is asked) the program's StrOk of the drawn text answers as the reference's; of a text that is a stream each beginning is one, all of its lines and its rest are lines, and it is no longer than 120. -/
import Derived.Test.YtmahgffkkdggcaaDFnStrOk
import Derived.Test.YtmahgffkkdggcaaStrD
namespace Go.Proofs.Ytmahgffkkdggcaa.Pure
open Go.RowKit Go.Proofs.Ytmahgffkkdggcaa.QFnStrOk Go.Proofs.YtmahgffkkdggcaaW.PrintWords Go.Proofs.YtmahgffkkdggcaaW.PrintLast Go.Proofs.Ytmahgffkkdggcaa

theorem ha_evO : Ev (fun k => laws_haOk.f k) true := by
  obtain ⟨K, h⟩ := impl_lin_ev (⟨#[97]⟩ : ByteArray) (by decide)
  refine ⟨K, fun k hk => ?_⟩
  dsimp only at h ⊢
  unfold laws_haOk.f
  rw [h k hk, show linOkB (⟨#[97]⟩ : ByteArray) = true by decide]; rfl
theorem lin_headO (s : ByteArray) (h : linOkB s = true) (i : Nat) (hi : i ≤ s.size) : linOkB (s.extract 0 i) = true := by
  unfold linOkB at h ⊢
  obtain ⟨h1, h2⟩ := of_decide_eq_true h
  have hz : (s.extract 0 i).size = i := by rw [ByteArray.size_extract]; omega
  refine decide_eq_true ⟨by omega, fun j hj => ?_⟩
  rw [Str.bt_ext s 0 i hi j (by omega), Nat.zero_add]
  exact h2 j (by omega)
theorem strok_head (s : ByteArray) (h : strOkB s = true) (i : Nat) (hi : i ≤ s.size) : strOkB (s.extract 0 i) = true := by
  unfold strOkB at h ⊢
  rw [Bool.and_eq_true, List.all_append, Bool.and_eq_true, List.all_cons, List.all_nil, Bool.and_true] at h ⊢
  obtain ⟨h1, h2, h3⟩ := h
  have hz : (s.extract 0 i).size = i := by rw [ByteArray.size_extract]; omega
  obtain ⟨p1, p2, p3, p4⟩ := Str.lines_part s i hi
  obtain ⟨f, hf⟩ : ∃ f, f = (Str.lns s i 0 0).2 := ⟨_, rfl⟩
  have hle := Str.lns_le s i 0 0 (Nat.le_refl _)
  rw [← hf] at hle p2 p3 p4
  have h1' := of_decide_eq_true h1
  rw [p3, List.all_append, Bool.and_eq_true] at h2
  refine ⟨decide_eq_true (by omega), by rw [p1]; exact h2.1, ?_⟩
  rw [p2, hz, ByteArray.extract_extract, Nat.zero_add, show min (0 + i) i = i by omega]
  obtain ⟨j, j1, j2, (⟨tl, j3⟩ | ⟨j3, rfl⟩)⟩ := Str.left_part s (s.size - i) f i (by omega) (by omega)
  · have hx : linOkB (s.extract f j) = true := by
      have := h2.2
      rw [j3, List.all_cons, Bool.and_eq_true] at this
      exact this.1
    have := lin_headO (s.extract f j) hx (i - f) (by rw [ByteArray.size_extract]; omega)
    rw [ByteArray.extract_extract, Nat.add_zero, show min (f + (i - f)) j = i by omega] at this
    exact this
  · rw [p4, j3] at h3
    have h3' : linOkB (s.extract f s.size) = true := h3
    have := lin_headO (s.extract f s.size) h3' (i - f) (by rw [ByteArray.size_extract]; omega)
    rw [ByteArray.extract_extract, Nat.add_zero, show min (f + (i - f)) s.size = i by omega] at this
    exact this
theorem lines_ok (s : ByteArray) (L : List ByteArray) (hL : L.length ≤ 200) (hx : ∀ x ∈ L, x.size ≤ 200) (r : ByteArray) (hr : r.size ≤ 200) (hs : s.size ≤ 120) (h : L.all linOkB = true) (h2 : linOkB r = true) : ∀ (n i : Nat), i + n = L.length →
    ∃ K, ∀ k, K ≤ k → laws_FnStrOk.l1 k s L r (i : Int) = some true := by
  intro n
  induction n with
  | zero =>
    intro i hi
    obtain ⟨K, hK⟩ := impl_lin_ev r (by omega)
    dsimp only at hK
    refine ⟨K + 1, fun k hk => ?_⟩
    obtain ⟨k, rfl⟩ : ∃ k', k = k' + 1 := ⟨k - 1, by omega⟩
    rw [laws_FnStrOk.l1, if_neg (by omega), hK k (by omega), Option.bind_some, h2, if_pos rfl, decide_eq_true (by omega)]
  | succ n ih =>
    intro i hi
    have hd := rdOf_drop L i (by omega)
    have hm : rdOf ByteArray.empty L (i : Int) ∈ L := List.mem_of_mem_drop (i := i) (by rw [hd]; exact List.mem_cons_self)
    obtain ⟨K1, h1⟩ := ih (i + 1) (by omega)
    obtain ⟨K2, hK⟩ := impl_lin_ev (rdOf ByteArray.empty L (i : Int)) (by have := hx _ hm; omega)
    dsimp only at hK
    refine ⟨K1 + K2 + 1, fun k hk => ?_⟩
    obtain ⟨k, rfl⟩ : ∃ k', k = k' + 1 := ⟨k - 1, by omega⟩
    rw [laws_FnStrOk.l1, if_pos (by omega), if_pos (by omega), hK k (by omega), Option.bind_some, List.all_eq_true.1 h _ hm, if_pos rfl, w_upK i (by omega)]
    exact h1 k (by omega)
theorem heads_ok (s : ByteArray) (hs : s.size ≤ 200) (h : strOkB s = true) : ∀ (n i : Nat), i + n = s.size → ∃ K, ∀ k, K ≤ k → laws_FnStrOk.l0 k s (i : Int) = some true := by
  have h' := h
  unfold strOkB at h'
  rw [Bool.and_eq_true, List.all_append, Bool.and_eq_true, List.all_cons, List.all_nil, Bool.and_true] at h'
  obtain ⟨h1, h2, h3⟩ := h'
  have hl := lines_len s
  intro n
  induction n with
  | zero =>
    intro i hi
    obtain ⟨K, hK⟩ := lines_ok s (Str.linesV s) (by omega) (fun x hx => by have := lns_mem' s s.size 0 0 x hx; omega) (s.extract (Str.restP s) s.size) (by rw [ByteArray.size_extract]; omega) (of_decide_eq_true h1) h2 h3 (Str.linesV s).length 0 (Nat.zero_add _)
    refine ⟨K + s.size + 2, fun k hk => ?_⟩
    obtain ⟨k, rfl⟩ : ∃ k', k = k' + 1 := ⟨k - 1, by omega⟩
    rw [laws_FnStrOk.l0, if_neg (by omega), implines_ev s (by omega) k (by omega), Option.bind_some]
    exact hK k (by omega)
  | succ n ih =>
    intro i hi
    obtain ⟨K1, e1⟩ := ih (i + 1) (by omega)
    obtain ⟨K2, e2⟩ := impl_strok_ev (s.extract 0 i) (by rw [ByteArray.size_extract]; omega)
    dsimp only at e2
    refine ⟨K1 + K2 + 1, fun k hk => ?_⟩
    obtain ⟨k, rfl⟩ : ∃ k', k = k' + 1 := ⟨k - 1, by omega⟩
    rw [laws_FnStrOk.l0, if_pos (by omega), if_pos (by omega), if_pos (by omega), Int.toNat_natCast, e2 k (by omega), strok_head s h i (by omega), Option.bind_some, if_pos rfl, w_upK i (by omega)]
    exact e1 k (by omega)

theorem FnStrOk : laws_FnStrOk.Pure := by
  intro l hm hl hw
  by_cases c : (l.length : Int) > 1048576
  · exact ⟨0, by unfold laws_FnStrOk.f; rw [if_pos c]⟩
  obtain ⟨s, ⟨K1, e1⟩, hs⟩ := drawstrok_ev l (Lib.bytes_wf hw) (by omega)
  obtain ⟨K2, e2⟩ := impl_strok_ev s (by omega)
  obtain ⟨K3, e3⟩ := spec_strok_ev s (by omega)
  obtain ⟨K4, e4⟩ := ha_evO
  dsimp only at e1 e2 e3 e4
  by_cases h : strOkB s = true
  · obtain ⟨K5, e5⟩ := heads_ok s (by omega) h s.size 0 (Nat.zero_add _)
    refine ⟨K1 + K2 + K3 + K4 + K5, ?_⟩
    unfold laws_FnStrOk.f
    rw [if_neg c, e1 _ (by omega), Option.bind_some, e2 _ (by omega), Option.bind_some, e3 _ (by omega), Option.bind_some, if_neg (by simp), if_pos h]
    exact e5 _ (by omega)
  · refine ⟨K1 + K2 + K3 + K4, ?_⟩
    unfold laws_FnStrOk.f
    rw [if_neg c, e1 _ (by omega), Option.bind_some, e2 _ (by omega), Option.bind_some, e3 _ (by omega), Option.bind_some, if_neg (by simp), if_neg h, e4 _ (by omega)]; rfl

end Go.Proofs.Ytmahgffkkdggcaa.Pure
