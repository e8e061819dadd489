/- What the reference's draws and functions that this law reaches come to: plain lemmas on the printed functions. -/
import Derived.Test.YtmahgffkkdggcaaQFnExactStrOkx2
import Derived.Test.YtmahgffkkdggcaaLib
import Derived.Laws.BitsLemmas
set_option linter.unusedVariables false
set_option linter.unusedSimpArgs false
namespace Go.Proofs.Ytmahgffkkdggcaa.QFnExactStrOk
open Go.RowKit Go.Proofs.YtmahgffkkdggcaaW.PrintWords Go.Proofs.YtmahgffkkdggcaaW.PrintLast Go.Proofs.YtmahgffkkdggcaaW.PrintMore
open Go.Proofs.Ytmahgffkkdggcaa
theorem lns_len (s : ByteArray) : ∀ (n fr i : Nat), (Str.lns s n fr i).1.length ≤ n := by
  intro n
  induction n with
  | zero => intro fr i; exact Nat.le_refl _
  | succ n ih =>
    intro fr i
    rw [Str.lns]
    split
    · have := ih (i + 1) (i + 1); simp only [List.length_cons]; omega
    · have := ih fr (i + 1); omega
theorem lines_l (s : ByteArray) (hs : s.size ≤ 1000000000) : ∀ (n i fr : Nat) (xs : List ByteArray) (k : Nat), i + n = s.size → fr ≤ i → xs.length ≤ i → n + 1 ≤ k →
    spec_StrLines.l0 k s xs (fr : Int) (i : Int) = some (xs ++ (Str.lns s n fr i).1, s.extract (Str.lns s n fr i).2 s.size) := by
  intro n
  induction n with
  | zero =>
    intro i fr xs k hi hf hx hk
    obtain ⟨k, rfl⟩ : ∃ k', k = k' + 1 := ⟨k - 1, by omega⟩
    rw [spec_StrLines.l0, if_neg (by omega), if_pos (by omega), if_pos (by omega), Int.toNat_natCast]
    show _ = some (xs ++ [], s.extract fr s.size)
    rw [List.append_nil]
  | succ n ih =>
    intro i fr xs k hi hf hx hk
    obtain ⟨k, rfl⟩ : ∃ k', k = k' + 1 := ⟨k - 1, by omega⟩
    rw [spec_StrLines.l0, if_pos (by omega), if_pos (by omega), Str.lns]
    by_cases hb : bt s (i : Int) = 59
    · rw [if_pos hb, if_pos hb, if_pos (by omega), if_pos (by omega), if_pos (by omega), if_pos (by omega), w_upL i (by omega), Int.toNat_natCast, Int.toNat_natCast,
        ih (i + 1) (i + 1) _ k (by omega) (Nat.le_refl _) (by simp; omega) (by omega), List.append_assoc]; rfl
    · rw [if_neg hb, if_neg hb, w_upL i (by omega), ih (i + 1) fr xs k (by omega) (by omega) (by omega) (by omega)]
theorem lines_ev (s : ByteArray) (hs : s.size ≤ 1000000000) (k : Nat) (hk : s.size + 1 ≤ k) : spec_StrLines.f k s = some (Str.linesV s, s.extract (Str.restP s) s.size) := by
  unfold spec_StrLines.f
  have := lines_l s hs s.size 0 0 [] k (Nat.zero_add _) (Nat.le_refl _) (Nat.zero_le _) hk
  rw [List.nil_append] at this
  exact this
theorem implines_ev (s : ByteArray) (hs : s.size ≤ 1000000000) (k : Nat) (hk : s.size + 1 ≤ k) : impl_StrLines.f k s = some (Str.linesV s, s.extract (Str.restP s) s.size) := by
  unfold impl_StrLines.f
  rw [if_pos (by omega), if_pos (by omega), lines_ev s hs k hk]; rfl
theorem lines_len (s : ByteArray) : (Str.linesV s).length ≤ s.size := lns_len s s.size 0 0
def strOkB (s : ByteArray) : Bool := decide (s.size ≤ 120) && ((Str.linesV s ++ [s.extract (Str.restP s) s.size]).all linOkB)
theorem w_upK (n : Nat) (h : n ≤ 4611686018427387904) : wrap64 ((n : Int) + 1) = ((n + 1 : Nat) : Int) := by
  rw [Lib.wrap_id (by omega) (by omega)]; omega
theorem rdOf_drop (L : List ByteArray) (i : Nat) (h : i < L.length) : L.drop i = rdOf ByteArray.empty L (i : Int) :: L.drop (i + 1) := by
  rw [List.drop_eq_getElem_cons h]
  congr 1
  unfold rdOf
  rw [Int.toNat_natCast, List.getD_eq_getElem?_getD, List.getElem?_eq_getElem h]; rfl
theorem spec_strok_l (L : List ByteArray) (hL : L.length ≤ 1000000000) (r : ByteArray) : ∀ (n i : Nat), i + n = L.length → ∃ K, ∀ k, K ≤ k → spec_StrOk.l0 k L r (i : Int) = some ((L.drop i).all linOkB && linOkB r) := by
  intro n
  induction n with
  | zero =>
    intro i hi
    obtain ⟨K, hK⟩ := spec_lin_ev r
    dsimp only at hK
    refine ⟨K + 1, fun k hk => ?_⟩
    obtain ⟨k, rfl⟩ : ∃ k', k = k' + 1 := ⟨k - 1, by omega⟩
    rw [spec_StrOk.l0, if_neg (by omega), hK k (by omega), List.drop_of_length_le (by omega)]; rfl
  | succ n ih =>
    intro i hi
    obtain ⟨K1, h1⟩ := ih (i + 1) (by omega)
    obtain ⟨K2, h2⟩ := spec_lin_ev (rdOf ByteArray.empty L (i : Int))
    dsimp only at h2
    refine ⟨K1 + K2 + 1, fun k hk => ?_⟩
    obtain ⟨k, rfl⟩ : ∃ k', k = k' + 1 := ⟨k - 1, by omega⟩
    rw [spec_StrOk.l0, if_pos (by omega), if_pos (by omega), h2 k (by omega), Option.bind_some, rdOf_drop L i (by omega), List.all_cons]
    cases hb : linOkB (rdOf ByteArray.empty L (i : Int)) with
    | true => rw [if_pos rfl, w_upK i (by omega), h1 k (by omega), Bool.true_and]
    | false => rw [if_neg (by decide), Bool.false_and, Bool.false_and]
theorem impl_strok_l (s : ByteArray) (M : List ByteArray) (hM : M.length ≤ 1000000001) (hx : ∀ x ∈ M, x.size ≤ 1000000000) : ∀ (n i : Nat), i + n = M.length → ∃ K, ∀ k, K ≤ k → impl_StrOk.l0 k s M (M.length : Int) (i : Int) = some ((M.drop i).all linOkB && decide (s.size ≤ 120)) := by
  intro n
  induction n with
  | zero =>
    intro i hi
    refine ⟨1, fun k hk => ?_⟩
    obtain ⟨k, rfl⟩ : ∃ k', k = k' + 1 := ⟨k - 1, by omega⟩
    rw [impl_StrOk.l0, if_neg (by omega), List.drop_of_length_le (by omega), List.all_nil, Bool.true_and]
    congr 1
    exact decide_eq_decide.2 (by omega)
  | succ n ih =>
    intro i hi
    obtain ⟨K1, h1⟩ := ih (i + 1) (by omega)
    have hd := rdOf_drop M i (by omega)
    obtain ⟨K2, h2⟩ := impl_lin_ev (rdOf ByteArray.empty M (i : Int)) (by
      have := hx (rdOf ByteArray.empty M (i : Int)) (List.mem_of_mem_drop (i := i) (by rw [hd]; exact List.mem_cons_self))
      omega)
    dsimp only at h2
    refine ⟨K1 + K2 + 1, fun k hk => ?_⟩
    obtain ⟨k, rfl⟩ : ∃ k', k = k' + 1 := ⟨k - 1, by omega⟩
    rw [impl_StrOk.l0, if_pos (by omega), if_pos (by omega), if_pos (by omega), h2 k (by omega), Option.bind_some, hd, List.all_cons]
    cases hb : linOkB (rdOf ByteArray.empty M (i : Int)) with
    | true => rw [if_pos rfl, w_upK i (by omega), h1 k (by omega), Bool.true_and]
    | false => rw [if_neg (by decide), Bool.false_and, Bool.false_and]
theorem lns_mem' (s : ByteArray) : ∀ (n fr i : Nat) (x : ByteArray), x ∈ (Str.lns s n fr i).1 → x.size ≤ s.size := by
  intro n
  induction n with
  | zero => intro fr i x h; cases h
  | succ n ih =>
    intro fr i x h
    rw [Str.lns] at h
    split at h
    · rcases List.mem_cons.1 h with h | h
      · rw [h, ByteArray.size_extract]; omega
      · exact ih _ _ x h
    · exact ih _ _ x h
theorem spec_strok_ev (s : ByteArray) (hs : s.size ≤ 1000000000) : Ev (fun k => spec_StrOk.f k s) (strOkB s) := by
  by_cases c : (s.size : Int) > 120
  · refine ⟨0, fun k _ => ?_⟩
    dsimp only
    unfold spec_StrOk.f strOkB
    rw [if_pos c, decide_eq_false (by omega), Bool.false_and]
  · have hl := lines_len s
    obtain ⟨K, hK⟩ := spec_strok_l (Str.linesV s) (by omega) (s.extract (Str.restP s) s.size) (Str.linesV s).length 0 (Nat.zero_add _)
    refine ⟨K + s.size + 1, fun k hk => ?_⟩
    dsimp only
    unfold spec_StrOk.f strOkB
    rw [if_neg c, lines_ev s hs k (by omega), Option.bind_some]; dsimp only
    have e := hK k (by omega)
    rw [List.drop_zero] at e
    rw [decide_eq_true (by omega), Bool.true_and, List.all_append, List.all_cons, List.all_nil, Bool.and_true]
    exact e
theorem impl_strok_ev (s : ByteArray) (hs : s.size ≤ 1000000000) : Ev (fun k => impl_StrOk.f k s) (strOkB s) := by
  have hl := lines_len s
  obtain ⟨M, hM⟩ : ∃ M, M = Str.linesV s ++ [s.extract (Str.restP s) s.size] := ⟨_, rfl⟩
  have hlen : M.length = (Str.linesV s).length + 1 := by rw [hM]; simp
  obtain ⟨K, hK⟩ := impl_strok_l s M (by omega) (fun x hx => by
    rw [hM] at hx
    rcases List.mem_append.1 hx with h | h
    · have := lns_mem' s s.size 0 0 x h; omega
    · rw [List.mem_singleton.1 h, ByteArray.size_extract]; omega) M.length 0 (Nat.zero_add _)
  refine ⟨K + s.size + 1, fun k hk => ?_⟩
  dsimp only
  unfold impl_StrOk.f strOkB
  rw [implines_ev s hs k (by omega), Option.bind_some]; dsimp only
  have e := hK k (by omega)
  rw [List.drop_zero] at e
  rw [if_pos (by omega), Option.bind_some, ← hM, Bool.and_comm]
  exact e
end Go.Proofs.Ytmahgffkkdggcaa.QFnExactStrOk
