/- What the reference's draws and functions that this law reaches come to: plain lemmas on the printed functions. -/
import Derived.Test.YtmahgffkkdggcaaQFnExactPosTherex2
import Derived.Test.YtmahgffkkdggcaaLib
import Derived.Laws.BitsLemmas
set_option linter.unusedVariables false
set_option linter.unusedSimpArgs false
namespace Go.Proofs.Ytmahgffkkdggcaa.QFnExactPosThere
open Go.RowKit Go.Proofs.YtmahgffkkdggcaaW.PrintWords Go.Proofs.YtmahgffkkdggcaaW.PrintLast Go.Proofs.YtmahgffkkdggcaaW.PrintMore
open Go.Proofs.Ytmahgffkkdggcaa
theorem lns_len (s : ByteArray) : ∀ (n fr i : Nat), (Str.lns s n fr i).1.length ≤ n := by
  intro n
  induction n with
  | zero => intro fr i; exact Nat.le_refl _
  | succ n ih =>
    intro fr i
    rw [Str.lns]
    split
    · have := ih (i + 1) (i + 1); simp only [List.length_cons]; omega
    · have := ih fr (i + 1); omega
theorem lines_l (s : ByteArray) (hs : s.size ≤ 1000000000) : ∀ (n i fr : Nat) (xs : List ByteArray) (k : Nat), i + n = s.size → fr ≤ i → xs.length ≤ i → n + 1 ≤ k →
    spec_StrLines.l0 k s xs (fr : Int) (i : Int) = some (xs ++ (Str.lns s n fr i).1, s.extract (Str.lns s n fr i).2 s.size) := by
  intro n
  induction n with
  | zero =>
    intro i fr xs k hi hf hx hk
    obtain ⟨k, rfl⟩ : ∃ k', k = k' + 1 := ⟨k - 1, by omega⟩
    rw [spec_StrLines.l0, if_neg (by omega), if_pos (by omega), if_pos (by omega), Int.toNat_natCast]
    show _ = some (xs ++ [], s.extract fr s.size)
    rw [List.append_nil]
  | succ n ih =>
    intro i fr xs k hi hf hx hk
    obtain ⟨k, rfl⟩ : ∃ k', k = k' + 1 := ⟨k - 1, by omega⟩
    rw [spec_StrLines.l0, if_pos (by omega), if_pos (by omega), Str.lns]
    by_cases hb : bt s (i : Int) = 59
    · rw [if_pos hb, if_pos hb, if_pos (by omega), if_pos (by omega), if_pos (by omega), if_pos (by omega), w_upL i (by omega), Int.toNat_natCast, Int.toNat_natCast,
        ih (i + 1) (i + 1) _ k (by omega) (Nat.le_refl _) (by simp; omega) (by omega), List.append_assoc]; rfl
    · rw [if_neg hb, if_neg hb, w_upL i (by omega), ih (i + 1) fr xs k (by omega) (by omega) (by omega) (by omega)]
theorem lines_ev (s : ByteArray) (hs : s.size ≤ 1000000000) (k : Nat) (hk : s.size + 1 ≤ k) : spec_StrLines.f k s = some (Str.linesV s, s.extract (Str.restP s) s.size) := by
  unfold spec_StrLines.f
  have := lines_l s hs s.size 0 0 [] k (Nat.zero_add _) (Nat.le_refl _) (Nat.zero_le _) hk
  rw [List.nil_append] at this
  exact this
theorem implines_ev (s : ByteArray) (hs : s.size ≤ 1000000000) (k : Nat) (hk : s.size + 1 ≤ k) : impl_StrLines.f k s = some (Str.linesV s, s.extract (Str.restP s) s.size) := by
  unfold impl_StrLines.f
  rw [if_pos (by omega), if_pos (by omega), lines_ev s hs k hk]; rfl
theorem lines_len (s : ByteArray) : (Str.linesV s).length ≤ s.size := lns_len s s.size 0 0
def nxP (a : Int) (x : ByteArray) : Int := wrap64 ((wrap64 (a + (x.size : Int))) + 1)
/-- The spans of two lists of lines. -/
def prs : List ByteArray → List ByteArray → Int → Int → List S43
  | x :: L, y :: M, a, b => ⟨a, nxP a x, b, nxP b y, (x.toList == y.toList)⟩ :: prs L M (nxP a x) (nxP b y)
  | _, _, _, _ => []
theorem beq_comm' (x y : List UInt8) : (x == y) = (y == x) := by
  rw [Bool.eq_iff_iff, beq_iff_eq, beq_iff_eq]; exact eq_comm
theorem w_upQ (n : Nat) (h : n ≤ 4611686018427387904) : wrap64 ((n : Int) + 1) = ((n + 1 : Nat) : Int) := by
  rw [Lib.wrap_id (by omega) (by omega)]; omega
theorem rdOf_dropQ (L : List ByteArray) (i : Nat) (h : i < L.length) : L.drop i = rdOf ByteArray.empty L (i : Int) :: L.drop (i + 1) := by
  rw [List.drop_eq_getElem_cons h]
  congr 1
  unfold rdOf
  rw [Int.toNat_natCast, List.getD_eq_getElem?_getD, List.getElem?_eq_getElem h]; rfl
theorem prs_end (L M : List ByteArray) (a b : Int) (h : L = [] ∨ M = []) : prs L M a b = [] := by
  rcases h with rfl | rfl
  · rfl
  · cases L <;> rfl
theorem prs_len : ∀ (L M : List ByteArray) (a b : Int), (prs L M a b).length = min L.length M.length
  | [], M, a, b => by simp [prs]
  | x :: L, [], a, b => by simp [prs]
  | x :: L, y :: M, a, b => by rw [prs, List.length_cons, prs_len L M, List.length_cons, List.length_cons]; omega
theorem spec_pairs_l (L M : List ByteArray) (hL : L.length ≤ 2000000000) : ∀ (n i k : Nat) (acc : List S43) (a b : Int), i + n = L.length → acc.length ≤ i → n + 1 ≤ k →
    spec_l4Pairs.l0 k L M acc a b (i : Int) = some (acc ++ prs (L.drop i) (M.drop i) a b) := by
  intro n
  induction n with
  | zero =>
    intro i k acc a b hi ha hk
    obtain ⟨k, rfl⟩ : ∃ k', k = k' + 1 := ⟨k - 1, by omega⟩
    rw [spec_l4Pairs.l0, if_neg (by omega), List.drop_of_length_le (by omega), prs_end _ _ _ _ (.inl rfl), List.append_nil]
  | succ n ih =>
    intro i k acc a b hi ha hk
    obtain ⟨k, rfl⟩ : ∃ k', k = k' + 1 := ⟨k - 1, by omega⟩
    rw [spec_l4Pairs.l0, if_pos (by omega)]
    by_cases h : (i : Int) < (M.length : Int)
    · rw [if_pos h, if_pos (by omega), if_pos (by omega), w_upQ i (by omega), ih (i + 1) k _ _ _ (by omega) (by simp; omega) (by omega), rdOf_dropQ L i (by omega), rdOf_dropQ M i (by omega), prs, List.append_assoc, beq_comm']; rfl
    · rw [if_neg h, List.drop_of_length_le (show M.length ≤ i by omega), prs_end _ _ _ _ (.inr rfl), List.append_nil]
theorem impl_pairs_l (L M : List ByteArray) (hL : L.length ≤ 2000000000) (m : Nat) (hm : m = min L.length M.length) : ∀ (n i k : Nat) (acc : List S43) (a b : Int), i + n = m → acc.length ≤ i → n + 1 ≤ k →
    impl_spansOf.l0 k L M acc a b (m : Int) (i : Int) = some (acc ++ prs (L.drop i) (M.drop i) a b) := by
  intro n
  induction n with
  | zero =>
    intro i k acc a b hi ha hk
    obtain ⟨k, rfl⟩ : ∃ k', k = k' + 1 := ⟨k - 1, by omega⟩
    rw [impl_spansOf.l0, if_neg (by omega)]
    by_cases h : L.length ≤ M.length
    · rw [List.drop_of_length_le (show L.length ≤ i by omega), prs_end _ _ _ _ (.inl rfl), List.append_nil]
    · rw [List.drop_of_length_le (show M.length ≤ i by omega), prs_end _ _ _ _ (.inr rfl), List.append_nil]
  | succ n ih =>
    intro i k acc a b hi ha hk
    obtain ⟨k, rfl⟩ : ∃ k', k = k' + 1 := ⟨k - 1, by omega⟩
    rw [impl_spansOf.l0, if_pos (by omega), if_pos (by omega), if_pos (by omega), if_pos (by omega), if_pos (by omega), w_upQ i (by omega), ih (i + 1) k _ _ _ (by omega) (by simp; omega) (by omega), rdOf_dropQ L i (by omega), rdOf_dropQ M i (by omega), prs, List.append_assoc]; rfl
def pairsV (s t : ByteArray) : List S43 := prs (Str.linesV s) (Str.linesV t) 0 0
theorem spec_both_ev (s t : ByteArray) (hs : s.size ≤ 1000000000) (ht : t.size ≤ 1000000000) (k : Nat) (hk : s.size + t.size + 2 ≤ k) : spec_l4Both.f k s t = some (pairsV s t) := by
  have h1 := lines_len s
  unfold spec_l4Both.f spec_l4Pairs.f
  rw [lines_ev s hs k (by omega), Option.bind_some, lines_ev t ht k (by omega), Option.bind_some]; dsimp only
  have e := spec_pairs_l (Str.linesV s) (Str.linesV t) (by omega) (Str.linesV s).length 0 k [] 0 0 (Nat.zero_add _) (Nat.zero_le _) (by omega)
  rw [List.drop_zero, List.drop_zero, List.nil_append] at e
  rw [show ((0 : Nat) : Int) = 0 from rfl] at e
  rw [e]; rfl
theorem impl_pairs_ev (s t : ByteArray) (hs : s.size ≤ 1000000000) (ht : t.size ≤ 1000000000) (k : Nat) (hk : s.size + t.size + 2 ≤ k) : impl_spansOf.f k s t = some (pairsV s t) := by
  have h1 := lines_len s
  have h2 := lines_len t
  unfold impl_spansOf.f
  rw [implines_ev s hs k (by omega), Option.bind_some, implines_ev t ht k (by omega), Option.bind_some]; dsimp only
  rw [if_pos (by omega)]
  have hm : mn ((Str.linesV s).length : Int) ((Str.linesV t).length : Int) = ((min (Str.linesV s).length (Str.linesV t).length : Nat) : Int) := by unfold mn; split <;> omega
  rw [hm]
  have e := impl_pairs_l (Str.linesV s) (Str.linesV t) (by omega) _ rfl (min (Str.linesV s).length (Str.linesV t).length) 0 k [] 0 0 (Nat.zero_add _) (Nat.zero_le _) (by omega)
  rw [List.drop_zero, List.drop_zero, List.nil_append] at e
  exact e
theorem pairs_len (s t : ByteArray) : (pairsV s t).length ≤ s.size := by
  unfold pairsV
  rw [prs_len]
  have := lines_len s
  omega
theorem w_upB (n : Nat) (h : n ≤ 4611686018427387904) : wrap64 ((n : Int) + 1) = ((n + 1 : Nat) : Int) := by
  rw [Lib.wrap_id (by omega) (by omega)]; omega
theorem back_l (p : List S43) (at_ : Int) (hp : p.length ≤ 4611686018427387904) : ∀ (n i : Nat) (x : Int), i + n = p.length → ∃ r, ∀ k, n + 1 ≤ k → spec_l4Back.l0 k p at_ x (i : Int) = some r := by
  intro n
  induction n with
  | zero =>
    intro i x hi
    refine ⟨x, fun k hk => ?_⟩
    obtain ⟨k, rfl⟩ : ∃ k', k = k' + 1 := ⟨k - 1, by omega⟩
    rw [spec_l4Back.l0, if_neg (by omega)]
  | succ n ih =>
    intro i x hi
    by_cases c : at_ ≥ (rd_T43 p (i : Int)).f3
    · obtain ⟨r, hr⟩ := ih (i + 1) (rd_T43 p (i : Int)).f1 (by omega)
      refine ⟨r, fun k hk => ?_⟩
      obtain ⟨k, rfl⟩ : ∃ k', k = k' + 1 := ⟨k - 1, by omega⟩
      rw [spec_l4Back.l0, if_pos (by omega), if_pos (by omega), if_pos c, w_upB i (by omega)]
      exact hr k (by omega)
    · obtain ⟨r, hr⟩ : ∃ r, (if (rd_T43 p (i : Int)).f4 = true then (if at_ > (rd_T43 p (i : Int)).f2 then (some (wrap64 ((wrap64 (((rd_T43 p (i : Int)).f0) + at_)) - ((rd_T43 p (i : Int)).f2)))) else (some ((rd_T43 p (i : Int)).f0))) else (some ((rd_T43 p (i : Int)).f0))) = some r := by
        split
        · split <;> exact ⟨_, rfl⟩
        · exact ⟨_, rfl⟩
      refine ⟨r, fun k hk => ?_⟩
      obtain ⟨k, rfl⟩ : ∃ k', k = k' + 1 := ⟨k - 1, by omega⟩
      rw [spec_l4Back.l0, if_pos (by omega), if_pos (by omega), if_neg c]
      exact hr
theorem back_ev (p : List S43) (at_ : Int) (hp : p.length ≤ 4611686018427387904) : ∃ r, ∀ k, p.length + 1 ≤ k → spec_l4Back.f k p at_ = some r := by
  obtain ⟨r, h⟩ := back_l p at_ hp p.length 0 0 (Nat.zero_add _)
  exact ⟨r, fun k hk => by unfold spec_l4Back.f; exact h k hk⟩
end Go.Proofs.Ytmahgffkkdggcaa.QFnExactPosThere
