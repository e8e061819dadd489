/- What the reference's draws and functions that this law reaches come to: plain lemmas on the printed functions. -/
import Derived.Test.YtmahgffkkdggcaaQFnExactStrLinesx2
import Derived.Test.YtmahgffkkdggcaaLib
import Derived.Laws.BitsLemmas
set_option linter.unusedVariables false
set_option linter.unusedSimpArgs false
namespace Go.Proofs.Ytmahgffkkdggcaa.QFnExactStrLines
open Go.RowKit Go.Proofs.YtmahgffkkdggcaaW.PrintWords Go.Proofs.YtmahgffkkdggcaaW.PrintLast Go.Proofs.YtmahgffkkdggcaaW.PrintMore
open Go.Proofs.Ytmahgffkkdggcaa
theorem lns_len (s : ByteArray) : ∀ (n fr i : Nat), (Str.lns s n fr i).1.length ≤ n := by
  intro n
  induction n with
  | zero => intro fr i; exact Nat.le_refl _
  | succ n ih =>
    intro fr i
    rw [Str.lns]
    split
    · have := ih (i + 1) (i + 1); simp only [List.length_cons]; omega
    · have := ih fr (i + 1); omega
theorem lines_l (s : ByteArray) (hs : s.size ≤ 1000000000) : ∀ (n i fr : Nat) (xs : List ByteArray) (k : Nat), i + n = s.size → fr ≤ i → xs.length ≤ i → n + 1 ≤ k →
    spec_StrLines.l0 k s xs (fr : Int) (i : Int) = some (xs ++ (Str.lns s n fr i).1, s.extract (Str.lns s n fr i).2 s.size) := by
  intro n
  induction n with
  | zero =>
    intro i fr xs k hi hf hx hk
    obtain ⟨k, rfl⟩ : ∃ k', k = k' + 1 := ⟨k - 1, by omega⟩
    rw [spec_StrLines.l0, if_neg (by omega), if_pos (by omega), if_pos (by omega), Int.toNat_natCast]
    show _ = some (xs ++ [], s.extract fr s.size)
    rw [List.append_nil]
  | succ n ih =>
    intro i fr xs k hi hf hx hk
    obtain ⟨k, rfl⟩ : ∃ k', k = k' + 1 := ⟨k - 1, by omega⟩
    rw [spec_StrLines.l0, if_pos (by omega), if_pos (by omega), Str.lns]
    by_cases hb : bt s (i : Int) = 59
    · rw [if_pos hb, if_pos hb, if_pos (by omega), if_pos (by omega), if_pos (by omega), if_pos (by omega), w_upL i (by omega), Int.toNat_natCast, Int.toNat_natCast,
        ih (i + 1) (i + 1) _ k (by omega) (Nat.le_refl _) (by simp; omega) (by omega), List.append_assoc]; rfl
    · rw [if_neg hb, if_neg hb, w_upL i (by omega), ih (i + 1) fr xs k (by omega) (by omega) (by omega) (by omega)]
theorem lines_ev (s : ByteArray) (hs : s.size ≤ 1000000000) (k : Nat) (hk : s.size + 1 ≤ k) : spec_StrLines.f k s = some (Str.linesV s, s.extract (Str.restP s) s.size) := by
  unfold spec_StrLines.f
  have := lines_l s hs s.size 0 0 [] k (Nat.zero_add _) (Nat.le_refl _) (Nat.zero_le _) hk
  rw [List.nil_append] at this
  exact this
theorem implines_ev (s : ByteArray) (hs : s.size ≤ 1000000000) (k : Nat) (hk : s.size + 1 ≤ k) : impl_StrLines.f k s = some (Str.linesV s, s.extract (Str.restP s) s.size) := by
  unfold impl_StrLines.f
  rw [if_pos (by omega), if_pos (by omega), lines_ev s hs k hk]; rfl
theorem lines_len (s : ByteArray) : (Str.linesV s).length ≤ s.size := lns_len s s.size 0 0
theorem w_upE (n : Nat) (h : n ≤ 4611686018427387904) : wrap64 ((n : Int) + 1) = ((n + 1 : Nat) : Int) := by
  rw [Lib.wrap_id (by omega) (by omega)]; omega
theorem eqstrings_l (L : List ByteArray) (hL : L.length ≤ 2000000000) : ∀ (n i k : Nat), i + n = L.length → n + 1 ≤ k → laws_eqStringS.l0 k L L (i : Int) = some true := by
  intro n
  induction n with
  | zero =>
    intro i k hi hk
    obtain ⟨k, rfl⟩ : ∃ k', k = k' + 1 := ⟨k - 1, by omega⟩
    rw [laws_eqStringS.l0, if_neg (by omega)]
  | succ n ih =>
    intro i k hi hk
    obtain ⟨k, rfl⟩ : ∃ k', k = k' + 1 := ⟨k - 1, by omega⟩
    rw [laws_eqStringS.l0, if_pos (by omega), if_pos (by omega), if_pos (by omega), if_pos rfl, w_upE i (by omega)]
    exact ih (i + 1) k (by omega) (by omega)
theorem eqstrings_ev (L : List ByteArray) (hL : L.length ≤ 2000000000) (k : Nat) (hk : L.length + 1 ≤ k) : laws_eqStringS.f k L L = some true := by
  unfold laws_eqStringS.f
  rw [if_pos rfl]
  exact eqstrings_l L hL L.length 0 k (Nat.zero_add _) hk
theorem tdiv_ten (n : Nat) (h : n ≤ 4611686018427387904) : wrap64 (Int.tdiv (n : Int) 10) = ((n / 10 : Nat) : Int) := by
  rw [show Int.tdiv (n : Int) 10 = ((n / 10 : Nat) : Int) from rfl, Lib.wrap_id (by omega) (by omega)]
theorem marktext_l : ∀ (d n : Nat) (x : ByteArray), n ≤ d → n ≤ 4611686018427387904 → x.size + n ≤ 4611686018427387904 → ∃ t, ∀ k, d + 1 ≤ k → laws_markText.l0 k (n : Int) x = some t := by
  intro d
  induction d with
  | zero =>
    intro n x h1 h2 h3
    refine ⟨(⟨#[109]⟩ : ByteArray) ++ x, fun k hk => ?_⟩
    obtain ⟨k, rfl⟩ : ∃ k', k = k' + 1 := ⟨k - 1, by omega⟩
    rw [laws_markText.l0, if_neg (by omega), if_pos (by omega)]
  | succ d ih =>
    intro n x h1 h2 h3
    by_cases c : (n : Int) > 0
    · have hz : (strOfNums [(wrap64 (48 + (Int.tmod (n : Int) 10))) % 256]).size = 1 := rfl
      obtain ⟨t, ht⟩ := ih (n / 10) (strOfNums [(wrap64 (48 + (Int.tmod (n : Int) 10))) % 256] ++ x) (by omega) (by omega) (by rw [ByteArray.size_append, hz]; omega)
      refine ⟨t, fun k hk => ?_⟩
      obtain ⟨k, rfl⟩ : ∃ k', k = k' + 1 := ⟨k - 1, by omega⟩
      rw [laws_markText.l0, if_pos c, Option.bind_some, hz, if_pos (by omega), tdiv_ten n h2]
      exact ht k (by omega)
    · refine ⟨(⟨#[109]⟩ : ByteArray) ++ x, fun k hk => ?_⟩
      obtain ⟨k, rfl⟩ : ∃ k', k = k' + 1 := ⟨k - 1, by omega⟩
      rw [laws_markText.l0, if_neg c, if_pos (by omega)]
theorem marktext_ev (n : Nat) (h : n ≤ 1000000000) : ∃ t, ∀ k, n + 1 ≤ k → laws_markText.f k (n : Int) = some t := by
  by_cases c : (n : Int) ≤ 0
  · exact ⟨(⟨#[109, 48]⟩ : ByteArray), fun k _ => by unfold laws_markText.f; rw [if_pos c]⟩
  · obtain ⟨t, ht⟩ := marktext_l n n (⟨#[]⟩ : ByteArray) (Nat.le_refl _) (by omega) (by show 0 + n ≤ _; omega)
    exact ⟨t, fun k hk => by unfold laws_markText.f; rw [if_neg c]; exact ht k hk⟩
open Classical in
noncomputable def mkT (n : Nat) : ByteArray := if h : ∃ t, ∀ k, n + 1 ≤ k → laws_markText.f k (n : Int) = some t then Classical.choose h else ByteArray.empty
theorem mkT_ev (n : Nat) (h : n ≤ 1000000000) (k : Nat) (hk : n + 1 ≤ k) : laws_markText.f k (n : Int) = some (mkT n) := by
  have hx := marktext_ev n h
  unfold mkT
  rw [dif_pos hx]
  exact Classical.choose_spec hx k hk
theorem w_upM (n : Nat) (h : n ≤ 4611686018427387904) : wrap64 ((n : Int) + 1) = ((n + 1 : Nat) : Int) := by
  rw [Lib.wrap_id (by omega) (by omega)]; omega
theorem w_upM1 (n : Nat) (h : n ≤ 4611686018427387904) : wrap64 (((1 + n : Nat) : Int) + 1) = ((1 + (n + 1) : Nat) : Int) := by
  rw [Lib.wrap_id (by omega) (by omega)]; omega
noncomputable def mkL (n : Nat) : List ByteArray := (List.range n).map fun i => mkT (1 + i)
theorem mark_l (L : List ByteArray) (hL : L.length ≤ 2000000) : ∀ (n i k : Nat), i + n = L.length → 2 * L.length + n + 3 ≤ k →
    laws_markStringS.l0 k (mkL i ++ L.drop i) ((1 + i : Nat) : Int) (i : Int) = some (((1 + L.length : Nat) : Int), mkL L.length) := by
  intro n
  induction n with
  | zero =>
    intro i k hi hk
    obtain ⟨k, rfl⟩ : ∃ k', k = k' + 1 := ⟨k - 1, by omega⟩
    have : i = L.length := by omega
    subst this
    rw [List.drop_length, List.append_nil, laws_markStringS.l0, if_neg (by simp [mkL])]
  | succ n ih =>
    intro i k hi hk
    obtain ⟨k, rfl⟩ : ∃ k', k = k' + 1 := ⟨k - 1, by omega⟩
    have hlen : (mkL i ++ L.drop i).length = L.length := by simp [mkL]; omega
    have hset : (mkL i ++ L.drop i).set i (mkT (1 + i)) = mkL (i + 1) ++ L.drop (i + 1) := by
      rw [List.set_append_right _ _ (by simp [mkL]), show i - (mkL i).length = 0 by simp [mkL], List.drop_eq_getElem_cons (show i < L.length by omega), List.set_cons_zero]
      unfold mkL
      rw [List.range_succ, List.map_append, List.append_assoc]; rfl
    rw [laws_markStringS.l0, if_pos (by rw [hlen]; omega), mkT_ev (1 + i) (by omega) k (by omega), Option.bind_some, if_pos (by omega), Int.toNat_natCast, hset, w_upM1 i (by omega), w_upM i (by omega)]
    exact ih (i + 1) k (by omega) (by omega)
theorem mark_ev (L : List ByteArray) (hL : L.length ≤ 2000000) (k : Nat) (hk : 3 * L.length + 3 ≤ k) : laws_markStringS.f k L 1 = some (((1 + L.length : Nat) : Int), mkL L.length) := by
  unfold laws_markStringS.f
  exact mark_l L hL L.length 0 k (Nat.zero_add _) (by omega)
theorem held_l (N : Nat) (hN : N ≤ 2000000) : ∀ (n i k : Nat), i + n = N → 2 * N + n + 3 ≤ k →
    laws_heldStringS.l0 k (mkL N) ((1 + i : Nat) : Int) (i : Int) = some ((1 + N : Nat) : Int) := by
  have hlen : (mkL N).length = N := by simp [mkL]
  intro n
  induction n with
  | zero =>
    intro i k hi hk
    obtain ⟨k, rfl⟩ : ∃ k', k = k' + 1 := ⟨k - 1, by omega⟩
    rw [laws_heldStringS.l0, if_neg (by rw [hlen]; omega), show i = N by omega]
  | succ n ih =>
    intro i k hi hk
    obtain ⟨k, rfl⟩ : ∃ k', k = k' + 1 := ⟨k - 1, by omega⟩
    have hrd : rdOf ByteArray.empty (mkL N) (i : Int) = mkT (1 + i) := by
      unfold rdOf mkL
      rw [Int.toNat_natCast, List.getD_eq_getElem?_getD, List.getElem?_map, List.getElem?_range (by omega)]; rfl
    rw [laws_heldStringS.l0, if_pos (by rw [hlen]; omega), if_pos (by omega), mkT_ev (1 + i) (by omega) k (by omega), Option.bind_some, hrd, if_pos rfl, w_upM1 i (by omega), w_upM i (by omega)]
    exact ih (i + 1) k (by omega) (by omega)
theorem held_ev (N : Nat) (hN : N ≤ 2000000) (k : Nat) (hk : 3 * N + 3 ≤ k) : laws_heldStringS.f k (mkL N) 1 = some ((1 + N : Nat) : Int) := by
  unfold laws_heldStringS.f
  exact held_l N hN N 0 k (Nat.zero_add _) (by omega)
end Go.Proofs.Ytmahgffkkdggcaa.QFnExactStrLines
