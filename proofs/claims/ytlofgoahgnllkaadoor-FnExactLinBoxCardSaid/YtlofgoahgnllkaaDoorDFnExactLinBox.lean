/- What the reference's draws and functions that this law reaches come to: plain lemmas on the printed functions. -/
import Derived.Test.YtlofgoahgnllkaaDoorQFnExactLinBoxx3
import Derived.Test.YtlofgoahgnllkaaDoorEnds
import Derived.Test.YtlofgoahgnllkaaDoorLib
import Derived.Laws.BitsLemmas
set_option linter.unusedVariables false
set_option linter.unusedSimpArgs false
namespace Go.Proofs.YtlofgoahgnllkaaDoor.QFnExactLinBox
open Go.RowKit Go.Proofs.YtlofgoahgnllkaaDoorW.PrintWords Go.Proofs.YtlofgoahgnllkaaDoorW.PrintLast Go.Proofs.YtlofgoahgnllkaaDoorW.PrintMore
open Go.Proofs.YtlofgoahgnllkaaDoor
open Go.Proofs.YtlofgoahgnllkaaDoor.Ends
theorem spec_ins (a p : Int) : spec_EndInside.f a p = some (insB a p) := by
  simp only [spec_EndInside.f, spec_l1In.f, insB]
  by_cases h1 : a ≥ 1 <;> by_cases h2 : a ≤ 9 <;> by_cases h3 : p ≥ 1 <;> by_cases h4 : p ≤ 999 <;> simp [h1, h2, h3, h4] <;> omega
/-! the reference's reading is total -/
theorem plain_tot : ∀ (k : Nat) (n : Int) (x : ByteArray), k ≤ 3 → 0 ≤ n → n ≤ (if k = 0 then 9 else if k = 1 then 99 else if k = 2 then 999 else 9999) → x.size + k ≤ 100 → ∃ t, spec_l1Plain.l0 (k + 1) n x = some t := by
  intro k
  induction k with
  | zero => intro n x _ h0 h1 hx; exact ⟨_, plain_last 0 n x h0 (by simpa using h1) (by omega)⟩
  | succ k ih =>
    intro n x hk h0 h1 hx
    by_cases c : 9 < n
    · have hn : n ≤ 9999 := by split at h1 <;> (try split at h1) <;> (try split at h1) <;> omega
      rw [plain_step (k + 1) n x c (by omega) (by omega)]
      refine ih (n / 10) _ (by omega) (by omega) ?_ (by rw [ByteArray.size_append]; show 1 + x.size + k ≤ 100; omega)
      match k, hk with
      | 0, _ => simp at h1 ⊢; omega
      | 1, _ => simp at h1 ⊢; omega
      | 2, _ => simp at h1 ⊢; omega
    · exact ⟨_, plain_last (k + 1) n x h0 (by omega) (by omega)⟩
theorem plain_all (n : Int) (h0 : 0 ≤ n) (h1 : n ≤ 9999) (k : Nat) (hk : 4 ≤ k) : ∃ t, spec_l1Plain.f k n = some t := by
  obtain ⟨t, ht⟩ := plain_tot 3 n ⟨#[]⟩ (by omega) h0 (by simpa using h1) (by show 0 + 3 ≤ 100; omega)
  exact ⟨t, at_rounds (g := fun k => spec_l1Plain.f k n) (spec_l1Plain.mono n) hk ht⟩
theorem num_tot (w : ByteArray) (hw : w.size ≤ 4) : ∀ (m i k : Nat) (n : Int), i + m = w.size → 0 ≤ n → n ≤ (if m = 0 then 9999 else if m = 1 then 999 else if m = 2 then 99 else if m = 3 then 9 else 0) → m + 5 ≤ k → ∃ v, spec_l1Num.l0 k w n (i : Int) = some v := by
  intro m
  induction m with
  | zero =>
    intro i k n hi h0 h1 hk
    obtain ⟨k, rfl⟩ : ∃ j, k = j + 1 := ⟨k - 1, by omega⟩
    rw [spec_l1Num.l0, if_neg (by omega)]
    obtain ⟨t, ht⟩ := plain_all n h0 (by simpa using h1) k (by omega)
    rw [ht, Option.bind_some]
    by_cases c : t.toList = w.toList
    · rw [if_pos c]; exact ⟨_, rfl⟩
    · rw [if_neg c]; exact ⟨_, rfl⟩
  | succ m ih =>
    intro i k n hi h0 h1 hk
    obtain ⟨k, rfl⟩ : ∃ j, k = j + 1 := ⟨k - 1, by omega⟩
    have hn : n ≤ 9999 := by split at h1 <;> (try split at h1) <;> (try split at h1) <;> (try split at h1) <;> omega
    by_cases c2 : bt w (i : Int) < 48
    · exact ⟨-1, by rw [spec_l1Num.l0, if_pos (by omega), if_pos (by omega), if_pos c2]⟩
    · by_cases c3 : bt w (i : Int) > 57
      · exact ⟨-1, by rw [spec_l1Num.l0, if_pos (by omega), if_pos (by omega), if_neg c2, if_pos c3]⟩
      · have hm : m ≤ 3 := by omega
        obtain ⟨d, hd⟩ : ∃ d, d = bt w (i : Int) - 48 := ⟨_, rfl⟩
        rw [num_step k w n i d (by omega) (by omega) (by omega) (by omega) (by omega) h0 (by omega)]
        refine ih (i + 1) k _ (by omega) (by omega) ?_ (by omega)
        match m, hm with
        | 0, _ => simp at h1 ⊢; omega
        | 1, _ => simp at h1 ⊢; omega
        | 2, _ => simp at h1 ⊢; omega
        | 3, _ => simp at h1 ⊢; omega
theorem num_all (w : ByteArray) (k : Nat) (hk : 12 ≤ k) : ∃ v, spec_l1Num.f k w = some v := by
  obtain ⟨k, rfl⟩ : ∃ j, k = j + 1 := ⟨k - 1, by omega⟩
  have h1 : spec_l1Num.j0 (k + 1) w true = some (-1) := by rw [spec_l1Num.j0, if_pos rfl]
  unfold spec_l1Num.f
  by_cases c : (w.size : Int) = 0
  · rw [if_pos c]; exact ⟨_, h1⟩
  · rw [if_neg c]
    by_cases c4 : (w.size : Int) > 4
    · rw [decide_eq_true c4]; exact ⟨_, h1⟩
    · rw [decide_eq_false c4, spec_l1Num.j0, if_neg (by decide)]
      refine num_tot w (by omega) w.size 0 k 0 (Nat.zero_add _) (by omega) ?_ (by omega)
      split <;> (try split) <;> (try split) <;> (try split) <;> omega
theorem read_all (s : ByteArray) (hs : s.size ≤ 1048576) (k : Nat) (hk : s.size + 20 ≤ k) : ∃ r, spec_EndRead.f k s = some r := by
  unfold spec_EndRead.f spec_l1Words.f
  have hw := words_all s hs s.size 0 k [] ⟨#[]⟩ (Nat.zero_add _) (Nat.zero_le _) (by show 0 ≤ 0; omega) (by omega)
  rw [show ((0 : Nat) : Int) = 0 from rfl] at hw
  rw [hw, Option.bind_some]
  by_cases c : (([] ++ wds s s.size ⟨#[]⟩ 0 : List ByteArray).length : Int) = 2
  · rw [if_pos c, if_pos (by omega)]
    obtain ⟨v1, e1⟩ := num_all (rdOf ByteArray.empty ([] ++ wds s s.size ⟨#[]⟩ 0) 0) k (by omega)
    obtain ⟨v2, e2⟩ := num_all (rdOf ByteArray.empty ([] ++ wds s s.size ⟨#[]⟩ 0) 1) k (by omega)
    rw [e1, Option.bind_some, if_pos (by omega), e2, Option.bind_some, spec_end, Option.bind_some]
    by_cases c2 : decide (endOkP v1 v2) = true
    · rw [if_pos c2]; exact ⟨_, rfl⟩
    · rw [if_neg c2]; exact ⟨_, rfl⟩
  · rw [if_neg c]; exact ⟨_, rfl⟩
/-- What the reference's EndRead of s is, from a number of rounds on. -/
theorem read_ev (s : ByteArray) (hs : s.size ≤ 1048576) : ∃ x y b, Ends.ED s x y b ∧ Ev (fun k => spec_EndRead.f k s) (x, y, b) := by
  obtain ⟨⟨x, y, b⟩, h⟩ := read_all s hs (s.size + 20) (Nat.le_refl _)
  exact ⟨x, y, b, read_part s (by omega) _ x y b h, Ev.of (k := s.size + 20) (spec_EndRead.mono s) h⟩
theorem box_all (s : ByteArray) (hs : s.size ≤ 1048576) : ∃ r, spec_LinBox.f (s.size + 21) s = some r := by
  have ht : ∃ r, spec_LinBox.j0 (s.size + 21) s true = some r := ⟨_, by rw [spec_LinBox.j0, if_pos rfl]⟩
  unfold spec_LinBox.f
  by_cases c : (s.size : Int) < 5
  · rw [if_pos c]; exact ht
  · rw [if_neg c, if_pos (by omega), if_pos (by omega)]
    cases hp : ((s.extract 0 5).toList != ([112, 111, 114, 116, 32] : List UInt8)) with
    | true => exact ht
    | false =>
      rw [spec_LinBox.j0, if_neg (by decide), if_pos (by omega)]
      have hz := ext5 s _ (Nat.le_refl _)
      obtain ⟨⟨u, v, b⟩, e⟩ := read_all (s.extract 5 s.size) (by omega) (s.size + 20) (by omega)
      rw [e, Option.bind_some]
      by_cases c2 : b = true
      · rw [if_pos c2]
        by_cases c3 : u = 50
        · rw [if_pos c3]; exact ⟨_, rfl⟩
        · rw [if_neg c3]; exact ⟨_, rfl⟩
      · rw [if_neg c2]; exact ⟨_, rfl⟩
theorem box_ev (s : ByteArray) (hs : s.size ≤ 1048576) : ∃ x b, Ends.LB s x b ∧ Ev (fun k => spec_LinBox.f k s) (x, b) := by
  obtain ⟨⟨x, b⟩, h⟩ := box_all s hs
  exact ⟨x, b, box_part s (by omega) _ x b h, Ev.of (k := s.size + 21) (spec_LinBox.mono s) h⟩
end Go.Proofs.YtlofgoahgnllkaaDoor.QFnExactLinBox
