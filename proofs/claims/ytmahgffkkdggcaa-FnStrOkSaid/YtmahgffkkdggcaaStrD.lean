/- The lines of a text: of a beginning, of two texts one behind the other; what they make up together. -/
import Derived.Test.YtmahgffkkdggcaaStr
set_option linter.unusedVariables false
set_option linter.unusedSimpArgs false
namespace Go.Proofs.Ytmahgffkkdggcaa.Str
open Go.RowKit Go.Proofs.YtmahgffkkdggcaaW.PrintWords

theorem lns_split (s : ByteArray) : ∀ (a b fr i : Nat), lns s (a + b) fr i = ((lns s a fr i).1 ++ (lns s b (lns s a fr i).2 (i + a)).1, (lns s b (lns s a fr i).2 (i + a)).2) := by
  intro a
  induction a with
  | zero => intro b fr i; rw [Nat.zero_add]; rfl
  | succ a ih =>
    intro b fr i
    rw [show a + 1 + b = (a + b) + 1 by omega, lns, lns]
    by_cases h : bt s (i : Int) = 59
    · rw [if_pos h, if_pos h, ih b (i + 1) (i + 1), show i + 1 + a = i + (a + 1) by omega]; rfl
    · rw [if_neg h, if_neg h, ih b fr (i + 1), show i + 1 + a = i + (a + 1) by omega]
/-- Where two texts are the same the lines are. -/
theorem lns_same (s p : ByteArray) (o : Nat) : ∀ (n fr i : Nat), fr ≤ i → (∀ t, t < i + n → bt s ((o + t : Nat) : Int) = bt p (t : Int)) → (∀ a b, a ≤ b → b ≤ i + n → s.extract (o + a) (o + b) = p.extract a b) →
    lns s n (o + fr) (o + i) = ((lns p n fr i).1, o + (lns p n fr i).2) := by
  intro n
  induction n with
  | zero => intro fr i _ _ _; rfl
  | succ n ih =>
    intro fr i hf h1 h2
    rw [lns, lns, h1 i (by omega)]
    by_cases h : bt p (i : Int) = 59
    · rw [if_pos h, if_pos h, h2 fr i hf (by omega), show o + i + 1 = o + (i + 1) by omega, ih (i + 1) (i + 1) (Nat.le_refl _) (fun t ht => h1 t (by omega)) (fun a b x y => h2 a b x (by omega))]
    · rw [if_neg h, if_neg h, show o + i + 1 = o + (i + 1) by omega, ih fr (i + 1) (by omega) (fun t ht => h1 t (by omega)) (fun a b x y => h2 a b x (by omega))]
theorem lns_le (s : ByteArray) : ∀ (n fr i : Nat), fr ≤ i → fr ≤ (lns s n fr i).2 ∧ (lns s n fr i).2 ≤ i + n := by
  intro n
  induction n with
  | zero => intro fr i h; exact ⟨Nat.le_refl _, h⟩
  | succ n ih =>
    intro fr i h
    rw [lns]
    split
    · have := ih (i + 1) (i + 1) (Nat.le_refl _); exact ⟨by omega, by omega⟩
    · have := ih fr (i + 1) (by omega); exact ⟨by omega, by omega⟩
theorem lns_mem (s : ByteArray) : ∀ (n fr i : Nat) (x : ByteArray), x ∈ (lns s n fr i).1 → x.size ≤ s.size := by
  intro n
  induction n with
  | zero => intro fr i x h; cases h
  | succ n ih =>
    intro fr i x h
    rw [lns] at h
    split at h
    · rcases List.mem_cons.1 h with h | h
      · rw [h, ByteArray.size_extract]; omega
      · exact ih _ _ x h
    · exact ih _ _ x h
theorem bt_ext (s : ByteArray) (a b : Nat) (hb : b ≤ s.size) (t : Nat) (ht : t < b - a) : bt (s.extract a b) (t : Int) = bt s ((a + t : Nat) : Int) := by
  rw [Lib.bt_eq (s.extract a b) t (by rw [ByteArray.size_extract]; omega), Lib.bt_eq s (a + t) (by omega), ByteArray.getElem_extract]
/-- The lines of a beginning: as far as it goes. -/
theorem lines_part (s : ByteArray) (k : Nat) (hk : k ≤ s.size) : linesV (s.extract 0 k) = (lns s k 0 0).1 ∧ restP (s.extract 0 k) = (lns s k 0 0).2 ∧
    linesV s = (lns s k 0 0).1 ++ (lns s (s.size - k) (lns s k 0 0).2 k).1 ∧ restP s = (lns s (s.size - k) (lns s k 0 0).2 k).2 := by
  have hz : (s.extract 0 k).size = k := by rw [ByteArray.size_extract]; omega
  have h := lns_same s (s.extract 0 k) 0 k 0 0 (Nat.le_refl _) (fun t ht => by rw [bt_ext s 0 k hk t (by omega)]) (fun a b x y => by
    rw [ByteArray.extract_extract]; congr 1 <;> omega)
  have h2 := lns_split s k (s.size - k) 0 0
  rw [show k + (s.size - k) = s.size by omega, Nat.zero_add] at h2
  simp only [Nat.zero_add] at h
  unfold linesV restP
  rw [hz, h2, h]
  exact ⟨rfl, rfl, rfl, rfl⟩
/-- What is left of a beginning is a beginning of the line behind it, or of the rest. -/
theorem left_part (s : ByteArray) : ∀ (n fr i : Nat), fr ≤ i → i + n = s.size → ∃ j, i ≤ j ∧ j ≤ s.size ∧ ((∃ tl, (lns s n fr i).1 = s.extract fr j :: tl) ∨ ((lns s n fr i) = ([], fr) ∧ j = s.size)) := by
  intro n
  induction n with
  | zero => intro fr i h1 h2; exact ⟨i, Nat.le_refl _, by omega, .inr ⟨rfl, by omega⟩⟩
  | succ n ih =>
    intro fr i h1 h2
    rw [lns]
    by_cases h : bt s (i : Int) = 59
    · rw [if_pos h]; exact ⟨i, Nat.le_refl _, by omega, .inl ⟨_, rfl⟩⟩
    · rw [if_neg h]
      obtain ⟨j, a, b, c⟩ := ih fr (i + 1) (by omega) (by omega)
      exact ⟨j, by omega, b, c⟩
/-- Two texts, the first without a rest. -/
theorem lines_join (a b : ByteArray) (h : restP a = a.size) : linesV (a ++ b) = linesV a ++ linesV b ∧ (a ++ b).extract (restP (a ++ b)) (a ++ b).size = b.extract (restP b) b.size := by
  have hz : (a ++ b).size = a.size + b.size := ByteArray.size_append
  have e1 : (a ++ b).extract 0 a.size = a := by
    apply ByteArray.ext; simp [ByteArray.data_append, ByteArray.data_extract, ← ByteArray.size_data]
  have e2 : ∀ x y, (a ++ b).extract (a.size + x) (a.size + y) = b.extract x y := fun x y => by
    apply ByteArray.ext; simp [ByteArray.data_append, ByteArray.data_extract, ← ByteArray.size_data, Array.extract_append]
  obtain ⟨p1, p2, p3, p4⟩ := lines_part (a ++ b) a.size (by omega)
  rw [e1] at p1 p2
  rw [← p1, ← p2, h, show (a ++ b).size - a.size = b.size by omega] at p3
  rw [← p2, h, show (a ++ b).size - a.size = b.size by omega] at p4
  have hs := lns_same (a ++ b) b a.size b.size 0 0 (Nat.le_refl _) (fun t ht => by
    have := Lib.bt_right a b t (by omega)
    exact this) (fun x y _ _ => e2 x y)
  rw [Nat.add_zero] at hs
  rw [hs] at p3 p4
  refine ⟨p3, ?_⟩
  rw [p4, hz]
  exact e2 _ _
theorem first_sign (s : ByteArray) : ∀ (n i : Nat), (∀ t, i ≤ t → t < i + n → bt s (t : Int) ≠ 59) ∨ ∃ d, d < n ∧ (∀ t, i ≤ t → t < i + d → bt s (t : Int) ≠ 59) ∧ bt s ((i + d : Nat) : Int) = 59 := by
  intro n
  induction n with
  | zero => intro i; exact .inl fun t a b => by omega
  | succ n ih =>
    intro i
    by_cases h : bt s (i : Int) = 59
    · exact .inr ⟨0, by omega, fun t a b => by omega, h⟩
    · rcases ih (i + 1) with h2 | ⟨d, h2, h3, h4⟩
      · exact .inl fun t a b => by
          by_cases e : t = i
          · rw [e]; exact h
          · exact h2 t (by omega) (by omega)
      · exact .inr ⟨d + 1, by omega, fun t a b => by
          by_cases e : t = i
          · rw [e]; exact h
          · exact h3 t (by omega) (by omega), by rw [show i + (d + 1) = i + 1 + d by omega]; exact h4⟩
/-- From a line's beginning on: no sign any more, or the next line, with its sign behind it. -/
theorem lns_cases (s : ByteArray) (fr : Nat) (hf : fr ≤ s.size) : lns s (s.size - fr) fr fr = ([], fr) ∨
    ∃ d, fr + d < s.size ∧ (∀ t, t < d → bt (s.extract fr (fr + d)) (t : Int) ≠ 59) ∧ s.extract 0 fr ++ s.extract fr (fr + d) ++ (⟨#[59]⟩ : ByteArray) = s.extract 0 (fr + d + 1) ∧
      lns s (s.size - fr) fr fr = (s.extract fr (fr + d) :: (lns s (s.size - (fr + d + 1)) (fr + d + 1) (fr + d + 1)).1, (lns s (s.size - (fr + d + 1)) (fr + d + 1) (fr + d + 1)).2) := by
  rcases first_sign s (s.size - fr) fr with h | ⟨d, h1, h2, h3⟩
  · exact .inl (lns_none s _ fr fr h)
  · refine .inr ⟨d, by omega, fun t ht => ?_, ?_, ?_⟩
    · rw [bt_ext s fr (fr + d) (by omega) t (by omega)]; exact h2 _ (by omega) (by omega)
    · have e0 : min 0 fr = 0 ∧ max fr (fr + d) = fr + d := ⟨by omega, by omega⟩
      have e : (⟨#[59]⟩ : ByteArray) = s.extract (fr + d) (fr + d + 1) := by
        have hb := (bt_list s (fr + d) (by omega)).1 h3
        have hsz : (s.extract (fr + d) (fr + d + 1)).size = 1 := by rw [ByteArray.size_extract]; omega
        refine Lib.bt_ext _ _ hsz.symm fun i hi => ?_
        obtain rfl : i = 0 := by have : (⟨#[59]⟩ : ByteArray).size = 1 := rfl; omega
        rw [bt_ext s (fr + d) (fr + d + 1) (by omega) 0 (by omega), Nat.add_zero, h3]; rfl
      rw [e, ByteArray.extract_append_extract, e0.1, e0.2, ByteArray.extract_append_extract]
      congr 1 <;> omega
    · have h4 := lns_next s d (s.size - (fr + d + 1)) fr fr h2 h3
      rw [show d + (s.size - (fr + d + 1) + 1) = s.size - fr by omega] at h4
      exact h4

end Go.Proofs.Ytmahgffkkdggcaa.Str
