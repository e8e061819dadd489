/- FnSegSum: for every code (longer than 2^20: nothing is asked) the program's sum of the drawn bytes is the reference's, a number below 65521; of no bytes it is 1; and one turned byte turns the sum. -/
import Derived.Test.YtdfoelhpeeanlaaDFnSegSum
namespace Go.Proofs.Ytdfoelhpeeanlaa.Pure
open Go.RowKit Go.Proofs.Ytdfoelhpeeanlaa.QFnSegSum Go.Proofs.YtdfoelhpeeanlaaW.PrintWords Go.Proofs.YtdfoelhpeeanlaaW.PrintLast Go.Proofs.Ytdfoelhpeeanlaa

theorem step_inj {n m x : Int} (h0 : 0 ≤ n) (h1 : n ≤ 65520) (g0 : 0 ≤ m) (g1 : m ≤ 65520) (h : segStep n x = segStep m x) : n = m := by
  unfold segStep at h; omega
theorem step_ne {n x y : Int} (x0 : 0 ≤ x) (x1 : x ≤ 255) (y0 : 0 ≤ y) (y1 : y ≤ 255) (h : segStep n x = segStep n y) : x = y := by
  unfold segStep at h; omega
theorem fold_inj (l : List Int) : ∀ (n m : Int), 0 ≤ n → n ≤ 65520 → 0 ≤ m → m ≤ 65520 → l.foldl segStep n = l.foldl segStep m → n = m := by
  induction l with
  | nil => intro n m _ _ _ _ h; exact h
  | cons x l ih =>
    intro n m h0 h1 g0 g1 h
    simp only [List.foldl_cons] at h
    have a := step_bd n x
    have b := step_bd m x
    exact step_inj h0 h1 g0 g1 (ih _ _ a.1 a.2 b.1 b.2 h)
theorem sum_set (l : List Int) (hb : Lib.Bytes l) (v : Int) (v0 : 0 ≤ v) (v1 : v ≤ 255) : ∀ (i : Nat) (n : Int), i < l.length → 0 ≤ n → n ≤ 65520 → l.getD i 0 ≠ v → (l.set i v).foldl segStep n ≠ l.foldl segStep n := by
  induction l with
  | nil => intro i n hi; simp at hi
  | cons x l ih =>
    intro i n hi h0 h1 hv
    have hx := hb x (by simp)
    have hb' : Lib.Bytes l := fun z hz => hb z (by simp [hz])
    cases i with
    | zero =>
      simp only [List.set_cons_zero, List.foldl_cons]
      intro h
      have a := step_bd n x
      have b := step_bd n v
      have e := fold_inj l _ _ b.1 b.2 a.1 a.2 h
      exact hv (step_ne v0 v1 hx.1 (by omega) e).symm
    | succ i =>
      simp only [List.set_cons_succ, List.foldl_cons]
      have a := step_bd n x
      exact ih hb' i _ (by simpa using hi) a.1 a.2 (by simpa using hv)

theorem FnSegSum : laws_FnSegSum.Pure := by
  intro l hm hl hw
  by_cases c : (l.length : Int) > 1048576
  · exact ⟨0, by unfold laws_FnSegSum.f; rw [if_pos c]⟩
  obtain ⟨m, ⟨K1, e1⟩, bm, lm⟩ := drawsegsum_ev l (Lib.bytes_wf hw) (by omega)
  obtain ⟨K2, e2⟩ := impl_sum_ev m (by omega) bm
  obtain ⟨K3, e3⟩ := spec_sum_ev m (by omega) bm
  have hs := sumF_bd m
  dsimp only at e1 e2 e3
  have go : ∀ K4, laws_FnSegSum.j0 (K1 + K2 + K3 + K4 + 1) l m (sumF m) false = some true → ∃ k, laws_FnSegSum.f k l = some true := fun K4 h => by
    refine ⟨K1 + K2 + K3 + K4 + 1, ?_⟩
    unfold laws_FnSegSum.f
    rw [if_neg c, e1 _ (by omega), Option.bind_some, e2 _ (by omega), Option.bind_some, e3 _ (by omega), Option.bind_some, if_pos rfl, if_neg (by omega), decide_eq_false (by omega), h]
  by_cases z : (m.length : Int) = 0
  · refine go 0 ?_
    obtain rfl : m = [] := List.length_eq_zero_iff.1 (by omega)
    rw [laws_FnSegSum.j0, if_neg (by decide), if_pos (by simp)]
    rfl
  · obtain ⟨i, hi⟩ : ∃ i : Nat, (l.length : Int) % (m.length : Int) = (i : Int) := Int.eq_ofNat_of_zero_le (Int.emod_nonneg _ z)
    have hi2 : i < m.length := by
      have := Int.emod_lt_of_pos (l.length : Int) (show (0 : Int) < (m.length : Int) by omega)
      omega
    have hr := Lib.bytes_rd bm i
    obtain ⟨d, hd⟩ : ∃ d, d = 1 + (l.length : Int) % 255 := ⟨_, rfl⟩
    have hx := xor_u8 (rd m (i : Int)) d (by omega) (by omega) (by omega) (by omega)
    obtain ⟨v, hv⟩ : ∃ v, v = Go.bits .xor .u8 (rd m (i : Int)) d := ⟨_, rfl⟩
    rw [← hv] at hx
    have bs : Lib.Bytes (m.set i v) := bytes_set bm i hx.1 hx.2.1
    obtain ⟨K4, e4⟩ := impl_sum_ev (m.set i v) (by simp; omega) bs
    dsimp only at e4
    refine go K4 ?_
    rw [laws_FnSegSum.j0, if_neg (by decide), if_neg z, Option.bind_some, if_pos (by simp; omega), Option.bind_some, List.nil_append, if_neg z, hi, if_pos (by omega), if_pos (by omega), Int.toNat_natCast, ← hd, ← hv, e4 _ (by omega), Option.bind_some]
    congr 1
    have hne : sumF (m.set i v) ≠ sumF m := sum_set m bm v hx.1 hx.2.1 i 1 hi2 (by omega) (by omega) (by rw [← Lib.rd_nat]; exact fun h => hx.2.2 h.symm)
    simpa [bne_iff_ne] using hne

end Go.Proofs.Ytdfoelhpeeanlaa.Pure
