/- What the reference's draws and functions that this law reaches come to: plain lemmas on the printed functions. -/
import Derived.Test.YtlofgoahgnllkaaQFnExactMapOkx5
import Derived.Test.YtlofgoahgnllkaaLib
import Derived.Laws.BitsLemmas
set_option linter.unusedVariables false
set_option linter.unusedSimpArgs false
namespace Go.Proofs.Ytlofgoahgnllkaa.QFnExactMapOk
open Go.RowKit Go.Proofs.YtlofgoahgnllkaaW.PrintWords Go.Proofs.YtlofgoahgnllkaaW.PrintLast Go.Proofs.YtlofgoahgnllkaaW.PrintMore
open Go.Proofs.Ytlofgoahgnllkaa
/-- Where an end stands, counted from i. -/
def fnd : List S27 → Int → Int → Int → Int
  | [], _, _, _ => -1
  | x :: L, a, p, i => if x.f0 = a ∧ x.f1 = p then i else fnd L a p (i + 1)
theorem fnd_ge : ∀ (L : List S27) (a p i : Int), 0 ≤ i → fnd L a p i = -1 ∨ i ≤ fnd L a p i ∧ fnd L a p i < i + L.length
  | [], _, _, _, _ => .inl rfl
  | x :: L, a, p, i, h => by
    rw [fnd]
    by_cases c : x.f0 = a ∧ x.f1 = p
    · rw [if_pos c]; exact .inr ⟨Int.le_refl _, by simp; omega⟩
    · rw [if_neg c]
      rcases fnd_ge L a p (i + 1) (by omega) with h1 | h1
      · exact .inl h1
      · exact .inr ⟨by omega, by simp; omega⟩
theorem drop_T (L : List S27) (i : Nat) (h : i < L.length) : L.drop i = rd_T27 L (i : Int) :: L.drop (i + 1) := by
  rw [List.drop_eq_getElem_cons h]
  congr 1
  unfold rd_T27
  rw [Int.toNat_natCast, List.getD_eq_getElem?_getD, List.getElem?_eq_getElem h]; rfl
theorem w_upM (n : Nat) (h : n ≤ 4611686018427387904) : wrap64 ((n : Int) + 1) = ((n + 1 : Nat) : Int) := by
  rw [Lib.wrap_id (by omega) (by omega)]; omega
theorem find_l (L : List S27) (a p : Int) (hL : L.length ≤ 4611686018427387904) : ∀ (n i k : Nat), i + n = L.length → n + 1 ≤ k → spec_l3Find.l0 k (i : Int) L a p = some (fnd (L.drop i) a p (i : Int)) := by
  intro n
  induction n with
  | zero =>
    intro i k hi hk
    obtain ⟨k, rfl⟩ : ∃ k', k = k' + 1 := ⟨k - 1, by omega⟩
    rw [spec_l3Find.l0, if_neg (by omega), List.drop_of_length_le (by omega)]; rfl
  | succ n ih =>
    intro i k hi hk
    obtain ⟨k, rfl⟩ : ∃ k', k = k' + 1 := ⟨k - 1, by omega⟩
    rw [spec_l3Find.l0, if_pos (by omega), if_pos (by omega), drop_T L i (by omega), fnd]
    by_cases c : (rd_T27 L (i : Int)).f0 = a ∧ (rd_T27 L (i : Int)).f1 = p
    · rw [if_pos c, if_pos (by simp [c])]
    · rw [if_neg c, if_neg (by simpa using c), w_upM i (by omega), ih (i + 1) k (by omega) (by omega)]; rfl
theorem find_ev (L : List S27) (a p : Int) (hL : L.length ≤ 4611686018427387904) (k : Nat) (hk : L.length + 1 ≤ k) : spec_l3Find.f k L a p = some (fnd L a p 0) := by
  unfold spec_l3Find.f
  have := find_l L a p hL L.length 0 k (Nat.zero_add _) hk
  simpa using this
theorem idx_l (L : List S27) (a p : Int) (hL : L.length ≤ 4611686018427387904) : ∀ (n i k : Nat), i + n = L.length → n + 1 ≤ k → impl_EndPoint_40.l0 k L (L.length : Int) (i : Int) a p = some (fnd (L.drop i) a p (i : Int)) := by
  intro n
  induction n with
  | zero =>
    intro i k hi hk
    obtain ⟨k, rfl⟩ : ∃ k', k = k' + 1 := ⟨k - 1, by omega⟩
    rw [impl_EndPoint_40.l0, if_neg (by omega), List.drop_of_length_le (by omega)]; rfl
  | succ n ih =>
    intro i k hi hk
    obtain ⟨k, rfl⟩ : ∃ k', k = k' + 1 := ⟨k - 1, by omega⟩
    rw [impl_EndPoint_40.l0, if_pos (by omega), if_pos (by omega), if_pos (by omega), drop_T L i (by omega), fnd]
    by_cases c : (rd_T27 L (i : Int)).f0 = a ∧ (rd_T27 L (i : Int)).f1 = p
    · rw [if_pos c, if_pos (by simp [c])]
    · rw [if_neg c, if_neg (by simpa using fun h1 h2 => c ⟨h1.symm, h2.symm⟩), w_upM i (by omega), ih (i + 1) k (by omega) (by omega)]; rfl
theorem con_ev (L : List S27) (a p : Int) (hL : L.length ≤ 4611686018427387904) (k : Nat) (hk : L.length + 1 ≤ k) : impl_EndPoint_31.f k L a p = some (decide (0 ≤ fnd L a p 0)) := by
  unfold impl_EndPoint_31.f impl_EndPoint_40.f
  have := idx_l L a p hL L.length 0 k (Nat.zero_add _) hk
  rw [List.drop_zero] at this
  rw [show ((0 : Nat) : Int) = 0 from rfl] at this
  rw [this]; rfl
def insB (a p : Int) : Bool := decide ((1 ≤ a ∧ a ≤ 9) ∧ 1 ≤ p ∧ p ≤ 999)
theorem spec_ins (a p : Int) : spec_EndInside.f a p = some (insB a p) := by
  simp only [spec_EndInside.f, spec_l1In.f, insB]
  by_cases h1 : a ≥ 1 <;> by_cases h2 : a ≤ 9 <;> by_cases h3 : p ≥ 1 <;> by_cases h4 : p ≤ 999 <;> simp [h1, h2, h3, h4] <;> omega
theorem impl_ins (a p : Int) : impl_EndInside.f a p = some (insB a p) := by
  simp only [impl_EndInside.f, impl_inside.f, impl_portOk.f, impl_within.f, insB]
  by_cases h1 : a ≥ 1 <;> by_cases h2 : a ≤ 9 <;> by_cases h3 : p ≥ 1 <;> by_cases h4 : p ≤ 999 <;> simp [h1, h2, h3, h4] <;> omega
/-- From i on, n ends: each inside, and none that stands ahead of it. -/
def okF (L : List S27) : Nat → Nat → Bool
  | 0, _ => true
  | n + 1, i => insB (rd_T27 L (i : Int)).f0 (rd_T27 L (i : Int)).f1 && (decide (fnd (L.take i) (rd_T27 L (i : Int)).f0 (rd_T27 L (i : Int)).f1 0 < 0) && okF L n (i + 1))
def mapOkB (L : List S27) : Bool := decide (L.length ≤ 6) && okF L L.length 0
theorem spec_ok_l (L : List S27) (hL : L.length ≤ 4611686018427387904) : ∀ (n i k : Nat), i + n = L.length → L.length + n + 2 ≤ k → spec_MapOk.l0 k (i : Int) L = some (okF L n i) := by
  intro n
  induction n with
  | zero =>
    intro i k hi hk
    obtain ⟨k, rfl⟩ : ∃ k', k = k' + 1 := ⟨k - 1, by omega⟩
    rw [spec_MapOk.l0, if_neg (by omega)]; rfl
  | succ n ih =>
    intro i k hi hk
    obtain ⟨k, rfl⟩ : ∃ k', k = k' + 1 := ⟨k - 1, by omega⟩
    rw [spec_MapOk.l0, if_pos (by omega), if_pos (by omega), spec_ins, Option.bind_some, okF]
    cases c : insB (rd_T27 L (i : Int)).f0 (rd_T27 L (i : Int)).f1 with
    | false => rw [if_neg (by decide)]; rfl
    | true =>
      rw [if_pos rfl, if_pos (by omega), Int.toNat_natCast, find_ev _ _ _ (by simp; omega) k (by simp; omega), Option.bind_some]
      by_cases d : fnd (L.take i) (rd_T27 L (i : Int)).f0 (rd_T27 L (i : Int)).f1 0 ≥ 0
      · rw [if_pos d, decide_eq_false (by omega)]; rfl
      · rw [if_neg d, w_upM i (by omega), ih (i + 1) k (by omega) (by omega), decide_eq_true (by omega)]; rfl
theorem spec_ok_ev (L : List S27) (hL : L.length ≤ 4611686018427387904) (k : Nat) (hk : 2 * L.length + 2 ≤ k) : spec_MapOk.f k L = some (mapOkB L) := by
  unfold spec_MapOk.f mapOkB
  by_cases c : (L.length : Int) > 6
  · rw [if_pos c, decide_eq_false (by omega)]; rfl
  · rw [if_neg c, decide_eq_true (by omega)]
    exact spec_ok_l L hL L.length 0 k (Nat.zero_add _) (by omega)
theorem impl_ok_l (L : List S27) (hL : L.length ≤ 4611686018427387904) : ∀ (n i k : Nat), i + n = L.length → L.length + n + 2 ≤ k → impl_MapOk.l0 k L (L.length : Int) (i : Int) L = some (okF L n i && decide ((L.length : Int) ≤ 6)) := by
  intro n
  induction n with
  | zero =>
    intro i k hi hk
    obtain ⟨k, rfl⟩ : ∃ k', k = k' + 1 := ⟨k - 1, by omega⟩
    rw [impl_MapOk.l0, if_neg (by omega)]; rfl
  | succ n ih =>
    intro i k hi hk
    obtain ⟨k, rfl⟩ : ∃ k', k = k' + 1 := ⟨k - 1, by omega⟩
    rw [impl_MapOk.l0, if_pos (by omega), if_pos (by omega), if_pos (by omega), impl_ins, Option.bind_some, okF]
    cases c : insB (rd_T27 L (i : Int)).f0 (rd_T27 L (i : Int)).f1 with
    | false => rw [if_neg (by decide)]; rfl
    | true =>
      rw [if_pos rfl, if_pos (by omega), Int.toNat_natCast, con_ev _ _ _ (by simp; omega) k (by simp; omega), Option.bind_some]
      by_cases d : 0 ≤ fnd (L.take i) (rd_T27 L (i : Int)).f0 (rd_T27 L (i : Int)).f1 0
      · rw [decide_eq_true d, if_pos rfl, decide_eq_false (by omega)]; rfl
      · have hd : decide (fnd (L.take i) (rd_T27 L (i : Int)).f0 (rd_T27 L (i : Int)).f1 0 < 0) = true := decide_eq_true (by omega)
        rw [decide_eq_false d, if_neg (by decide), w_upM i (by omega), ih (i + 1) k (by omega) (by omega), hd]; rfl
theorem impl_ok_ev (L : List S27) (hL : L.length ≤ 4611686018427387904) (k : Nat) (hk : 2 * L.length + 2 ≤ k) : impl_MapOk.f k L = some (mapOkB L) := by
  unfold impl_MapOk.f mapOkB
  rw [Bool.and_comm]
  have := impl_ok_l L hL L.length 0 k (Nat.zero_add _) (by omega)
  rw [show ((0 : Nat) : Int) = 0 from rfl] at this
  rw [this]
  congr 2
  exact decide_eq_decide.2 (by omega)
def cvE (x : S37) : S27 := ⟨x.f0, x.f1⟩
theorem w_upV (n : Nat) (h : n ≤ 4611686018427387904) : wrap64 ((n : Int) + 1) = ((n + 1 : Nat) : Int) := by
  rw [Lib.wrap_id (by omega) (by omega)]; omega
theorem toends_l (L : List S37) (hL : L.length ≤ 4611686018427387904) : ∀ (n i k : Nat), i + n = L.length → n + 1 ≤ k →
    laws_toEndPointS.l0 k L ((L.map cvE).take i ++ List.replicate (L.length - i) z27) (i : Int) = some (L.map cvE) := by
  intro n
  induction n with
  | zero =>
    intro i k hi hk
    obtain ⟨k, rfl⟩ : ∃ k', k = k' + 1 := ⟨k - 1, by omega⟩
    rw [laws_toEndPointS.l0, if_neg (by omega), List.take_of_length_le (by simp; omega), show L.length - i = 0 by omega]; simp
  | succ n ih =>
    intro i k hi hk
    obtain ⟨k, rfl⟩ : ∃ k', k = k' + 1 := ⟨k - 1, by omega⟩
    have hlen : (L.map cvE).length = L.length := by simp
    have hst := Lib.copy_step (L.map cvE) z27 i (by omega)
    have hg : (L.map cvE).getD i z27 = ⟨(rd_T37 L (i : Int)).f0, (rd_T37 L (i : Int)).f1⟩ := by
      unfold rd_T37
      rw [Int.toNat_natCast, List.getD_eq_getElem?_getD, List.getD_eq_getElem?_getD, List.getElem?_map, List.getElem?_eq_getElem (by omega : i < L.length)]; rfl
    rw [hlen, hg] at hst
    rw [laws_toEndPointS.l0, if_pos (by omega), if_pos (by omega)]
    unfold laws_toEndPoint.f
    rw [Option.bind_some, if_pos (by simp; omega), Int.toNat_natCast, w_upV i (by omega)]
    dsimp only
    rw [hst]
    exact ih (i + 1) k (by omega) (by omega)
theorem totab_ev (L : List S37) (hL : L.length ≤ 1048576) (k : Nat) (hk : L.length + 1 ≤ k) : laws_toMapTab.f k L = some (L.map cvE) := by
  unfold laws_toMapTab.f laws_toEndPointS.f
  rw [if_pos (by omega), if_pos (by omega), Int.toNat_natCast]
  have := toends_l L (by omega) L.length 0 k (Nat.zero_add _) hk
  simp only [List.take_zero, List.nil_append, Nat.sub_zero] at this
  rw [show ((0 : Nat) : Int) = 0 from rfl] at this
  rw [this]; rfl
theorem sztab_ev (L : List S37) (hL : L.length ≤ 9223372036854775807) : ∃ r, laws_szMapTab.f L 1048576 = some r ∧ (¬ r < 0 → L.length ≤ 1048576) := by
  unfold laws_szMapTab.f laws_szEndPointS.f
  rw [Lib.wrap_id (x := 1048576 - (L.length : Int)) (by omega) (by omega)]
  by_cases c : 1048576 - (L.length : Int) < 0
  · rw [if_pos c]; exact ⟨-1, by rw [Option.bind_some]; rfl, fun h => absurd (by decide) h⟩
  · rw [if_neg c]; exact ⟨1048576 - (L.length : Int), by rw [Option.bind_some, if_neg c], fun h => by omega⟩
theorem w_upQ (n : Nat) (h : n ≤ 4611686018427387904) : wrap64 ((n : Int) + 1) = ((n + 1 : Nat) : Int) := by
  rw [Lib.wrap_id (by omega) (by omega)]; omega
theorem eqends_l (L : List S27) (hL : L.length ≤ 4611686018427387904) : ∀ (n i k : Nat), i + n = L.length → n + 1 ≤ k → laws_eqEndPointS.l0 k L L (i : Int) = some true := by
  intro n
  induction n with
  | zero =>
    intro i k hi hk
    obtain ⟨k, rfl⟩ : ∃ k', k = k' + 1 := ⟨k - 1, by omega⟩
    rw [laws_eqEndPointS.l0, if_neg (by omega)]
  | succ n ih =>
    intro i k hi hk
    obtain ⟨k, rfl⟩ : ∃ k', k = k' + 1 := ⟨k - 1, by omega⟩
    rw [laws_eqEndPointS.l0, if_pos (by omega), if_pos (by omega), if_pos (by omega)]
    unfold laws_eqEndPoint.f
    rw [if_pos rfl, if_pos rfl, Option.bind_some, if_pos rfl, w_upQ i (by omega)]
    exact ih (i + 1) k (by omega) (by omega)
theorem eqtab_ev (L : List S27) (hL : L.length ≤ 4611686018427387904) (k : Nat) (hk : L.length + 1 ≤ k) : laws_eqMapTab.f k L L = some true := by
  unfold laws_eqMapTab.f laws_eqEndPointS.f
  rw [if_pos rfl]
  have := eqends_l L hL L.length 0 k (Nat.zero_add _) hk
  rw [show ((0 : Nat) : Int) = 0 from rfl] at this
  rw [this]; rfl
end Go.Proofs.Ytlofgoahgnllkaa.QFnExactMapOk
