/- What the reference's draws and functions that this law reaches come to: plain lemmas on the printed functions. -/
import Derived.Test.YtlofgoahgnllkaaDoorQFnExactBakLinex10
import Derived.Test.YtlofgoahgnllkaaDoorEnds
import Derived.Test.YtlofgoahgnllkaaDoorLib
import Derived.Laws.BitsLemmas
set_option linter.unusedVariables false
set_option linter.unusedSimpArgs false
namespace Go.Proofs.YtlofgoahgnllkaaDoor.QFnExactBakLine
open Go.RowKit Go.Proofs.YtlofgoahgnllkaaDoorW.PrintWords Go.Proofs.YtlofgoahgnllkaaDoorW.PrintLast Go.Proofs.YtlofgoahgnllkaaDoorW.PrintMore
open Go.Proofs.YtlofgoahgnllkaaDoor
open Go.Proofs.YtlofgoahgnllkaaDoor.Ends
/-- Where an end stands, counted from i. -/
def fnd : List S43 → Int → Int → Int → Int
  | [], _, _, _ => -1
  | x :: L, a, p, i => if x.f0 = a ∧ x.f1 = p then i else fnd L a p (i + 1)
theorem fnd_ge : ∀ (L : List S43) (a p i : Int), 0 ≤ i → fnd L a p i = -1 ∨ i ≤ fnd L a p i ∧ fnd L a p i < i + L.length
  | [], _, _, _, _ => .inl rfl
  | x :: L, a, p, i, h => by
    rw [fnd]
    by_cases c : x.f0 = a ∧ x.f1 = p
    · rw [if_pos c]; exact .inr ⟨Int.le_refl _, by simp; omega⟩
    · rw [if_neg c]
      rcases fnd_ge L a p (i + 1) (by omega) with h1 | h1
      · exact .inl h1
      · exact .inr ⟨by omega, by simp; omega⟩
theorem drop_T (L : List S43) (i : Nat) (h : i < L.length) : L.drop i = rd_T43 L (i : Int) :: L.drop (i + 1) := by
  rw [List.drop_eq_getElem_cons h]
  congr 1
  unfold rd_T43
  rw [Int.toNat_natCast, List.getD_eq_getElem?_getD, List.getElem?_eq_getElem h]; rfl
theorem w_upM (n : Nat) (h : n ≤ 4611686018427387904) : wrap64 ((n : Int) + 1) = ((n + 1 : Nat) : Int) := by
  rw [Lib.wrap_id (by omega) (by omega)]; omega
theorem find_l (L : List S43) (a p : Int) (hL : L.length ≤ 4611686018427387904) : ∀ (n i k : Nat), i + n = L.length → n + 1 ≤ k → spec_l3Find.l0 k (i : Int) L a p = some (fnd (L.drop i) a p (i : Int)) := by
  intro n
  induction n with
  | zero =>
    intro i k hi hk
    obtain ⟨k, rfl⟩ : ∃ k', k = k' + 1 := ⟨k - 1, by omega⟩
    rw [spec_l3Find.l0, if_neg (by omega), List.drop_of_length_le (by omega)]; rfl
  | succ n ih =>
    intro i k hi hk
    obtain ⟨k, rfl⟩ : ∃ k', k = k' + 1 := ⟨k - 1, by omega⟩
    rw [spec_l3Find.l0, if_pos (by omega), if_pos (by omega), drop_T L i (by omega), fnd]
    by_cases c : (rd_T43 L (i : Int)).f0 = a ∧ (rd_T43 L (i : Int)).f1 = p
    · rw [if_pos c, if_pos (by simp [c])]
    · rw [if_neg c, if_neg (by simpa using c), w_upM i (by omega), ih (i + 1) k (by omega) (by omega)]; rfl
theorem find_ev (L : List S43) (a p : Int) (hL : L.length ≤ 4611686018427387904) (k : Nat) (hk : L.length + 1 ≤ k) : spec_l3Find.f k L a p = some (fnd L a p 0) := by
  unfold spec_l3Find.f
  have := find_l L a p hL L.length 0 k (Nat.zero_add _) hk
  simpa using this
theorem idx_l (L : List S43) (a p : Int) (hL : L.length ≤ 4611686018427387904) : ∀ (n i k : Nat), i + n = L.length → n + 1 ≤ k → impl_EndPoint_88.l0 k L (L.length : Int) (i : Int) a p = some (fnd (L.drop i) a p (i : Int)) := by
  intro n
  induction n with
  | zero =>
    intro i k hi hk
    obtain ⟨k, rfl⟩ : ∃ k', k = k' + 1 := ⟨k - 1, by omega⟩
    rw [impl_EndPoint_88.l0, if_neg (by omega), List.drop_of_length_le (by omega)]; rfl
  | succ n ih =>
    intro i k hi hk
    obtain ⟨k, rfl⟩ : ∃ k', k = k' + 1 := ⟨k - 1, by omega⟩
    rw [impl_EndPoint_88.l0, if_pos (by omega), if_pos (by omega), if_pos (by omega), drop_T L i (by omega), fnd]
    by_cases c : (rd_T43 L (i : Int)).f0 = a ∧ (rd_T43 L (i : Int)).f1 = p
    · rw [if_pos c, if_pos (by simp [c])]
    · rw [if_neg c, if_neg (by simpa using fun h1 h2 => c ⟨h1.symm, h2.symm⟩), w_upM i (by omega), ih (i + 1) k (by omega) (by omega)]; rfl
theorem con_ev (L : List S43) (a p : Int) (hL : L.length ≤ 4611686018427387904) (k : Nat) (hk : L.length + 1 ≤ k) : impl_EndPoint_76.f k L a p = some (decide (0 ≤ fnd L a p 0)) := by
  unfold impl_EndPoint_76.f impl_EndPoint_88.f
  have := idx_l L a p hL L.length 0 k (Nat.zero_add _) hk
  rw [List.drop_zero] at this
  rw [show ((0 : Nat) : Int) = 0 from rfl] at this
  rw [this]; rfl
theorem spec_ins (a p : Int) : spec_EndInside.f a p = some (insB a p) := by
  simp only [spec_EndInside.f, spec_l1In.f, insB]
  by_cases h1 : a ≥ 1 <;> by_cases h2 : a ≤ 9 <;> by_cases h3 : p ≥ 1 <;> by_cases h4 : p ≤ 999 <;> simp [h1, h2, h3, h4] <;> omega
theorem impl_ins (a p : Int) : impl_EndInside.f a p = some (insB a p) := by
  simp only [impl_EndInside.f, impl_inside.f, impl_portOk.f, impl_within.f, insB]
  by_cases h1 : a ≥ 1 <;> by_cases h2 : a ≤ 9 <;> by_cases h3 : p ≥ 1 <;> by_cases h4 : p ≤ 999 <;> simp [h1, h2, h3, h4] <;> omega
/-- From i on, n ends: each inside, and none that stands ahead of it. -/
def okF (L : List S43) : Nat → Nat → Bool
  | 0, _ => true
  | n + 1, i => insB (rd_T43 L (i : Int)).f0 (rd_T43 L (i : Int)).f1 && (decide (fnd (L.take i) (rd_T43 L (i : Int)).f0 (rd_T43 L (i : Int)).f1 0 < 0) && okF L n (i + 1))
def mapOkB (L : List S43) : Bool := decide (L.length ≤ 6) && okF L L.length 0
theorem spec_ok_l (L : List S43) (hL : L.length ≤ 4611686018427387904) : ∀ (n i k : Nat), i + n = L.length → L.length + n + 2 ≤ k → spec_MapOk.l0 k (i : Int) L = some (okF L n i) := by
  intro n
  induction n with
  | zero =>
    intro i k hi hk
    obtain ⟨k, rfl⟩ : ∃ k', k = k' + 1 := ⟨k - 1, by omega⟩
    rw [spec_MapOk.l0, if_neg (by omega)]; rfl
  | succ n ih =>
    intro i k hi hk
    obtain ⟨k, rfl⟩ : ∃ k', k = k' + 1 := ⟨k - 1, by omega⟩
    rw [spec_MapOk.l0, if_pos (by omega), if_pos (by omega), spec_ins, Option.bind_some, okF]
    cases c : insB (rd_T43 L (i : Int)).f0 (rd_T43 L (i : Int)).f1 with
    | false => rw [if_neg (by decide)]; rfl
    | true =>
      rw [if_pos rfl, if_pos (by omega), Int.toNat_natCast, find_ev _ _ _ (by simp; omega) k (by simp; omega), Option.bind_some]
      by_cases d : fnd (L.take i) (rd_T43 L (i : Int)).f0 (rd_T43 L (i : Int)).f1 0 ≥ 0
      · rw [if_pos d, decide_eq_false (by omega)]; rfl
      · rw [if_neg d, w_upM i (by omega), ih (i + 1) k (by omega) (by omega), decide_eq_true (by omega)]; rfl
theorem spec_ok_ev (L : List S43) (hL : L.length ≤ 4611686018427387904) (k : Nat) (hk : 2 * L.length + 2 ≤ k) : spec_MapOk.f k L = some (mapOkB L) := by
  unfold spec_MapOk.f mapOkB
  by_cases c : (L.length : Int) > 6
  · rw [if_pos c, decide_eq_false (by omega)]; rfl
  · rw [if_neg c, decide_eq_true (by omega)]
    exact spec_ok_l L hL L.length 0 k (Nat.zero_add _) (by omega)
theorem impl_ok_l (L : List S43) (hL : L.length ≤ 4611686018427387904) : ∀ (n i k : Nat), i + n = L.length → L.length + n + 2 ≤ k → impl_MapOk.l0 k L (L.length : Int) (i : Int) L = some (okF L n i && decide ((L.length : Int) ≤ 6)) := by
  intro n
  induction n with
  | zero =>
    intro i k hi hk
    obtain ⟨k, rfl⟩ : ∃ k', k = k' + 1 := ⟨k - 1, by omega⟩
    rw [impl_MapOk.l0, if_neg (by omega)]; rfl
  | succ n ih =>
    intro i k hi hk
    obtain ⟨k, rfl⟩ : ∃ k', k = k' + 1 := ⟨k - 1, by omega⟩
    rw [impl_MapOk.l0, if_pos (by omega), if_pos (by omega), if_pos (by omega), impl_ins, Option.bind_some, okF]
    cases c : insB (rd_T43 L (i : Int)).f0 (rd_T43 L (i : Int)).f1 with
    | false => rw [if_neg (by decide)]; rfl
    | true =>
      rw [if_pos rfl, if_pos (by omega), Int.toNat_natCast, con_ev _ _ _ (by simp; omega) k (by simp; omega), Option.bind_some]
      by_cases d : 0 ≤ fnd (L.take i) (rd_T43 L (i : Int)).f0 (rd_T43 L (i : Int)).f1 0
      · rw [decide_eq_true d, if_pos rfl, decide_eq_false (by omega)]; rfl
      · have hd : decide (fnd (L.take i) (rd_T43 L (i : Int)).f0 (rd_T43 L (i : Int)).f1 0 < 0) = true := decide_eq_true (by omega)
        rw [decide_eq_false d, if_neg (by decide), w_upM i (by omega), ih (i + 1) k (by omega) (by omega), hd]; rfl
theorem impl_ok_ev (L : List S43) (hL : L.length ≤ 4611686018427387904) (k : Nat) (hk : 2 * L.length + 2 ≤ k) : impl_MapOk.f k L = some (mapOkB L) := by
  unfold impl_MapOk.f mapOkB
  rw [Bool.and_comm]
  have := impl_ok_l L hL L.length 0 k (Nat.zero_add _) (by omega)
  rw [show ((0 : Nat) : Int) = 0 from rfl] at this
  rw [this]
  congr 2
  exact decide_eq_decide.2 (by omega)
def cvE (x : S48) : S43 := ⟨x.f0, x.f1⟩
theorem w_upV (n : Nat) (h : n ≤ 4611686018427387904) : wrap64 ((n : Int) + 1) = ((n + 1 : Nat) : Int) := by
  rw [Lib.wrap_id (by omega) (by omega)]; omega
theorem toends_l (L : List S48) (hL : L.length ≤ 4611686018427387904) : ∀ (n i k : Nat), i + n = L.length → n + 1 ≤ k →
    laws_toEndPointS.l0 k L ((L.map cvE).take i ++ List.replicate (L.length - i) z43) (i : Int) = some (L.map cvE) := by
  intro n
  induction n with
  | zero =>
    intro i k hi hk
    obtain ⟨k, rfl⟩ : ∃ k', k = k' + 1 := ⟨k - 1, by omega⟩
    rw [laws_toEndPointS.l0, if_neg (by omega), List.take_of_length_le (by simp; omega), show L.length - i = 0 by omega]; simp
  | succ n ih =>
    intro i k hi hk
    obtain ⟨k, rfl⟩ : ∃ k', k = k' + 1 := ⟨k - 1, by omega⟩
    have hlen : (L.map cvE).length = L.length := by simp
    have hst := Lib.copy_step (L.map cvE) z43 i (by omega)
    have hg : (L.map cvE).getD i z43 = ⟨(rd_T48 L (i : Int)).f0, (rd_T48 L (i : Int)).f1⟩ := by
      unfold rd_T48
      rw [Int.toNat_natCast, List.getD_eq_getElem?_getD, List.getD_eq_getElem?_getD, List.getElem?_map, List.getElem?_eq_getElem (by omega : i < L.length)]; rfl
    rw [hlen, hg] at hst
    rw [laws_toEndPointS.l0, if_pos (by omega), if_pos (by omega)]
    unfold laws_toEndPoint.f
    rw [Option.bind_some, if_pos (by simp; omega), Int.toNat_natCast, w_upV i (by omega)]
    dsimp only
    rw [hst]
    exact ih (i + 1) k (by omega) (by omega)
theorem totab_ev (L : List S48) (hL : L.length ≤ 1048576) (k : Nat) (hk : L.length + 1 ≤ k) : laws_toMapTab.f k L = some (L.map cvE) := by
  unfold laws_toMapTab.f laws_toEndPointS.f
  rw [if_pos (by omega), if_pos (by omega), Int.toNat_natCast]
  have := toends_l L (by omega) L.length 0 k (Nat.zero_add _) hk
  simp only [List.take_zero, List.nil_append, Nat.sub_zero] at this
  rw [show ((0 : Nat) : Int) = 0 from rfl] at this
  rw [this]; rfl
theorem sztab_ev (L : List S48) (hL : L.length ≤ 9223372036854775807) : ∃ r, laws_szMapTab.f L 1048576 = some r ∧ (¬ r < 0 → L.length ≤ 1048576) := by
  unfold laws_szMapTab.f laws_szEndPointS.f
  rw [Lib.wrap_id (x := 1048576 - (L.length : Int)) (by omega) (by omega)]
  by_cases c : 1048576 - (L.length : Int) < 0
  · rw [if_pos c]; exact ⟨-1, by rw [Option.bind_some]; rfl, fun h => absurd (by decide) h⟩
  · rw [if_neg c]; exact ⟨1048576 - (L.length : Int), by rw [Option.bind_some, if_neg c], fun h => by omega⟩
theorem w_upQ (n : Nat) (h : n ≤ 4611686018427387904) : wrap64 ((n : Int) + 1) = ((n + 1 : Nat) : Int) := by
  rw [Lib.wrap_id (by omega) (by omega)]; omega
theorem eqends_l (L : List S43) (hL : L.length ≤ 4611686018427387904) : ∀ (n i k : Nat), i + n = L.length → n + 1 ≤ k → laws_eqEndPointS.l0 k L L (i : Int) = some true := by
  intro n
  induction n with
  | zero =>
    intro i k hi hk
    obtain ⟨k, rfl⟩ : ∃ k', k = k' + 1 := ⟨k - 1, by omega⟩
    rw [laws_eqEndPointS.l0, if_neg (by omega)]
  | succ n ih =>
    intro i k hi hk
    obtain ⟨k, rfl⟩ : ∃ k', k = k' + 1 := ⟨k - 1, by omega⟩
    rw [laws_eqEndPointS.l0, if_pos (by omega), if_pos (by omega), if_pos (by omega)]
    unfold laws_eqEndPoint.f
    rw [if_pos rfl, if_pos rfl, Option.bind_some, if_pos rfl, w_upQ i (by omega)]
    exact ih (i + 1) k (by omega) (by omega)
theorem eqtab_ev (L : List S43) (hL : L.length ≤ 4611686018427387904) (k : Nat) (hk : L.length + 1 ≤ k) : laws_eqMapTab.f k L L = some true := by
  unfold laws_eqMapTab.f laws_eqEndPointS.f
  rw [if_pos rfl]
  have := eqends_l L hL L.length 0 k (Nat.zero_add _) hk
  rw [show ((0 : Nat) : Int) = 0 from rfl] at this
  rw [this]; rfl
def endV (L : List S43) (x : Int) : Int × Int × Bool := if 500 ≤ x ∧ x ≤ 500 + (L.length : Int) - 1 then ((rd_T43 L (x - 500)).f0, (rd_T43 L (x - 500)).f1, true) else (0, 0, false)
theorem spec_endv_ev (L : List S43) (x : Int) (hL : L.length ≤ 1000000) (h0 : -9223372036854775808 ≤ x) (h1 : x ≤ 9223372036854775807) : spec_MapEnd.f L x = some (endV L x) := by
  unfold spec_MapEnd.f spec_l1In.f endV
  have e1 : wrap64 (500 + (L.length : Int)) = 500 + (L.length : Int) := Lib.wrap_id (by omega) (by omega)
  have e2 : wrap64 (500 + (L.length : Int) - 1) = 500 + (L.length : Int) - 1 := Lib.wrap_id (by omega) (by omega)
  rw [e1, e2]
  by_cases c : x ≥ 500
  · have e3 : wrap64 (x - 500) = x - 500 := Lib.wrap_id (by omega) (by omega)
    rw [if_pos c, Option.bind_some]
    by_cases c2 : x ≤ 500 + (L.length : Int) - 1
    · rw [decide_eq_true c2, if_pos rfl, e3, if_pos (by omega), if_pos (by omega), if_pos ⟨c, c2⟩]
    · rw [decide_eq_false c2, if_neg (by decide), if_neg (fun h => c2 h.2)]
  · rw [if_neg c, Option.bind_some, if_neg (by decide), if_neg (fun h => c h.1)]
theorem impl_endv_ev (L : List S43) (x : Int) (hL : L.length ≤ 1000000) (h0 : -9223372036854775808 ≤ x) (h1 : x ≤ 9223372036854775807) : impl_MapEnd.f L x = some (endV L x) := by
  unfold impl_MapEnd.f
  rw [if_pos (by omega), if_pos (by omega), spec_endv_ev L x hL h0 h1]; rfl
/-! the reference's reading is total -/
theorem plain_tot : ∀ (k : Nat) (n : Int) (x : ByteArray), k ≤ 3 → 0 ≤ n → n ≤ (if k = 0 then 9 else if k = 1 then 99 else if k = 2 then 999 else 9999) → x.size + k ≤ 100 → ∃ t, spec_l1Plain.l0 (k + 1) n x = some t := by
  intro k
  induction k with
  | zero => intro n x _ h0 h1 hx; exact ⟨_, plain_last 0 n x h0 (by simpa using h1) (by omega)⟩
  | succ k ih =>
    intro n x hk h0 h1 hx
    by_cases c : 9 < n
    · have hn : n ≤ 9999 := by split at h1 <;> (try split at h1) <;> (try split at h1) <;> omega
      rw [plain_step (k + 1) n x c (by omega) (by omega)]
      refine ih (n / 10) _ (by omega) (by omega) ?_ (by rw [ByteArray.size_append]; show 1 + x.size + k ≤ 100; omega)
      match k, hk with
      | 0, _ => simp at h1 ⊢; omega
      | 1, _ => simp at h1 ⊢; omega
      | 2, _ => simp at h1 ⊢; omega
    · exact ⟨_, plain_last (k + 1) n x h0 (by omega) (by omega)⟩
theorem plain_all (n : Int) (h0 : 0 ≤ n) (h1 : n ≤ 9999) (k : Nat) (hk : 4 ≤ k) : ∃ t, spec_l1Plain.f k n = some t := by
  obtain ⟨t, ht⟩ := plain_tot 3 n ⟨#[]⟩ (by omega) h0 (by simpa using h1) (by show 0 + 3 ≤ 100; omega)
  exact ⟨t, at_rounds (g := fun k => spec_l1Plain.f k n) (spec_l1Plain.mono n) hk ht⟩
theorem num_tot (w : ByteArray) (hw : w.size ≤ 4) : ∀ (m i k : Nat) (n : Int), i + m = w.size → 0 ≤ n → n ≤ (if m = 0 then 9999 else if m = 1 then 999 else if m = 2 then 99 else if m = 3 then 9 else 0) → m + 5 ≤ k → ∃ v, spec_l1Num.l0 k w n (i : Int) = some v := by
  intro m
  induction m with
  | zero =>
    intro i k n hi h0 h1 hk
    obtain ⟨k, rfl⟩ : ∃ j, k = j + 1 := ⟨k - 1, by omega⟩
    rw [spec_l1Num.l0, if_neg (by omega)]
    obtain ⟨t, ht⟩ := plain_all n h0 (by simpa using h1) k (by omega)
    rw [ht, Option.bind_some]
    by_cases c : t.toList = w.toList
    · rw [if_pos c]; exact ⟨_, rfl⟩
    · rw [if_neg c]; exact ⟨_, rfl⟩
  | succ m ih =>
    intro i k n hi h0 h1 hk
    obtain ⟨k, rfl⟩ : ∃ j, k = j + 1 := ⟨k - 1, by omega⟩
    have hn : n ≤ 9999 := by split at h1 <;> (try split at h1) <;> (try split at h1) <;> (try split at h1) <;> omega
    by_cases c2 : bt w (i : Int) < 48
    · exact ⟨-1, by rw [spec_l1Num.l0, if_pos (by omega), if_pos (by omega), if_pos c2]⟩
    · by_cases c3 : bt w (i : Int) > 57
      · exact ⟨-1, by rw [spec_l1Num.l0, if_pos (by omega), if_pos (by omega), if_neg c2, if_pos c3]⟩
      · have hm : m ≤ 3 := by omega
        obtain ⟨d, hd⟩ : ∃ d, d = bt w (i : Int) - 48 := ⟨_, rfl⟩
        rw [num_step k w n i d (by omega) (by omega) (by omega) (by omega) (by omega) h0 (by omega)]
        refine ih (i + 1) k _ (by omega) (by omega) ?_ (by omega)
        match m, hm with
        | 0, _ => simp at h1 ⊢; omega
        | 1, _ => simp at h1 ⊢; omega
        | 2, _ => simp at h1 ⊢; omega
        | 3, _ => simp at h1 ⊢; omega
theorem num_all (w : ByteArray) (k : Nat) (hk : 12 ≤ k) : ∃ v, spec_l1Num.f k w = some v := by
  obtain ⟨k, rfl⟩ : ∃ j, k = j + 1 := ⟨k - 1, by omega⟩
  have h1 : spec_l1Num.j0 (k + 1) w true = some (-1) := by rw [spec_l1Num.j0, if_pos rfl]
  unfold spec_l1Num.f
  by_cases c : (w.size : Int) = 0
  · rw [if_pos c]; exact ⟨_, h1⟩
  · rw [if_neg c]
    by_cases c4 : (w.size : Int) > 4
    · rw [decide_eq_true c4]; exact ⟨_, h1⟩
    · rw [decide_eq_false c4, spec_l1Num.j0, if_neg (by decide)]
      refine num_tot w (by omega) w.size 0 k 0 (Nat.zero_add _) (by omega) ?_ (by omega)
      split <;> (try split) <;> (try split) <;> (try split) <;> omega
theorem read_all (s : ByteArray) (hs : s.size ≤ 1048576) (k : Nat) (hk : s.size + 20 ≤ k) : ∃ r, spec_EndRead.f k s = some r := by
  unfold spec_EndRead.f spec_l1Words.f
  have hw := words_all s hs s.size 0 k [] ⟨#[]⟩ (Nat.zero_add _) (Nat.zero_le _) (by show 0 ≤ 0; omega) (by omega)
  rw [show ((0 : Nat) : Int) = 0 from rfl] at hw
  rw [hw, Option.bind_some]
  by_cases c : (([] ++ wds s s.size ⟨#[]⟩ 0 : List ByteArray).length : Int) = 2
  · rw [if_pos c, if_pos (by omega)]
    obtain ⟨v1, e1⟩ := num_all (rdOf ByteArray.empty ([] ++ wds s s.size ⟨#[]⟩ 0) 0) k (by omega)
    obtain ⟨v2, e2⟩ := num_all (rdOf ByteArray.empty ([] ++ wds s s.size ⟨#[]⟩ 0) 1) k (by omega)
    rw [e1, Option.bind_some, if_pos (by omega), e2, Option.bind_some, spec_end, Option.bind_some]
    by_cases c2 : decide (endOkP v1 v2) = true
    · rw [if_pos c2]; exact ⟨_, rfl⟩
    · rw [if_neg c2]; exact ⟨_, rfl⟩
  · rw [if_neg c]; exact ⟨_, rfl⟩
/-- What the reference's EndRead of s is, from a number of rounds on. -/
theorem read_ev (s : ByteArray) (hs : s.size ≤ 1048576) : ∃ x y b, Ends.ED s x y b ∧ Ev (fun k => spec_EndRead.f k s) (x, y, b) := by
  obtain ⟨⟨x, y, b⟩, h⟩ := read_all s hs (s.size + 20) (Nat.le_refl _)
  exact ⟨x, y, b, read_part s (by omega) _ x y b h, Ev.of (k := s.size + 20) (spec_EndRead.mono s) h⟩
theorem box_all (s : ByteArray) (hs : s.size ≤ 1048576) : ∃ r, spec_LinBox.f (s.size + 21) s = some r := by
  have ht : ∃ r, spec_LinBox.j0 (s.size + 21) s true = some r := ⟨_, by rw [spec_LinBox.j0, if_pos rfl]⟩
  unfold spec_LinBox.f
  by_cases c : (s.size : Int) < 5
  · rw [if_pos c]; exact ht
  · rw [if_neg c, if_pos (by omega), if_pos (by omega)]
    cases hp : ((s.extract 0 5).toList != ([112, 111, 114, 116, 32] : List UInt8)) with
    | true => exact ht
    | false =>
      rw [spec_LinBox.j0, if_neg (by decide), if_pos (by omega)]
      have hz := ext5 s _ (Nat.le_refl _)
      obtain ⟨⟨u, v, b⟩, e⟩ := read_all (s.extract 5 s.size) (by omega) (s.size + 20) (by omega)
      rw [e, Option.bind_some]
      by_cases c2 : b = true
      · rw [if_pos c2]
        by_cases c3 : u = 50
        · rw [if_pos c3]; exact ⟨_, rfl⟩
        · rw [if_neg c3]; exact ⟨_, rfl⟩
      · rw [if_neg c2]; exact ⟨_, rfl⟩
theorem box_ev (s : ByteArray) (hs : s.size ≤ 1048576) : ∃ x b, Ends.LB s x b ∧ Ev (fun k => spec_LinBox.f k s) (x, b) := by
  obtain ⟨⟨x, b⟩, h⟩ := box_all s hs
  exact ⟨x, b, box_part s (by omega) _ x b h, Ev.of (k := s.size + 21) (spec_LinBox.mono s) h⟩
theorem text_ev (a p : Int) : Ev (fun k => spec_EndText.f k a p) (textV a p) := by
  unfold textV
  by_cases c : endOkP a p
  · rw [if_pos c]; exact endtext_ev a p c
  · rw [if_neg c]; exact ⟨0, fun k _ => endtext_no a p c k⟩
theorem textV_size2 (a p : Int) : (textV a p).size ≤ 7 := by
  unfold textV
  split
  · exact (endT_size a p).2
  · show 0 ≤ 7; omega
theorem port_ev (a p : Int) : Ev (fun k => spec_LinPort.f k a p) (Ends.portV a p) := by
  unfold Ends.portV
  by_cases c : endOkP a p
  · rw [if_pos c]; exact linport_ev a p c
  · rw [if_neg c]; exact ⟨0, fun k _ => linport_no a p c k⟩
theorem portV_size2 (a p : Int) : (Ends.portV a p).size ≤ 12 := by
  unfold Ends.portV
  split
  · exact (portT_size a p).2
  · show 0 ≤ 12; omega
theorem portI (a p : Int) (k : Nat) : impl_LinPort.f k a p = spec_LinPort.f k a p := by
  unfold impl_LinPort.f
  rw [if_pos (by omega)]
  cases spec_LinPort.f k a p <;> rfl
theorem boxI (s : ByteArray) (hs : s.size ≤ 1048576) (k : Nat) : impl_LinBox.f k s = spec_LinBox.f k s := by
  unfold impl_LinBox.f
  rw [if_pos (by omega), if_pos (by omega)]
  cases spec_LinBox.f k s <;> rfl
theorem dec3_line (a : Int) (h0 : 0 ≤ a) (h1 : a ≤ 999) (i : Nat) (h : i < (dec3 a).size) : lineB (bt (dec3 a) (i : Int)) = true := by
  have hd : ∀ d : Int, 0 ≤ d → d ≤ 9 → lineB (((dig d).toNat : Nat) : Int) = true := fun d d0 d1 => by
    rcases (by omega : d = 0 ∨ d = 1 ∨ d = 2 ∨ d = 3 ∨ d = 4 ∨ d = 5 ∨ d = 6 ∨ d = 7 ∨ d = 8 ∨ d = 9) with rfl | rfl | rfl | rfl | rfl | rfl | rfl | rfl | rfl | rfl <;> decide
  have hb : ∀ (l : List UInt8) (i : Nat) (hi : i < l.length), bt (⟨l.toArray⟩ : ByteArray) (i : Int) = (l[i].toNat : Int) := fun l i hi => by
    rw [Lib.bt_eq _ _ (by simpa [ByteArray.size] using hi)]; rfl
  unfold dec3 at h ⊢
  by_cases c : a > 99
  · rw [if_pos c] at h ⊢
    have h : i < 3 := h
    rw [hb [dig (a / 100), dig (a / 10 % 10), dig (a % 10)] i h]
    match i, h with
    | 0, _ => exact hd _ (by omega) (by omega)
    | 1, _ => exact hd _ (by omega) (by omega)
    | 2, _ => exact hd _ (by omega) (by omega)
  · rw [if_neg c] at h ⊢
    by_cases c2 : a > 9
    · rw [if_pos c2] at h ⊢
      have h : i < 2 := h
      rw [hb [dig (a / 10), dig (a % 10)] i h]
      match i, h with
      | 0, _ => exact hd _ (by omega) (by omega)
      | 1, _ => exact hd _ (by omega) (by omega)
    · rw [if_neg c2] at h ⊢
      have h : i < 1 := h
      rw [hb [dig a] i h]
      match i, h with
      | 0, _ => exact hd _ (by omega) (by omega)
def lineA (s : ByteArray) : Prop := ∀ j, j < s.size → lineB (bt s (j : Int)) = true
theorem lineA_app {s t : ByteArray} (h1 : lineA s) (h2 : lineA t) : lineA (s ++ t) := fun j hj => by
  rw [ByteArray.size_append] at hj
  by_cases c : j < s.size
  · rw [Lib.bt_left _ _ _ c]; exact h1 j c
  · have := Lib.bt_right s t (j - s.size) (by omega)
    rw [show s.size + (j - s.size) = j by omega] at this
    rw [this]; exact h2 _ (by omega)
theorem lin_port (a p : Int) (h : endOkP a p) : linOkB (portT a p) = true := by
  have hr : 0 ≤ a ∧ a ≤ 999 ∧ 0 ≤ p ∧ p ≤ 999 := by unfold endOkP at h; omega
  unfold linOkB
  refine decide_eq_true ⟨by have := (portT_size a p).2; omega, ?_⟩
  show lineA (portT a p)
  unfold portT endT
  refine lineA_app (fun j hj => ?_) (lineA_app (lineA_app (fun j hj => dec3_line a hr.1 hr.2.1 j hj) (fun j hj => ?_)) (fun j hj => dec3_line p hr.2.2.1 hr.2.2.2 j hj))
  · have h : j < 5 := hj
    match j, h with
    | 0, _ => decide
    | 1, _ => decide
    | 2, _ => decide
    | 3, _ => decide
    | 4, _ => decide
  · have h : j < 1 := hj
    match j, h with
    | 0, _ => decide
/-- What goes in: nothing, unless the table and the line are ok; the line of the box's end; else the line itself. -/
def Bk (U : List S43) (s t : ByteArray) : Prop :=
  (¬ (mapOkB U = true ∧ linOkB s = true) ∧ t = ⟨#[]⟩) ∨ (mapOkB U = true ∧ linOkB s = true ∧
    ((∃ x, Ends.LB s x true ∧ (endV U x).2.2 = true ∧ t = Ends.portV (endV U x).1 (endV U x).2.1) ∨ ((∀ x, Ends.LB s x true → (endV U x).2.2 = false) ∧ t = s)))
theorem ok_six (U : List S43) (h : mapOkB U = true) : U.length ≤ 6 := by
  unfold mapOkB at h
  rw [Bool.and_eq_true] at h
  exact of_decide_eq_true h.1
theorem box_range {s : ByteArray} {x : Int} (h : Ends.LB s x true) : 1 ≤ x ∧ x ≤ 999 := by
  rcases h with ⟨h, _⟩ | ⟨_, _, h⟩
  · have := h.1; unfold endOkP at this; omega
  · cases h
theorem bak_ev (U : List S43) (s : ByteArray) (hU : U.length ≤ 1048576) (hs : s.size ≤ 1048576) :
    ∃ t, Bk U s t ∧ Ev (fun k => spec_BakLine.f k U s) t ∧ Ev (fun k => impl_BakLine.f k U s) t := by
  obtain ⟨x, b, hB, K1, e1⟩ := box_ev s hs
  obtain ⟨K2, e2⟩ := spec_lin_ev s
  obtain ⟨K3, e3⟩ := impl_lin_ev s (by omega)
  obtain ⟨K4, e4⟩ := port_ev (endV U x).1 (endV U x).2.1
  dsimp only at e1 e2 e3 e4
  obtain ⟨K, hK⟩ : ∃ K, K = K1 + K2 + K3 + K4 + 2 * U.length + 10 := ⟨_, rfl⟩
  cases hm : mapOkB U with
  | false =>
    refine ⟨⟨#[]⟩, .inl ⟨fun h => (by rw [hm] at h; cases h.1), rfl⟩, ⟨K, fun k hk => ?_⟩, ⟨K, fun k hk => ?_⟩⟩
    · dsimp only; unfold spec_BakLine.f
      rw [spec_ok_ev U (by omega) k (by omega), Option.bind_some, hm, if_neg (by decide)]
    · dsimp only; unfold impl_BakLine.f
      rw [impl_ok_ev U (by omega) k (by omega), Option.bind_some, hm, if_neg (by decide)]
  | true =>
    have h6 := ok_six U hm
    cases hl : linOkB s with
    | false =>
      refine ⟨⟨#[]⟩, .inl ⟨fun h => (by rw [hl] at h; cases h.2), rfl⟩, ⟨K, fun k hk => ?_⟩, ⟨K, fun k hk => ?_⟩⟩
      · dsimp only; unfold spec_BakLine.f
        rw [spec_ok_ev U (by omega) k (by omega), Option.bind_some, hm, if_pos rfl, e2 k (by omega), Option.bind_some, hl, if_neg (by decide)]
      · dsimp only; unfold impl_BakLine.f
        rw [impl_ok_ev U (by omega) k (by omega), Option.bind_some, hm, if_pos rfl, e3 k (by omega), Option.bind_some, hl, if_neg (by decide)]
    | true =>
      have fin : ∀ t, ((∃ x, Ends.LB s x true ∧ (endV U x).2.2 = true ∧ t = Ends.portV (endV U x).1 (endV U x).2.1) ∨ ((∀ x, Ends.LB s x true → (endV U x).2.2 = false) ∧ t = s)) → (∀ k, K ≤ k → spec_l3Back.f k U s = some t ∧ impl_MapTab_goesIn.f k U s = some t) → ∃ t, Bk U s t ∧ Ev (fun k => spec_BakLine.f k U s) t ∧ Ev (fun k => impl_BakLine.f k U s) t := fun t h1 h2 => by
        refine ⟨t, .inr ⟨hm, hl, h1⟩, ⟨K, fun k hk => ?_⟩, ⟨K, fun k hk => ?_⟩⟩
        · dsimp only; unfold spec_BakLine.f
          rw [spec_ok_ev U (by omega) k (by omega), Option.bind_some, hm, if_pos rfl, e2 k (by omega), Option.bind_some, hl, if_pos rfl, (h2 k hk).1]; rfl
        · dsimp only; unfold impl_BakLine.f
          rw [impl_ok_ev U (by omega) k (by omega), Option.bind_some, hm, if_pos rfl, e3 k (by omega), Option.bind_some, hl, if_pos rfl, (h2 k hk).2]; rfl
      cases b with
      | false =>
        refine fin s (.inr ⟨fun x' h => ?_, rfl⟩) (fun k hk => ⟨?_, ?_⟩)
        · have := (lb_one hB h).2; cases this
        · unfold spec_l3Back.f
          rw [e1 k (by omega), Option.bind_some, if_neg (by simp)]
        · unfold impl_MapTab_goesIn.f
          rw [boxI s hs, e1 k (by omega), Option.bind_some, if_neg (by simp)]
      | true =>
        have hx := box_range hB
        have m1 := spec_endv_ev U x (by omega) (by omega) (by omega)
        have m2 := impl_endv_ev U x (by omega) (by omega) (by omega)
        cases hc : (endV U x).2.2 with
        | true =>
          refine fin _ (.inl ⟨x, hB, hc, rfl⟩) (fun k hk => ⟨?_, ?_⟩)
          · unfold spec_l3Back.f
            rw [e1 k (by omega), Option.bind_some, if_pos rfl, m1, Option.bind_some, hc, if_pos rfl, e4 k (by omega)]; rfl
          · unfold impl_MapTab_goesIn.f
            rw [boxI s hs, e1 k (by omega), Option.bind_some, if_pos rfl, m2, Option.bind_some, hc, if_pos rfl, portI, e4 k (by omega)]; rfl
        | false =>
          refine fin s (.inr ⟨fun x' h => ?_, rfl⟩) (fun k hk => ⟨?_, ?_⟩)
          · rw [(lb_one hB h).1]; exact hc
          · unfold spec_l3Back.f
            rw [e1 k (by omega), Option.bind_some, if_pos rfl, m1, Option.bind_some, hc, if_neg (by decide)]
          · unfold impl_MapTab_goesIn.f
            rw [boxI s hs, e1 k (by omega), Option.bind_some, if_pos rfl, m2, Option.bind_some, hc, if_neg (by decide)]
theorem okF_at (L : List S43) : ∀ (n i j : Nat), okF L n i = true → i ≤ j → j < i + n → insB (rd_T43 L (j : Int)).f0 (rd_T43 L (j : Int)).f1 = true ∧ fnd (L.take j) (rd_T43 L (j : Int)).f0 (rd_T43 L (j : Int)).f1 0 < 0 := by
  intro n
  induction n with
  | zero => intro i j _ h1 h2; omega
  | succ n ih =>
    intro i j h h1 h2
    rw [okF, Bool.and_eq_true, Bool.and_eq_true] at h
    by_cases e : j = i
    · subst e; exact ⟨h.1, of_decide_eq_true h.2.1⟩
    · exact ih (i + 1) j h.2.2 (by omega) (by omega)
end Go.Proofs.YtlofgoahgnllkaaDoor.QFnExactBakLine
