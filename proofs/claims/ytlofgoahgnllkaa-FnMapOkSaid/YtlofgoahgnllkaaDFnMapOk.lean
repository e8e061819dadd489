/- What the reference's draws and functions that this law reaches come to: plain lemmas on the printed functions. -/
import Derived.Test.YtlofgoahgnllkaaQFnMapOkx10
import Derived.Test.YtlofgoahgnllkaaLib
import Derived.Laws.BitsLemmas
set_option linter.unusedVariables false
set_option linter.unusedSimpArgs false
namespace Go.Proofs.Ytlofgoahgnllkaa.QFnMapOk
open Go.RowKit Go.Proofs.YtlofgoahgnllkaaW.PrintWords Go.Proofs.YtlofgoahgnllkaaW.PrintLast Go.Proofs.YtlofgoahgnllkaaW.PrintMore
open Go.Proofs.Ytlofgoahgnllkaa
theorem xor_nonneg (a b : Int) (h0 : 0 ≤ a) (h1 : a < 4611686018427387904) (h2 : 0 ≤ b) (h3 : b < 4611686018427387904) : 0 ≤ Go.bits .xor .i64 a b := by
  obtain ⟨m, rfl⟩ := Int.eq_ofNat_of_zero_le h0
  obtain ⟨n, rfl⟩ := Int.eq_ofNat_of_zero_le h2
  have hm : m % 2 ^ 64 = m := Nat.mod_eq_of_lt (by omega)
  have hn : n % 2 ^ 64 = n := Nat.mod_eq_of_lt (by omega)
  have hx : m ^^^ n < 2 ^ 62 := Nat.xor_lt_two_pow (by omega) (by omega)
  have e : Go.bits .xor .i64 (m : Int) (n : Int) = IntKind.i64.wrap ((m ^^^ n : Nat) : Int) := by
    have hb : (BitVec.ofNat 64 m ^^^ BitVec.ofNat 64 n).toNat = m ^^^ n := by rw [BitVec.toNat_xor, BitVec.toNat_ofNat, BitVec.toNat_ofNat, hm, hn]
    simp only [bits, IntKind.bits, BitVec.ofInt_natCast]
    exact congrArg (fun z : Nat => IntKind.i64.wrap (z : Int)) hb
  rw [e, IntKind.wrap_i64]
  omega
theorem pick_ev (b : List Int) (hb : Lib.Bytes b) (hl : b.length ≤ 2000) (p n : Int) (h0 : 0 ≤ p) (h1 : p ≤ 1000000) (hn : 1 ≤ n) :
    ∃ v, Ev (fun k => spec_l20Rd_pick.f k b p n) (v, p + 1) ∧ 0 ≤ v ∧ v < n := by
  have go : ∀ v, spec_l20Rd_pick.f 1 b p n = some (v, p + 1) → 0 ≤ v → v < n → ∃ v, Ev (fun k => spec_l20Rd_pick.f k b p n) (v, p + 1) ∧ 0 ≤ v ∧ v < n :=
    fun v h a c => ⟨v, Ev.of (spec_l20Rd_pick.mono b p n) h, a, c⟩
  have e1 : wrap64 (p + 1) = p + 1 := Lib.wrap_id (by omega) (by omega)
  have e2 : wrap64 (p + 1 - 1) = p := by rw [Lib.wrap_id (by omega) (by omega)]; omega
  by_cases hz : b.length = 0
  · refine go 0 ?_ (by omega) (by omega)
    unfold spec_l20Rd_pick.f
    rw [if_neg (by omega), spec_l20Rd_pick.j0, if_pos (by simp [hz]), e1]
  · have e3 : ((b.length : Int) == 0) = false := by rw [beq_eq_false_iff_ne]; omega
    by_cases hp : p < (b.length : Int)
    · obtain ⟨i, rfl⟩ := Int.eq_ofNat_of_zero_le h0
      have hr := Lib.bytes_rd hb i
      refine go (rd b (i : Int) % n) ?_ (Int.emod_nonneg _ (by omega)) (Int.emod_lt_of_pos _ (by omega))
      unfold spec_l20Rd_pick.f
      rw [if_neg (by omega), spec_l20Rd_pick.j0, if_neg (by rw [e3]; decide), e1, e2, if_pos hp, if_pos (by omega), if_neg (by omega), Lib.wrap_id (x := rd b (i : Int)) (by omega) (by omega), Int.tmod_eq_emod_of_nonneg (by omega)]
    · have hL : (0 : Int) < (b.length : Int) := by omega
      have q1 : Int.tmod p (b.length : Int) = p % (b.length : Int) := Int.tmod_eq_emod_of_nonneg (by omega)
      have w1 : wrap64 (p * 7) = p * 7 := Lib.wrap_id (by omega) (by omega)
      have w2 : wrap64 (p * 7 + 3) = p * 7 + 3 := Lib.wrap_id (by omega) (by omega)
      have q2 : Int.tmod (p * 7 + 3) (b.length : Int) = (p * 7 + 3) % (b.length : Int) := Int.tmod_eq_emod_of_nonneg (by omega)
      have m1 := Int.emod_nonneg p (show (b.length : Int) ≠ 0 by omega)
      have m2 := Int.emod_lt_of_pos p hL
      have m3 := Int.emod_nonneg (p * 7 + 3) (show (b.length : Int) ≠ 0 by omega)
      have m4 := Int.emod_lt_of_pos (p * 7 + 3) hL
      obtain ⟨i, hi⟩ := Int.eq_ofNat_of_zero_le m1
      obtain ⟨j, hj⟩ := Int.eq_ofNat_of_zero_le m3
      have r1 := Lib.bytes_rd hb i
      have r2 := Lib.bytes_rd hb j
      rw [← hi] at r1
      rw [← hj] at r2
      have d1 : Int.tdiv p (b.length : Int) = p / (b.length : Int) := Int.tdiv_eq_ediv_of_nonneg h0
      have d2 : 0 ≤ p / (b.length : Int) := Int.ediv_nonneg h0 (by omega)
      have d3 : p / (b.length : Int) ≤ p := Int.ediv_le_self _ h0
      obtain ⟨u, hu⟩ : ∃ u, u = rd b (p % (b.length : Int)) := ⟨_, rfl⟩
      obtain ⟨v, hv⟩ : ∃ v, v = rd b ((p * 7 + 3) % (b.length : Int)) := ⟨_, rfl⟩
      obtain ⟨q, hq⟩ : ∃ q, q = p / (b.length : Int) := ⟨_, rfl⟩
      rw [← hu] at r1
      rw [← hv] at r2
      rw [← hq] at d2 d3
      have x0 : wrap64 (wrap64 (wrap64 (wrap64 (wrap64 u * 131) + wrap64 (wrap64 v * 1117)) + wrap64 (p * 29)) + wrap64 (wrap64 q * 53)) = u * 131 + v * 1117 + p * 29 + q * 53 := by
        rw [Lib.wrap_id (x := u) (by omega) (by omega), Lib.wrap_id (x := v) (by omega) (by omega), Lib.wrap_id (x := q) (by omega) (by omega), Lib.wrap_id (x := u * 131) (by omega) (by omega), Lib.wrap_id (x := v * 1117) (by omega) (by omega),
          Lib.wrap_id (x := p * 29) (by omega) (by omega), Lib.wrap_id (x := q * 53) (by omega) (by omega), Lib.wrap_id (x := u * 131 + v * 1117) (by omega) (by omega), Lib.wrap_id (x := u * 131 + v * 1117 + p * 29) (by omega) (by omega), Lib.wrap_id (by omega) (by omega)]
      obtain ⟨X, hX⟩ : ∃ X, X = u * 131 + v * 1117 + p * 29 + q * 53 := ⟨_, rfl⟩
      have X0 : 0 ≤ X := by omega
      have X1 : X < 4611686018427387904 := by omega
      have x1 : wrap64 (Int.tdiv X 64) = X / 64 := by rw [Int.tdiv_eq_ediv_of_nonneg X0, Lib.wrap_id (by omega) (by omega)]
      have hx := xor_nonneg X (X / 64) X0 X1 (by omega) (by omega)
      refine go (Go.bits .xor .i64 X (X / 64) % n) ?_ (Int.emod_nonneg _ (by omega)) (Int.emod_lt_of_pos _ (by omega))
      unfold spec_l20Rd_pick.f
      rw [if_neg (by omega), spec_l20Rd_pick.j0, if_neg (by rw [e3]; decide), e1, e2, if_neg hp, if_neg (by omega), w1, w2, q1, q2, if_pos m1, if_pos m2, if_pos m3, if_pos m4, if_neg (by omega), d1, ← hu, ← hv, ← hq, x0, ← hX, x1, Int.tmod_eq_emod_of_nonneg hx]
theorem open_eq (l : List Int) (hb : Lib.Bytes l) (hl : l.length ≤ 9223372036854775807) : ∃ b, spec_l20Open.f l = some (b, 0) ∧ Lib.Bytes b ∧ b.length ≤ 2000 := by
  unfold spec_l20Open.f
  by_cases c : (l.length : Int) > 2000
  · exact ⟨l.take 2000, by rw [if_pos c, if_pos (by omega)], fun x hx => hb x (List.mem_of_mem_take hx), by simp; omega⟩
  · exact ⟨l, by rw [if_neg c], hb, by omega⟩
theorem in_ev (b : List Int) (hb : Lib.Bytes b) (hl : b.length ≤ 2000) (p : Int) (h0 : 0 ≤ p) (h1 : p ≤ 999000) :
    ∃ a q, Ev (fun k => spec_l20In.f k b p) (a, q, p + 3) ∧ 1 ≤ a ∧ a ≤ 4 ∧ 1 ≤ q ∧ q ≤ 999 := by
  obtain ⟨v1, ⟨K1, e1⟩, a1, b1⟩ := pick_ev b hb hl p 4 h0 (by omega) (by omega)
  obtain ⟨v2, ⟨K2, e2⟩, a2, b2⟩ := pick_ev b hb hl (p + 1) 40 (by omega) (by omega) (by omega)
  obtain ⟨v3, ⟨K3, e3⟩, a3, b3⟩ := pick_ev b hb hl (p + 1 + 1) 5 (by omega) (by omega) (by omega)
  have hr : 1 ≤ rd [7, 20, 300, 999, wrap64 (1 + v2)] v3 ∧ rd [7, 20, 300, 999, wrap64 (1 + v2)] v3 ≤ 999 := by
    rw [Lib.wrap_id (x := 1 + v2) (by omega) (by omega)]
    rcases (by omega : v3 = 0 ∨ v3 = 1 ∨ v3 = 2 ∨ v3 = 3 ∨ v3 = 4) with rfl | rfl | rfl | rfl | rfl <;> simp [rd] <;> omega
  refine ⟨1 + v1, rd [7, 20, 300, 999, wrap64 (1 + v2)] v3, ⟨K1 + K2 + K3, fun k hk => ?_⟩, by omega, by omega, hr.1, hr.2⟩
  dsimp only at e1 e2 e3 ⊢
  unfold spec_l20In.f
  rw [e1 k (by omega)]; simp only [Option.bind_some]
  rw [e2 k (by omega)]; simp only [Option.bind_some]
  rw [e3 k (by omega)]; simp only [Option.bind_some]
  rw [if_pos a3, if_pos (by simpa using b3), Lib.wrap_id (x := 1 + v1) (by omega) (by omega), show p + 1 + 1 + 1 = p + 3 by omega]
theorem out_ev (b : List Int) (hb : Lib.Bytes b) (hl : b.length ≤ 2000) (p : Int) (h0 : 0 ≤ p) (h1 : p ≤ 999000) :
    ∃ a q, Ev (fun k => spec_l20Out.f k b p) (a, q, p + 2) ∧ 100 ≤ a ∧ a ≤ 102 ∧ 1 ≤ q ∧ q ≤ 80 := by
  obtain ⟨v1, ⟨K1, e1⟩, a1, b1⟩ := pick_ev b hb hl p 3 h0 (by omega) (by omega)
  obtain ⟨v2, ⟨K2, e2⟩, a2, b2⟩ := pick_ev b hb hl (p + 1) 4 (by omega) (by omega) (by omega)
  have hr : 1 ≤ rd [21, 21, 80, 7] v2 ∧ rd [21, 21, 80, 7] v2 ≤ 80 := by
    rcases (by omega : v2 = 0 ∨ v2 = 1 ∨ v2 = 2 ∨ v2 = 3) with rfl | rfl | rfl | rfl <;> simp [rd]
  refine ⟨100 + v1, rd [21, 21, 80, 7] v2, ⟨K1 + K2, fun k hk => ?_⟩, by omega, by omega, hr.1, hr.2⟩
  dsimp only at e1 e2 ⊢
  unfold spec_l20Out.f
  rw [e1 k (by omega)]; simp only [Option.bind_some]
  rw [e2 k (by omega)]; simp only [Option.bind_some]
  rw [if_pos a2, if_pos (by simpa using b2), Lib.wrap_id (x := 100 + v1) (by omega) (by omega), show p + 1 + 1 = p + 2 by omega]
def endOkP (a p : Int) : Prop := ((1 ≤ a ∧ a ≤ 9) ∨ (100 ≤ a ∧ a ≤ 109) ∨ a = 50) ∧ 1 ≤ p ∧ p ≤ 999
instance (a p : Int) : Decidable (endOkP a p) := by unfold endOkP; infer_instance
theorem odd_ev (b : List Int) (hb : Lib.Bytes b) (hl : b.length ≤ 2000) (p n : Int) (h0 : 0 ≤ p) (h1 : p ≤ 1000000) (hn : 1 ≤ n) (hn2 : n ≤ 1000000) :
    ∃ v p', Ev (fun k => spec_l20Rd_odd.f k b p n) (v, p') ∧ p ≤ p' ∧ p' ≤ p + 1 ∧ (9000 ≤ n → v = false ∧ p' = p) := by
  by_cases c : n < 9000
  · obtain ⟨v, ⟨K, e⟩, _, _⟩ := pick_ev b hb hl p n h0 h1 hn
    dsimp only at e
    refine ⟨v == wrap64 (n - 1), p + 1, ⟨K, fun k hk => ?_⟩, by omega, by omega, fun h => by omega⟩
    dsimp only
    unfold spec_l20Rd_odd.f
    rw [if_pos c, e k hk]; rfl
  · refine ⟨false, p, ⟨0, fun k hk => ?_⟩, by omega, by omega, fun _ => ⟨rfl, rfl⟩⟩
    dsimp only
    unfold spec_l20Rd_odd.f
    rw [if_neg c]
def twoL (n : Int) : List Int := [n / 256, n % 256]
theorem two_bytes (n : Int) (h0 : 0 ≤ n) (h1 : n ≤ 65535) : Lib.Bytes (twoL n) := by
  intro x hx
  simp [twoL] at hx
  omega
theorem idx_l (L : List S27) (a p : Int) (hL : L.length ≤ 4611686018427387904) : ∀ (n i k : Nat), i + n = L.length → n + 1 ≤ k → impl_EndPoint_40.l0 k L (L.length : Int) (i : Int) a p = some (fnd (L.drop i) a p (i : Int)) := by
  intro n
  induction n with
  | zero =>
    intro i k hi hk
    obtain ⟨k, rfl⟩ : ∃ k', k = k' + 1 := ⟨k - 1, by omega⟩
    rw [impl_EndPoint_40.l0, if_neg (by omega), List.drop_of_length_le (by omega)]; rfl
  | succ n ih =>
    intro i k hi hk
    obtain ⟨k, rfl⟩ : ∃ k', k = k' + 1 := ⟨k - 1, by omega⟩
    rw [impl_EndPoint_40.l0, if_pos (by omega), if_pos (by omega), if_pos (by omega), drop_T L i (by omega), fnd]
    by_cases c : (rd_T27 L (i : Int)).f0 = a ∧ (rd_T27 L (i : Int)).f1 = p
    · rw [if_pos c, if_pos (by simp [c])]
    · rw [if_neg c, if_neg (by simpa using fun h1 h2 => c ⟨h1.symm, h2.symm⟩), w_upM i (by omega), ih (i + 1) k (by omega) (by omega)]; rfl
theorem con_ev (L : List S27) (a p : Int) (hL : L.length ≤ 4611686018427387904) (k : Nat) (hk : L.length + 1 ≤ k) : impl_EndPoint_31.f k L a p = some (decide (0 ≤ fnd L a p 0)) := by
  unfold impl_EndPoint_31.f impl_EndPoint_40.f
  have := idx_l L a p hL L.length 0 k (Nat.zero_add _) hk
  rw [List.drop_zero] at this
  rw [show ((0 : Nat) : Int) = 0 from rfl] at this
  rw [this]; rfl
def insB (a p : Int) : Bool := decide ((1 ≤ a ∧ a ≤ 9) ∧ 1 ≤ p ∧ p ≤ 999)
theorem spec_ins (a p : Int) : spec_EndInside.f a p = some (insB a p) := by
  simp only [spec_EndInside.f, spec_l1In.f, insB]
  by_cases h1 : a ≥ 1 <;> by_cases h2 : a ≤ 9 <;> by_cases h3 : p ≥ 1 <;> by_cases h4 : p ≤ 999 <;> simp [h1, h2, h3, h4] <;> omega
theorem impl_ins (a p : Int) : impl_EndInside.f a p = some (insB a p) := by
  simp only [impl_EndInside.f, impl_inside.f, impl_portOk.f, impl_within.f, insB]
  by_cases h1 : a ≥ 1 <;> by_cases h2 : a ≤ 9 <;> by_cases h3 : p ≥ 1 <;> by_cases h4 : p ≤ 999 <;> simp [h1, h2, h3, h4] <;> omega
/-- From i on, n ends: each inside, and none that stands ahead of it. -/
def okF (L : List S27) : Nat → Nat → Bool
  | 0, _ => true
  | n + 1, i => insB (rd_T27 L (i : Int)).f0 (rd_T27 L (i : Int)).f1 && (decide (fnd (L.take i) (rd_T27 L (i : Int)).f0 (rd_T27 L (i : Int)).f1 0 < 0) && okF L n (i + 1))
def mapOkB (L : List S27) : Bool := decide (L.length ≤ 6) && okF L L.length 0
theorem spec_ok_l (L : List S27) (hL : L.length ≤ 4611686018427387904) : ∀ (n i k : Nat), i + n = L.length → L.length + n + 2 ≤ k → spec_MapOk.l0 k (i : Int) L = some (okF L n i) := by
  intro n
  induction n with
  | zero =>
    intro i k hi hk
    obtain ⟨k, rfl⟩ : ∃ k', k = k' + 1 := ⟨k - 1, by omega⟩
    rw [spec_MapOk.l0, if_neg (by omega)]; rfl
  | succ n ih =>
    intro i k hi hk
    obtain ⟨k, rfl⟩ : ∃ k', k = k' + 1 := ⟨k - 1, by omega⟩
    rw [spec_MapOk.l0, if_pos (by omega), if_pos (by omega), spec_ins, Option.bind_some, okF]
    cases c : insB (rd_T27 L (i : Int)).f0 (rd_T27 L (i : Int)).f1 with
    | false => rw [if_neg (by decide)]; rfl
    | true =>
      rw [if_pos rfl, if_pos (by omega), Int.toNat_natCast, find_ev _ _ _ (by simp; omega) k (by simp; omega), Option.bind_some]
      by_cases d : fnd (L.take i) (rd_T27 L (i : Int)).f0 (rd_T27 L (i : Int)).f1 0 ≥ 0
      · rw [if_pos d, decide_eq_false (by omega)]; rfl
      · rw [if_neg d, w_upM i (by omega), ih (i + 1) k (by omega) (by omega), decide_eq_true (by omega)]; rfl
theorem spec_ok_ev (L : List S27) (hL : L.length ≤ 4611686018427387904) (k : Nat) (hk : 2 * L.length + 2 ≤ k) : spec_MapOk.f k L = some (mapOkB L) := by
  unfold spec_MapOk.f mapOkB
  by_cases c : (L.length : Int) > 6
  · rw [if_pos c, decide_eq_false (by omega)]; rfl
  · rw [if_neg c, decide_eq_true (by omega)]
    exact spec_ok_l L hL L.length 0 k (Nat.zero_add _) (by omega)
theorem impl_ok_l (L : List S27) (hL : L.length ≤ 4611686018427387904) : ∀ (n i k : Nat), i + n = L.length → L.length + n + 2 ≤ k → impl_MapOk.l0 k L (L.length : Int) (i : Int) L = some (okF L n i && decide ((L.length : Int) ≤ 6)) := by
  intro n
  induction n with
  | zero =>
    intro i k hi hk
    obtain ⟨k, rfl⟩ : ∃ k', k = k' + 1 := ⟨k - 1, by omega⟩
    rw [impl_MapOk.l0, if_neg (by omega)]; rfl
  | succ n ih =>
    intro i k hi hk
    obtain ⟨k, rfl⟩ : ∃ k', k = k' + 1 := ⟨k - 1, by omega⟩
    rw [impl_MapOk.l0, if_pos (by omega), if_pos (by omega), if_pos (by omega), impl_ins, Option.bind_some, okF]
    cases c : insB (rd_T27 L (i : Int)).f0 (rd_T27 L (i : Int)).f1 with
    | false => rw [if_neg (by decide)]; rfl
    | true =>
      rw [if_pos rfl, if_pos (by omega), Int.toNat_natCast, con_ev _ _ _ (by simp; omega) k (by simp; omega), Option.bind_some]
      by_cases d : 0 ≤ fnd (L.take i) (rd_T27 L (i : Int)).f0 (rd_T27 L (i : Int)).f1 0
      · rw [decide_eq_true d, if_pos rfl, decide_eq_false (by omega)]; rfl
      · have hd : decide (fnd (L.take i) (rd_T27 L (i : Int)).f0 (rd_T27 L (i : Int)).f1 0 < 0) = true := decide_eq_true (by omega)
        rw [decide_eq_false d, if_neg (by decide), w_upM i (by omega), ih (i + 1) k (by omega) (by omega), hd]; rfl
theorem impl_ok_ev (L : List S27) (hL : L.length ≤ 4611686018427387904) (k : Nat) (hk : 2 * L.length + 2 ≤ k) : impl_MapOk.f k L = some (mapOkB L) := by
  unfold impl_MapOk.f mapOkB
  rw [Bool.and_comm]
  have := impl_ok_l L hL L.length 0 k (Nat.zero_add _) (by omega)
  rw [show ((0 : Nat) : Int) = 0 from rfl] at this
  rw [this]
  congr 2
  exact decide_eq_decide.2 (by omega)
theorem put_ev (L : List S27) (a p : Int) (hL : L.length ≤ 100) : ∃ M v, (∀ k, 300 ≤ k → spec_MapPut.f k L a p = some (M, v)) ∧ M.length ≤ 7 := by
  have j0 : ∀ (t : Bool), (t = false → mapOkB L = true) → ∃ M v, (∀ k, 299 ≤ k → spec_MapPut.j0 (k + 1) t L a p = some (M, v)) ∧ M.length ≤ 7 := fun t ht => by
    cases t with
    | true => exact ⟨[], 0, fun k hk => by rw [spec_MapPut.j0, if_pos rfl], by simp⟩
    | false =>
      have hok := ht rfl
      have h6 : L.length ≤ 6 := by
        unfold mapOkB at hok
        rw [Bool.and_eq_true] at hok
        exact of_decide_eq_true hok.1
      have hc : spec_l3Copy.f L = some L := by
        unfold spec_l3Copy.f
        rw [Option.bind_some, if_pos (by simp; omega)]; rfl
      have hp : ∃ M v, (∀ k, 299 ≤ k → spec_l3Put.f k L a p = some (M, v)) ∧ M.length ≤ 7 := by
        by_cases c : fnd L a p 0 < 0
        · have e : ∀ k, 299 ≤ k → spec_MapPort.f k L a p = some 0 := fun k hk => by
            unfold spec_MapPort.f
            rw [find_ev L a p (by omega) k (by omega), Option.bind_some, if_pos c]
          by_cases c6 : L.length = 6
          · exact ⟨L, 0, fun k hk => by
              unfold spec_l3Put.f
              rw [e k hk, Option.bind_some, if_neg (by decide), if_pos (by omega)], by omega⟩
          · exact ⟨[] ++ L ++ [⟨a, p⟩], wrap64 ((wrap64 (500 + (([] ++ L ++ [(⟨a, p⟩ : S27)]).length : Int))) - 1), fun k hk => by
              unfold spec_l3Put.f
              rw [e k hk, Option.bind_some, if_neg (by decide), if_neg (by omega)]
              simp only [Option.bind_some]
              rw [if_pos (by simp; omega), if_pos (by simp; omega)], by simp; omega⟩
        · rcases fnd_ge L a p 0 (Int.le_refl _) with h | h
          · omega
          · exact ⟨L, 500 + fnd L a p 0, fun k hk => by
              unfold spec_l3Put.f spec_MapPort.f
              rw [find_ev L a p (by omega) k (by omega), Option.bind_some, if_neg c, Option.bind_some, Lib.wrap_id (by omega) (by omega), if_pos (by omega)], by omega⟩
      obtain ⟨M, v, hM, hl⟩ := hp
      exact ⟨M, v, fun k hk => by
        rw [spec_MapPut.j0, if_neg (by decide), hc, Option.bind_some, hM k hk]; rfl, hl⟩
  have hend := spec_ins a p
  cases hk : mapOkB L with
  | false =>
    obtain ⟨M, v, h1, h2⟩ := j0 true (fun h => by cases h)
    exact ⟨M, v, fun k hk2 => by
      obtain ⟨k, rfl⟩ : ∃ m, k = m + 1 := ⟨k - 1, by omega⟩
      unfold spec_MapPut.f
      rw [spec_ok_ev L (by omega) _ (by omega), Option.bind_some, hk, if_neg (by decide), h1 k (by omega)], h2⟩
  | true =>
    obtain ⟨M, v, h1, h2⟩ := j0 (!insB a p) (fun _ => hk)
    exact ⟨M, v, fun k hk2 => by
      obtain ⟨k, rfl⟩ : ∃ m, k = m + 1 := ⟨k - 1, by omega⟩
      unfold spec_MapPut.f
      rw [spec_ok_ev L (by omega) _ (by omega), Option.bind_some, hk, if_pos rfl, hend, Option.bind_some, h1 k (by omega)], h2⟩
theorem table_l1 (b : List Int) (p : Int) : ∀ (n : Nat) (L : List S27), L.length + n = 7 → ∃ M, (∀ k, n + 1 ≤ k → spec_l20Table.l1 k b p L = some (M, p)) ∧ M.length ≤ 9 := by
  intro n
  induction n with
  | zero =>
    intro L hL
    exact ⟨L, fun k hk => by
      obtain ⟨k, rfl⟩ : ∃ m, k = m + 1 := ⟨k - 1, by omega⟩
      rw [spec_l20Table.l1, if_neg (by omega)], by omega⟩
  | succ n ih =>
    intro L hL
    obtain ⟨M, h1, h2⟩ := ih (L ++ [⟨8, wrap64 (1 + (L.length : Int))⟩]) (by simp; omega)
    exact ⟨M, fun k hk => by
      obtain ⟨k, rfl⟩ : ∃ m, k = m + 1 := ⟨k - 1, by omega⟩
      rw [spec_l20Table.l1, if_pos (by omega), if_pos (by omega), h1 k (by omega)], h2⟩
theorem table_l (b : List Int) (hb : Lib.Bytes b) (hl : b.length ≤ 2000) (x : Int) (hx : 1 ≤ x) (hx2 : x ≤ 1000000) : ∀ (n : Nat) (L : List S27) (p : Int), L.length ≤ 7 → 0 ≤ p → p + 3 * n ≤ 700000 →
    ∃ M p' K, (∀ k, K ≤ k → spec_l20Table.l0 k x (n : Int) b p L = some (M, p')) ∧ M.length ≤ 9 ∧ p ≤ p' ∧ p' ≤ p + 3 * n + 10 := by
  intro n
  induction n with
  | zero =>
    intro L p hL h0 h1
    obtain ⟨v, p1, ⟨K1, e1⟩, g1, g2, _⟩ := odd_ev b hb hl p x (by omega) (by omega) hx hx2
    dsimp only at e1
    cases v with
    | false => exact ⟨L, p1, K1 + 1, fun k hk => by
        obtain ⟨k, rfl⟩ : ∃ m, k = m + 1 := ⟨k - 1, by omega⟩
        rw [spec_l20Table.l0, if_neg (by decide), e1 k (by omega), Option.bind_some]; dsimp only; rw [if_neg (by decide)], by omega, by omega, by omega⟩
    | true =>
      obtain ⟨u, ⟨K2, e2⟩, a2, b2⟩ := pick_ev b hb hl p1 3 (by omega) (by omega) (by omega)
      dsimp only at e2
      by_cases c0 : u = 0
      · obtain ⟨a, q, ⟨K3, e3⟩, _⟩ := out_ev b hb hl (p1 + 1) (by omega) (by omega)
        dsimp only at e3
        exact ⟨L ++ [⟨a, q⟩], p1 + 1 + 2, K1 + K2 + K3 + 1, fun k hk => by
          obtain ⟨k, rfl⟩ : ∃ m, k = m + 1 := ⟨k - 1, by omega⟩
          rw [spec_l20Table.l0, if_neg (by decide), e1 k (by omega), Option.bind_some]; dsimp only
          rw [if_pos rfl, e2 k (by omega), Option.bind_some]; dsimp only
          rw [if_pos c0, e3 k (by omega), Option.bind_some]; dsimp only
          rw [if_pos (by omega)], by simp; omega, by omega, by omega⟩
      · by_cases c1 : u = 1
        · exact ⟨L ++ [⟨9, 9⟩] ++ [⟨9, 9⟩], p1 + 1, K1 + K2 + 1, fun k hk => by
            obtain ⟨k, rfl⟩ : ∃ m, k = m + 1 := ⟨k - 1, by omega⟩
            rw [spec_l20Table.l0, if_neg (by decide), e1 k (by omega), Option.bind_some]; dsimp only
            rw [if_pos rfl, e2 k (by omega), Option.bind_some]; dsimp only
            rw [if_neg c0, if_pos c1, if_pos (by omega), Option.bind_some, if_pos (by simp; omega)], by simp; omega, by omega, by omega⟩
        · obtain ⟨M, h3, h4⟩ := table_l1 b (p1 + 1) (7 - L.length) L (by omega)
          exact ⟨M, p1 + 1, K1 + K2 + 9, fun k hk => by
            obtain ⟨k, rfl⟩ : ∃ m, k = m + 1 := ⟨k - 1, by omega⟩
            rw [spec_l20Table.l0, if_neg (by decide), e1 k (by omega), Option.bind_some]; dsimp only
            rw [if_pos rfl, e2 k (by omega), Option.bind_some]; dsimp only
            rw [if_neg c0, if_neg c1, h3 k (by omega)], h4, by omega, by omega⟩
  | succ n ih =>
    intro L p hL h0 h1
    obtain ⟨a, q, ⟨K1, e1⟩, _⟩ := in_ev b hb hl p h0 (by omega)
    dsimp only at e1
    obtain ⟨M, v, h2, hM⟩ := put_ev L a q (by omega)
    obtain ⟨M2, p2, K3, h3, h4, h5, h6⟩ := ih M (p + 3) hM (by omega) (by omega)
    refine ⟨M2, p2, K1 + K3 + 301, fun k hk => ?_, h4, by omega, by omega⟩
    obtain ⟨k, rfl⟩ : ∃ m, k = m + 1 := ⟨k - 1, by omega⟩
    have hw : wrap64 (((n + 1 : Nat) : Int) - 1) = (n : Int) := by rw [Lib.wrap_id (by omega) (by omega)]; omega
    rw [spec_l20Table.l0, if_pos (by omega), e1 k (by omega), Option.bind_some]; dsimp only
    rw [h2 k (by omega), Option.bind_some]; dsimp only
    rw [hw, h3 k (by omega)]
theorem table_ev (b : List Int) (hb : Lib.Bytes b) (hl : b.length ≤ 2000) (p x : Int) (h0 : 0 ≤ p) (h1 : p ≤ 600000) (hx : 1 ≤ x) (hx2 : x ≤ 1000000) :
    ∃ M p', Ev (fun k => spec_l20Table.f k b p x) (M, p') ∧ M.length ≤ 9 ∧ p ≤ p' ∧ p' ≤ p + 40 := by
  obtain ⟨v, ⟨K1, e1⟩, a1, b1⟩ := pick_ev b hb hl p 8 (by omega) (by omega) (by omega)
  dsimp only at e1
  obtain ⟨n, rfl⟩ := Int.eq_ofNat_of_zero_le a1
  obtain ⟨M, p', K2, h2, h3, h4, h5⟩ := table_l b hb hl x hx hx2 n [] (p + 1) (by simp) (by omega) (by omega)
  refine ⟨M, p', ⟨K1 + K2, fun k hk => ?_⟩, h3, by omega, by omega⟩
  dsimp only
  unfold spec_l20Table.f
  rw [e1 k (by omega), Option.bind_some]; dsimp only
  rw [h2 k (by omega)]
def portV (L : List S27) (a p : Int) : Int := if fnd L a p 0 < 0 then 0 else 500 + fnd L a p 0
theorem spec_port_ev (L : List S27) (a p : Int) (hL : L.length ≤ 1000000) (k : Nat) (hk : L.length + 1 ≤ k) : spec_MapPort.f k L a p = some (portV L a p) := by
  unfold spec_MapPort.f portV
  rw [find_ev L a p (by omega) k hk, Option.bind_some]
  by_cases c : fnd L a p 0 < 0
  · rw [if_pos c, if_pos c]
  · rw [if_neg c, if_neg c]
    rcases fnd_ge L a p 0 (Int.le_refl _) with h | h
    · omega
    · rw [Lib.wrap_id (by omega) (by omega)]
theorem impl_port_ev (L : List S27) (a p : Int) (hL : L.length ≤ 1000000) (k : Nat) (hk : L.length + 1 ≤ k) : impl_MapPort.f k L a p = some (portV L a p) := by
  unfold impl_MapPort.f
  rw [if_pos (by omega), if_pos (by omega), spec_port_ev L a p hL k hk]; rfl
theorem rd_takeE (L : List S27) (j t : Nat) (h : t < j) : rd_T27 (L.take j) (t : Int) = rd_T27 L (t : Int) := by
  unfold rd_T27
  rw [Int.toNat_natCast, List.getD_eq_getElem?_getD, List.getD_eq_getElem?_getD, List.getElem?_take, if_pos h]
theorem okF_at (L : List S27) : ∀ (n i j : Nat), okF L n i = true → i ≤ j → j < i + n → insB (rd_T27 L (j : Int)).f0 (rd_T27 L (j : Int)).f1 = true ∧ fnd (L.take j) (rd_T27 L (j : Int)).f0 (rd_T27 L (j : Int)).f1 0 < 0 := by
  intro n
  induction n with
  | zero => intro i j _ h1 h2; omega
  | succ n ih =>
    intro i j h h1 h2
    rw [okF, Bool.and_eq_true, Bool.and_eq_true] at h
    by_cases e : j = i
    · subst e; exact ⟨h.1, of_decide_eq_true h.2.1⟩
    · exact ih (i + 1) j h.2.2 (by omega) (by omega)
theorem fnd_first (L : List S27) (hk : mapOkB L = true) (j : Nat) (hj : j < L.length) : fnd L (rd_T27 L (j : Int)).f0 (rd_T27 L (j : Int)).f1 0 = (j : Int) := by
  unfold mapOkB at hk
  rw [Bool.and_eq_true] at hk
  have hf := (okF_at L L.length 0 j hk.2 (Nat.zero_le _) (by omega)).2
  have hs := fnd_spec L (rd_T27 L (j : Int)).f0 (rd_T27 L (j : Int)).f1 L.length 0 (Nat.zero_add _)
  rw [List.drop_zero] at hs
  rw [show ((0 : Nat) : Int) = 0 from rfl] at hs
  rcases hs with ⟨_, h2⟩ | ⟨t, _, h2, h3, h4, h5⟩
  · exact absurd ⟨rfl, rfl⟩ (h2 j (Nat.zero_le _) hj)
  · rw [h3]
    by_cases c : t < j
    · have hs2 := fnd_spec (L.take j) (rd_T27 L (j : Int)).f0 (rd_T27 L (j : Int)).f1 (L.take j).length 0 (Nat.zero_add _)
      rw [List.drop_zero] at hs2
      rw [show ((0 : Nat) : Int) = 0 from rfl] at hs2
      have hlen : (L.take j).length = j := by simp; omega
      rcases hs2 with ⟨_, g2⟩ | ⟨u, _, g2, g3, _⟩
      · have := g2 t (Nat.zero_le _) (by omega)
        rw [rd_takeE L j t c] at this
        exact absurd h4 this
      · rw [g3] at hf; omega
    · by_cases c2 : j < t
      · exact absurd ⟨rfl, rfl⟩ (h5 j (Nat.zero_le _) c2)
      · omega
theorem rd_appE (L M : List S27) (t : Nat) (h : t < L.length) : rd_T27 (L ++ M) (t : Int) = rd_T27 L (t : Int) := by
  unfold rd_T27
  rw [Int.toNat_natCast, List.getD_eq_getElem?_getD, List.getD_eq_getElem?_getD, List.getElem?_append_left h]
theorem okF_of (L : List S27) : ∀ (n i : Nat), (∀ j : Nat, i ≤ j → j < i + n → insB (rd_T27 L (j : Int)).f0 (rd_T27 L (j : Int)).f1 = true ∧ fnd (L.take j) (rd_T27 L (j : Int)).f0 (rd_T27 L (j : Int)).f1 0 < 0) → okF L n i = true := by
  intro n
  induction n with
  | zero => intro i _; rfl
  | succ n ih =>
    intro i h
    have h0 := h i (Nat.le_refl _) (by omega)
    rw [okF, h0.1, decide_eq_true h0.2, ih (i + 1) (fun j h1 h2 => h j (by omega) (by omega))]; rfl
theorem ok_take (L : List S27) (hk : mapOkB L = true) (j : Nat) (hj : j ≤ L.length) : mapOkB (L.take j) = true := by
  unfold mapOkB at hk ⊢
  rw [Bool.and_eq_true] at hk
  have hlen : (L.take j).length = j := by rw [List.length_take]; omega
  have h6 := of_decide_eq_true hk.1
  rw [hlen, decide_eq_true (by omega), Bool.true_and]
  refine okF_of _ j 0 (fun t _ ht => ?_)
  have := okF_at L L.length 0 t hk.2 (Nat.zero_le _) (by omega)
  rw [rd_takeE L j t (by omega), List.take_take, Nat.min_eq_left (by omega)]
  exact this
theorem ok_dup (L : List S27) (hk : mapOkB L = true) (j : Nat) (hj : j < L.length) : mapOkB (L ++ [rd_T27 L (j : Int)]) = false := by
  cases h : mapOkB (L ++ [rd_T27 L (j : Int)]) with
  | false => rfl
  | true =>
    obtain ⟨x, hx⟩ : ∃ x, x = rd_T27 L (j : Int) := ⟨_, rfl⟩
    rw [← hx] at h
    unfold mapOkB at h
    rw [Bool.and_eq_true] at h
    have hl : (L ++ [x]).length = L.length + 1 := by simp
    have h1 := (okF_at (L ++ [x]) (L ++ [x]).length 0 L.length h.2 (Nat.zero_le _) (by omega)).2
    have hr : rd_T27 (L ++ [x]) (L.length : Int) = x := by
      unfold rd_T27
      rw [Int.toNat_natCast, List.getD_eq_getElem?_getD, List.getElem?_append_right (Nat.le_refl _), Nat.sub_self]; rfl
    rw [hr, List.take_left, hx, fnd_first L hk j hj] at h1
    omega
theorem port_at (L : List S27) (hk : mapOkB L = true) (j : Nat) (hj : j < L.length) : portV L (rd_T27 L (j : Int)).f0 (rd_T27 L (j : Int)).f1 = 500 + (j : Int) := by
  unfold portV
  rw [fnd_first L hk j hj, if_neg (by omega)]
theorem drawmapok_ev (l : List Int) (hb : Lib.Bytes l) (hl : l.length ≤ 9223372036854775807) : ∃ M, Ev (fun k => spec_DrawMapOk.f k l) M ∧ M.length ≤ 9 := by
  obtain ⟨b, h0, hb, hl⟩ := open_eq l hb hl
  obtain ⟨M, p1, ⟨K1, e1⟩, hM, g1, g2⟩ := table_ev b hb hl 0 2 (by omega) (by omega) (by omega) (by omega)
  dsimp only at e1
  refine ⟨M, ⟨K1, fun k hk => ?_⟩, hM⟩
  dsimp only
  unfold spec_DrawMapOk.f
  rw [h0, Option.bind_some]; dsimp only
  rw [e1 k (by omega), Option.bind_some]
end Go.Proofs.Ytlofgoahgnllkaa.QFnMapOk
