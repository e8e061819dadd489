/- What the reference's draws and functions that this law reaches come to: plain lemmas on the printed functions. -/
import Derived.Test.YtndfmhcfeojahaaQFnEndOkx3
import Derived.Test.YtndfmhcfeojahaaLib
import Derived.Laws.BitsLemmas
set_option linter.unusedVariables false
set_option linter.unusedSimpArgs false
namespace Go.Proofs.Ytndfmhcfeojahaa.QFnEndOk
open Go.RowKit Go.Proofs.YtndfmhcfeojahaaW.PrintWords Go.Proofs.YtndfmhcfeojahaaW.PrintLast Go.Proofs.YtndfmhcfeojahaaW.PrintMore
open Go.Proofs.Ytndfmhcfeojahaa
theorem xor_nonneg (a b : Int) (h0 : 0 ≤ a) (h1 : a < 4611686018427387904) (h2 : 0 ≤ b) (h3 : b < 4611686018427387904) : 0 ≤ Go.bits .xor .i64 a b := by
  obtain ⟨m, rfl⟩ := Int.eq_ofNat_of_zero_le h0
  obtain ⟨n, rfl⟩ := Int.eq_ofNat_of_zero_le h2
  have hm : m % 2 ^ 64 = m := Nat.mod_eq_of_lt (by omega)
  have hn : n % 2 ^ 64 = n := Nat.mod_eq_of_lt (by omega)
  have hx : m ^^^ n < 2 ^ 62 := Nat.xor_lt_two_pow (by omega) (by omega)
  have e : Go.bits .xor .i64 (m : Int) (n : Int) = IntKind.i64.wrap ((m ^^^ n : Nat) : Int) := by
    have hb : (BitVec.ofNat 64 m ^^^ BitVec.ofNat 64 n).toNat = m ^^^ n := by rw [BitVec.toNat_xor, BitVec.toNat_ofNat, BitVec.toNat_ofNat, hm, hn]
    simp only [bits, IntKind.bits, BitVec.ofInt_natCast]
    exact congrArg (fun z : Nat => IntKind.i64.wrap (z : Int)) hb
  rw [e, IntKind.wrap_i64]
  omega
theorem pick_ev (b : List Int) (hb : Lib.Bytes b) (hl : b.length ≤ 2000) (p n : Int) (h0 : 0 ≤ p) (h1 : p ≤ 1000000) (hn : 1 ≤ n) :
    ∃ v, Ev (fun k => spec_l20Rd_pick.f k b p n) (v, p + 1) ∧ 0 ≤ v ∧ v < n := by
  have go : ∀ v, spec_l20Rd_pick.f 1 b p n = some (v, p + 1) → 0 ≤ v → v < n → ∃ v, Ev (fun k => spec_l20Rd_pick.f k b p n) (v, p + 1) ∧ 0 ≤ v ∧ v < n :=
    fun v h a c => ⟨v, Ev.of (spec_l20Rd_pick.mono b p n) h, a, c⟩
  have e1 : wrap64 (p + 1) = p + 1 := Lib.wrap_id (by omega) (by omega)
  have e2 : wrap64 (p + 1 - 1) = p := by rw [Lib.wrap_id (by omega) (by omega)]; omega
  by_cases hz : b.length = 0
  · refine go 0 ?_ (by omega) (by omega)
    unfold spec_l20Rd_pick.f
    rw [if_neg (by omega), spec_l20Rd_pick.j0, if_pos (by simp [hz]), e1]
  · have e3 : ((b.length : Int) == 0) = false := by rw [beq_eq_false_iff_ne]; omega
    by_cases hp : p < (b.length : Int)
    · obtain ⟨i, rfl⟩ := Int.eq_ofNat_of_zero_le h0
      have hr := Lib.bytes_rd hb i
      refine go (rd b (i : Int) % n) ?_ (Int.emod_nonneg _ (by omega)) (Int.emod_lt_of_pos _ (by omega))
      unfold spec_l20Rd_pick.f
      rw [if_neg (by omega), spec_l20Rd_pick.j0, if_neg (by rw [e3]; decide), e1, e2, if_pos hp, if_pos (by omega), if_neg (by omega), Lib.wrap_id (x := rd b (i : Int)) (by omega) (by omega), Int.tmod_eq_emod_of_nonneg (by omega)]
    · have hL : (0 : Int) < (b.length : Int) := by omega
      have q1 : Int.tmod p (b.length : Int) = p % (b.length : Int) := Int.tmod_eq_emod_of_nonneg (by omega)
      have w1 : wrap64 (p * 7) = p * 7 := Lib.wrap_id (by omega) (by omega)
      have w2 : wrap64 (p * 7 + 3) = p * 7 + 3 := Lib.wrap_id (by omega) (by omega)
      have q2 : Int.tmod (p * 7 + 3) (b.length : Int) = (p * 7 + 3) % (b.length : Int) := Int.tmod_eq_emod_of_nonneg (by omega)
      have m1 := Int.emod_nonneg p (show (b.length : Int) ≠ 0 by omega)
      have m2 := Int.emod_lt_of_pos p hL
      have m3 := Int.emod_nonneg (p * 7 + 3) (show (b.length : Int) ≠ 0 by omega)
      have m4 := Int.emod_lt_of_pos (p * 7 + 3) hL
      obtain ⟨i, hi⟩ := Int.eq_ofNat_of_zero_le m1
      obtain ⟨j, hj⟩ := Int.eq_ofNat_of_zero_le m3
      have r1 := Lib.bytes_rd hb i
      have r2 := Lib.bytes_rd hb j
      rw [← hi] at r1
      rw [← hj] at r2
      have d1 : Int.tdiv p (b.length : Int) = p / (b.length : Int) := Int.tdiv_eq_ediv_of_nonneg h0
      have d2 : 0 ≤ p / (b.length : Int) := Int.ediv_nonneg h0 (by omega)
      have d3 : p / (b.length : Int) ≤ p := Int.ediv_le_self _ h0
      obtain ⟨u, hu⟩ : ∃ u, u = rd b (p % (b.length : Int)) := ⟨_, rfl⟩
      obtain ⟨v, hv⟩ : ∃ v, v = rd b ((p * 7 + 3) % (b.length : Int)) := ⟨_, rfl⟩
      obtain ⟨q, hq⟩ : ∃ q, q = p / (b.length : Int) := ⟨_, rfl⟩
      rw [← hu] at r1
      rw [← hv] at r2
      rw [← hq] at d2 d3
      have x0 : wrap64 (wrap64 (wrap64 (wrap64 (wrap64 u * 131) + wrap64 (wrap64 v * 1117)) + wrap64 (p * 29)) + wrap64 (wrap64 q * 53)) = u * 131 + v * 1117 + p * 29 + q * 53 := by
        rw [Lib.wrap_id (x := u) (by omega) (by omega), Lib.wrap_id (x := v) (by omega) (by omega), Lib.wrap_id (x := q) (by omega) (by omega), Lib.wrap_id (x := u * 131) (by omega) (by omega), Lib.wrap_id (x := v * 1117) (by omega) (by omega),
          Lib.wrap_id (x := p * 29) (by omega) (by omega), Lib.wrap_id (x := q * 53) (by omega) (by omega), Lib.wrap_id (x := u * 131 + v * 1117) (by omega) (by omega), Lib.wrap_id (x := u * 131 + v * 1117 + p * 29) (by omega) (by omega), Lib.wrap_id (by omega) (by omega)]
      obtain ⟨X, hX⟩ : ∃ X, X = u * 131 + v * 1117 + p * 29 + q * 53 := ⟨_, rfl⟩
      have X0 : 0 ≤ X := by omega
      have X1 : X < 4611686018427387904 := by omega
      have x1 : wrap64 (Int.tdiv X 64) = X / 64 := by rw [Int.tdiv_eq_ediv_of_nonneg X0, Lib.wrap_id (by omega) (by omega)]
      have hx := xor_nonneg X (X / 64) X0 X1 (by omega) (by omega)
      refine go (Go.bits .xor .i64 X (X / 64) % n) ?_ (Int.emod_nonneg _ (by omega)) (Int.emod_lt_of_pos _ (by omega))
      unfold spec_l20Rd_pick.f
      rw [if_neg (by omega), spec_l20Rd_pick.j0, if_neg (by rw [e3]; decide), e1, e2, if_neg hp, if_neg (by omega), w1, w2, q1, q2, if_pos m1, if_pos m2, if_pos m3, if_pos m4, if_neg (by omega), d1, ← hu, ← hv, ← hq, x0, ← hX, x1, Int.tmod_eq_emod_of_nonneg hx]
theorem open_eq (l : List Int) (hb : Lib.Bytes l) (hl : l.length ≤ 9223372036854775807) : ∃ b, spec_l20Open.f l = some (b, 0) ∧ Lib.Bytes b ∧ b.length ≤ 2000 := by
  unfold spec_l20Open.f
  by_cases c : (l.length : Int) > 2000
  · exact ⟨l.take 2000, by rw [if_pos c, if_pos (by omega)], fun x hx => hb x (List.mem_of_mem_take hx), by simp; omega⟩
  · exact ⟨l, by rw [if_neg c], hb, by omega⟩
theorem in_ev (b : List Int) (hb : Lib.Bytes b) (hl : b.length ≤ 2000) (p : Int) (h0 : 0 ≤ p) (h1 : p ≤ 999000) :
    ∃ a q, Ev (fun k => spec_l20In.f k b p) (a, q, p + 3) ∧ 1 ≤ a ∧ a ≤ 4 ∧ 1 ≤ q ∧ q ≤ 999 := by
  obtain ⟨v1, ⟨K1, e1⟩, a1, b1⟩ := pick_ev b hb hl p 4 h0 (by omega) (by omega)
  obtain ⟨v2, ⟨K2, e2⟩, a2, b2⟩ := pick_ev b hb hl (p + 1) 40 (by omega) (by omega) (by omega)
  obtain ⟨v3, ⟨K3, e3⟩, a3, b3⟩ := pick_ev b hb hl (p + 1 + 1) 5 (by omega) (by omega) (by omega)
  have hr : 1 ≤ rd [7, 20, 300, 999, wrap64 (1 + v2)] v3 ∧ rd [7, 20, 300, 999, wrap64 (1 + v2)] v3 ≤ 999 := by
    rw [Lib.wrap_id (x := 1 + v2) (by omega) (by omega)]
    rcases (by omega : v3 = 0 ∨ v3 = 1 ∨ v3 = 2 ∨ v3 = 3 ∨ v3 = 4) with rfl | rfl | rfl | rfl | rfl <;> simp [rd] <;> omega
  refine ⟨1 + v1, rd [7, 20, 300, 999, wrap64 (1 + v2)] v3, ⟨K1 + K2 + K3, fun k hk => ?_⟩, by omega, by omega, hr.1, hr.2⟩
  dsimp only at e1 e2 e3 ⊢
  unfold spec_l20In.f
  rw [e1 k (by omega)]; simp only [Option.bind_some]
  rw [e2 k (by omega)]; simp only [Option.bind_some]
  rw [e3 k (by omega)]; simp only [Option.bind_some]
  rw [if_pos a3, if_pos (by simpa using b3), Lib.wrap_id (x := 1 + v1) (by omega) (by omega), show p + 1 + 1 + 1 = p + 3 by omega]
theorem out_ev (b : List Int) (hb : Lib.Bytes b) (hl : b.length ≤ 2000) (p : Int) (h0 : 0 ≤ p) (h1 : p ≤ 999000) :
    ∃ a q, Ev (fun k => spec_l20Out.f k b p) (a, q, p + 2) ∧ 100 ≤ a ∧ a ≤ 102 ∧ 1 ≤ q ∧ q ≤ 80 := by
  obtain ⟨v1, ⟨K1, e1⟩, a1, b1⟩ := pick_ev b hb hl p 3 h0 (by omega) (by omega)
  obtain ⟨v2, ⟨K2, e2⟩, a2, b2⟩ := pick_ev b hb hl (p + 1) 4 (by omega) (by omega) (by omega)
  have hr : 1 ≤ rd [21, 21, 80, 7] v2 ∧ rd [21, 21, 80, 7] v2 ≤ 80 := by
    rcases (by omega : v2 = 0 ∨ v2 = 1 ∨ v2 = 2 ∨ v2 = 3) with rfl | rfl | rfl | rfl <;> simp [rd]
  refine ⟨100 + v1, rd [21, 21, 80, 7] v2, ⟨K1 + K2, fun k hk => ?_⟩, by omega, by omega, hr.1, hr.2⟩
  dsimp only at e1 e2 ⊢
  unfold spec_l20Out.f
  rw [e1 k (by omega)]; simp only [Option.bind_some]
  rw [e2 k (by omega)]; simp only [Option.bind_some]
  rw [if_pos a2, if_pos (by simpa using b2), Lib.wrap_id (x := 100 + v1) (by omega) (by omega), show p + 1 + 1 = p + 2 by omega]
def endOkP (a p : Int) : Prop := ((1 ≤ a ∧ a ≤ 9) ∨ (100 ≤ a ∧ a ≤ 109) ∨ a = 50) ∧ 1 ≤ p ∧ p ≤ 999
instance (a p : Int) : Decidable (endOkP a p) := by unfold endOkP; infer_instance
theorem spec_end (a p : Int) : spec_EndOk.f a p = some (decide (endOkP a p)) := by
  simp only [spec_EndOk.f, spec_EndInside.f, spec_EndOutside.f, spec_l1In.f, endOkP]
  by_cases h1 : a ≥ 1 <;> by_cases h2 : a ≤ 9 <;> by_cases h3 : p ≥ 1 <;> by_cases h4 : p ≤ 999 <;> by_cases h5 : a ≥ 100 <;> by_cases h6 : a ≤ 109 <;> by_cases h7 : a = 50 <;> simp [h1, h2, h3, h4, h5, h6, h7] <;> omega
theorem odd_ev (b : List Int) (hb : Lib.Bytes b) (hl : b.length ≤ 2000) (p n : Int) (h0 : 0 ≤ p) (h1 : p ≤ 1000000) (hn : 1 ≤ n) (hn2 : n ≤ 1000000) :
    ∃ v p', Ev (fun k => spec_l20Rd_odd.f k b p n) (v, p') ∧ p ≤ p' ∧ p' ≤ p + 1 ∧ (9000 ≤ n → v = false ∧ p' = p) := by
  by_cases c : n < 9000
  · obtain ⟨v, ⟨K, e⟩, _, _⟩ := pick_ev b hb hl p n h0 h1 hn
    dsimp only at e
    refine ⟨v == wrap64 (n - 1), p + 1, ⟨K, fun k hk => ?_⟩, by omega, by omega, fun h => by omega⟩
    dsimp only
    unfold spec_l20Rd_odd.f
    rw [if_pos c, e k hk]; rfl
  · refine ⟨false, p, ⟨0, fun k hk => ?_⟩, by omega, by omega, fun _ => ⟨rfl, rfl⟩⟩
    dsimp only
    unfold spec_l20Rd_odd.f
    rw [if_neg c]
theorem end_ev (b : List Int) (hb : Lib.Bytes b) (hl : b.length ≤ 2000) (p n : Int) (h0 : 0 ≤ p) (h1 : p ≤ 900000) (hn : 1 ≤ n) (hn2 : n ≤ 1000000) :
    ∃ a q p', Ev (fun k => spec_l20End.f k b p n) (a, q, p') ∧ p ≤ p' ∧ p' ≤ p + 10 ∧ -1 ≤ a ∧ a ≤ 110 ∧ -1 ≤ q ∧ q ≤ 1000 ∧ (9000 ≤ n → endOkP a q) := by
  obtain ⟨v0, p0, ⟨K0, e0⟩, g0, g1, g2⟩ := odd_ev b hb hl p n h0 (by omega) hn hn2
  dsimp only at e0
  cases v0 with
  | true =>
    obtain ⟨v1, ⟨K1, e1⟩, a1, b1⟩ := pick_ev b hb hl p0 6 (by omega) (by omega) (by omega)
    dsimp only at e1
    obtain ⟨xs, hxs⟩ : ∃ xs : List (S26), xs = [(⟨0, 0⟩ : S26), (⟨10, 5⟩ : S26), (⟨1, 0⟩ : S26), (⟨1, 1000⟩ : S26), (⟨110, 3⟩ : S26), (⟨(-1), (-1)⟩ : S26)] := ⟨_, rfl⟩
    have hr : -1 ≤ (rd_T26 xs v1).f0 ∧ (rd_T26 xs v1).f0 ≤ 110 ∧ -1 ≤ (rd_T26 xs v1).f1 ∧ (rd_T26 xs v1).f1 ≤ 1000 := by
      rw [hxs]
      rcases (by omega : v1 = 0 ∨ v1 = 1 ∨ v1 = 2 ∨ v1 = 3 ∨ v1 = 4 ∨ v1 = 5) with rfl | rfl | rfl | rfl | rfl | rfl <;> decide
    refine ⟨(rd_T26 xs v1).f0, (rd_T26 xs v1).f1, p0 + 1, ⟨K0 + K1, fun k hk => ?_⟩, by omega, by omega, hr.1, hr.2.1, hr.2.2.1, hr.2.2.2, fun h => by have := (g2 h).1; cases this⟩
    dsimp only
    unfold spec_l20End.f
    rw [e0 k (by omega)]; simp only [Option.bind_some, if_true]
    rw [e1 k (by omega)]; simp only [Option.bind_some]
    rw [if_pos a1, if_pos (by simpa using b1), hxs]
  | false =>
    obtain ⟨a1, q1, ⟨K1, e1⟩, i1, i2, i3, i4⟩ := in_ev b hb hl p0 (by omega) (by omega)
    obtain ⟨a2, q2, ⟨K2, e2⟩, j1, j2, j3, j4⟩ := out_ev b hb hl (p0 + 3) (by omega) (by omega)
    obtain ⟨v3, ⟨K3, e3⟩, a3, b3⟩ := pick_ev b hb hl (p0 + 3 + 2) 7 (by omega) (by omega) (by omega)
    obtain ⟨v4, ⟨K4, e4⟩, a4, b4⟩ := pick_ev b hb hl (p0 + 3 + 2 + 1) 3 (by omega) (by omega) (by omega)
    dsimp only at e1 e2 e3 e4
    obtain ⟨xs, hxs⟩ : ∃ xs : List (S26), xs = [(⟨a1, q1⟩ : S26), (⟨a2, q2⟩ : S26), (⟨50, wrap64 (500 + v3)⟩ : S26)] := ⟨_, rfl⟩
    have hr : endOkP (rd_T26 xs v4).f0 (rd_T26 xs v4).f1 := by
      rw [hxs, Lib.wrap_id (x := 500 + v3) (by omega) (by omega)]
      rcases (by omega : v4 = 0 ∨ v4 = 1 ∨ v4 = 2) with rfl | rfl | rfl <;> simp [rd_T26, endOkP] <;> omega
    have hr2 := hr
    unfold endOkP at hr2
    refine ⟨(rd_T26 xs v4).f0, (rd_T26 xs v4).f1, p0 + 3 + 2 + 1 + 1, ⟨K0 + K1 + K2 + K3 + K4, fun k hk => ?_⟩, by omega, by omega, by omega, by omega, by omega, by omega, fun _ => hr⟩
    dsimp only
    unfold spec_l20End.f
    rw [e0 k (by omega)]; simp only [Option.bind_some]
    rw [if_neg (by decide), e1 k (by omega)]; simp only [Option.bind_some]
    rw [e2 k (by omega)]; simp only [Option.bind_some]
    rw [e3 k (by omega)]; simp only [Option.bind_some]
    rw [e4 k (by omega)]; simp only [Option.bind_some]
    rw [if_pos a4, if_pos (by simpa using b4), hxs]
theorem drawendok_ev (l : List Int) (hb : Lib.Bytes l) (hl : l.length ≤ 9223372036854775807) : ∃ a q, Ev (fun k => spec_DrawEndOk.f k l) (a, q) := by
  obtain ⟨b, h0, hb, hl⟩ := open_eq l hb hl
  obtain ⟨a, q, p', ⟨K1, e1⟩, _⟩ := end_ev b hb hl 0 2 (by omega) (by omega) (by omega) (by omega)
  dsimp only at e1
  refine ⟨a, q, ⟨K1, fun k hk => ?_⟩⟩
  dsimp only
  unfold spec_DrawEndOk.f
  rw [h0]; simp only [Option.bind_some]
  rw [e1 k hk]; rfl
end Go.Proofs.Ytndfmhcfeojahaa.QFnEndOk
