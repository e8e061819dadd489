/- What the reference's draws and functions that this law reaches come to: plain lemmas on the printed functions. -/
import Derived.Test.YtlofgoahgnllkaaDoorQFnLinSaysx8
import Derived.Test.YtlofgoahgnllkaaDoorEnds
import Derived.Test.YtlofgoahgnllkaaDoorLib
import Derived.Laws.BitsLemmas
set_option linter.unusedVariables false
set_option linter.unusedSimpArgs false
namespace Go.Proofs.YtlofgoahgnllkaaDoor.QFnLinSays
open Go.RowKit Go.Proofs.YtlofgoahgnllkaaDoorW.PrintWords Go.Proofs.YtlofgoahgnllkaaDoorW.PrintLast Go.Proofs.YtlofgoahgnllkaaDoorW.PrintMore
open Go.Proofs.YtlofgoahgnllkaaDoor
open Go.Proofs.YtlofgoahgnllkaaDoor.Ends
theorem xor_nonneg (a b : Int) (h0 : 0 ≤ a) (h1 : a < 4611686018427387904) (h2 : 0 ≤ b) (h3 : b < 4611686018427387904) : 0 ≤ Go.bits .xor .i64 a b := by
  obtain ⟨m, rfl⟩ := Int.eq_ofNat_of_zero_le h0
  obtain ⟨n, rfl⟩ := Int.eq_ofNat_of_zero_le h2
  have hm : m % 2 ^ 64 = m := Nat.mod_eq_of_lt (by omega)
  have hn : n % 2 ^ 64 = n := Nat.mod_eq_of_lt (by omega)
  have hx : m ^^^ n < 2 ^ 62 := Nat.xor_lt_two_pow (by omega) (by omega)
  have e : Go.bits .xor .i64 (m : Int) (n : Int) = IntKind.i64.wrap ((m ^^^ n : Nat) : Int) := by
    have hb : (BitVec.ofNat 64 m ^^^ BitVec.ofNat 64 n).toNat = m ^^^ n := by rw [BitVec.toNat_xor, BitVec.toNat_ofNat, BitVec.toNat_ofNat, hm, hn]
    simp only [bits, IntKind.bits, BitVec.ofInt_natCast]
    exact congrArg (fun z : Nat => IntKind.i64.wrap (z : Int)) hb
  rw [e, IntKind.wrap_i64]
  omega
theorem pick_ev (b : List Int) (hb : Lib.Bytes b) (hl : b.length ≤ 2000) (p n : Int) (h0 : 0 ≤ p) (h1 : p ≤ 1000000) (hn : 1 ≤ n) :
    ∃ v, Ev (fun k => spec_l20Rd_pick.f k b p n) (v, p + 1) ∧ 0 ≤ v ∧ v < n := by
  have go : ∀ v, spec_l20Rd_pick.f 1 b p n = some (v, p + 1) → 0 ≤ v → v < n → ∃ v, Ev (fun k => spec_l20Rd_pick.f k b p n) (v, p + 1) ∧ 0 ≤ v ∧ v < n :=
    fun v h a c => ⟨v, Ev.of (spec_l20Rd_pick.mono b p n) h, a, c⟩
  have e1 : wrap64 (p + 1) = p + 1 := Lib.wrap_id (by omega) (by omega)
  have e2 : wrap64 (p + 1 - 1) = p := by rw [Lib.wrap_id (by omega) (by omega)]; omega
  by_cases hz : b.length = 0
  · refine go 0 ?_ (by omega) (by omega)
    unfold spec_l20Rd_pick.f
    rw [if_neg (by omega), spec_l20Rd_pick.j0, if_pos (by simp [hz]), e1]
  · have e3 : ((b.length : Int) == 0) = false := by rw [beq_eq_false_iff_ne]; omega
    by_cases hp : p < (b.length : Int)
    · obtain ⟨i, rfl⟩ := Int.eq_ofNat_of_zero_le h0
      have hr := Lib.bytes_rd hb i
      refine go (rd b (i : Int) % n) ?_ (Int.emod_nonneg _ (by omega)) (Int.emod_lt_of_pos _ (by omega))
      unfold spec_l20Rd_pick.f
      rw [if_neg (by omega), spec_l20Rd_pick.j0, if_neg (by rw [e3]; decide), e1, e2, if_pos hp, if_pos (by omega), if_neg (by omega), Lib.wrap_id (x := rd b (i : Int)) (by omega) (by omega), Int.tmod_eq_emod_of_nonneg (by omega)]
    · have hL : (0 : Int) < (b.length : Int) := by omega
      have q1 : Int.tmod p (b.length : Int) = p % (b.length : Int) := Int.tmod_eq_emod_of_nonneg (by omega)
      have w1 : wrap64 (p * 7) = p * 7 := Lib.wrap_id (by omega) (by omega)
      have w2 : wrap64 (p * 7 + 3) = p * 7 + 3 := Lib.wrap_id (by omega) (by omega)
      have q2 : Int.tmod (p * 7 + 3) (b.length : Int) = (p * 7 + 3) % (b.length : Int) := Int.tmod_eq_emod_of_nonneg (by omega)
      have m1 := Int.emod_nonneg p (show (b.length : Int) ≠ 0 by omega)
      have m2 := Int.emod_lt_of_pos p hL
      have m3 := Int.emod_nonneg (p * 7 + 3) (show (b.length : Int) ≠ 0 by omega)
      have m4 := Int.emod_lt_of_pos (p * 7 + 3) hL
      obtain ⟨i, hi⟩ := Int.eq_ofNat_of_zero_le m1
      obtain ⟨j, hj⟩ := Int.eq_ofNat_of_zero_le m3
      have r1 := Lib.bytes_rd hb i
      have r2 := Lib.bytes_rd hb j
      rw [← hi] at r1
      rw [← hj] at r2
      have d1 : Int.tdiv p (b.length : Int) = p / (b.length : Int) := Int.tdiv_eq_ediv_of_nonneg h0
      have d2 : 0 ≤ p / (b.length : Int) := Int.ediv_nonneg h0 (by omega)
      have d3 : p / (b.length : Int) ≤ p := Int.ediv_le_self _ h0
      obtain ⟨u, hu⟩ : ∃ u, u = rd b (p % (b.length : Int)) := ⟨_, rfl⟩
      obtain ⟨v, hv⟩ : ∃ v, v = rd b ((p * 7 + 3) % (b.length : Int)) := ⟨_, rfl⟩
      obtain ⟨q, hq⟩ : ∃ q, q = p / (b.length : Int) := ⟨_, rfl⟩
      rw [← hu] at r1
      rw [← hv] at r2
      rw [← hq] at d2 d3
      have x0 : wrap64 (wrap64 (wrap64 (wrap64 (wrap64 u * 131) + wrap64 (wrap64 v * 1117)) + wrap64 (p * 29)) + wrap64 (wrap64 q * 53)) = u * 131 + v * 1117 + p * 29 + q * 53 := by
        rw [Lib.wrap_id (x := u) (by omega) (by omega), Lib.wrap_id (x := v) (by omega) (by omega), Lib.wrap_id (x := q) (by omega) (by omega), Lib.wrap_id (x := u * 131) (by omega) (by omega), Lib.wrap_id (x := v * 1117) (by omega) (by omega),
          Lib.wrap_id (x := p * 29) (by omega) (by omega), Lib.wrap_id (x := q * 53) (by omega) (by omega), Lib.wrap_id (x := u * 131 + v * 1117) (by omega) (by omega), Lib.wrap_id (x := u * 131 + v * 1117 + p * 29) (by omega) (by omega), Lib.wrap_id (by omega) (by omega)]
      obtain ⟨X, hX⟩ : ∃ X, X = u * 131 + v * 1117 + p * 29 + q * 53 := ⟨_, rfl⟩
      have X0 : 0 ≤ X := by omega
      have X1 : X < 4611686018427387904 := by omega
      have x1 : wrap64 (Int.tdiv X 64) = X / 64 := by rw [Int.tdiv_eq_ediv_of_nonneg X0, Lib.wrap_id (by omega) (by omega)]
      have hx := xor_nonneg X (X / 64) X0 X1 (by omega) (by omega)
      refine go (Go.bits .xor .i64 X (X / 64) % n) ?_ (Int.emod_nonneg _ (by omega)) (Int.emod_lt_of_pos _ (by omega))
      unfold spec_l20Rd_pick.f
      rw [if_neg (by omega), spec_l20Rd_pick.j0, if_neg (by rw [e3]; decide), e1, e2, if_neg hp, if_neg (by omega), w1, w2, q1, q2, if_pos m1, if_pos m2, if_pos m3, if_pos m4, if_neg (by omega), d1, ← hu, ← hv, ← hq, x0, ← hX, x1, Int.tmod_eq_emod_of_nonneg hx]
theorem open_eq (l : List Int) (hb : Lib.Bytes l) (hl : l.length ≤ 9223372036854775807) : ∃ b, spec_l20Open.f l = some (b, 0) ∧ Lib.Bytes b ∧ b.length ≤ 2000 := by
  unfold spec_l20Open.f
  by_cases c : (l.length : Int) > 2000
  · exact ⟨l.take 2000, by rw [if_pos c, if_pos (by omega)], fun x hx => hb x (List.mem_of_mem_take hx), by simp; omega⟩
  · exact ⟨l, by rw [if_neg c], hb, by omega⟩
theorem in_ev (b : List Int) (hb : Lib.Bytes b) (hl : b.length ≤ 2000) (p : Int) (h0 : 0 ≤ p) (h1 : p ≤ 999000) :
    ∃ a q, Ev (fun k => spec_l20In.f k b p) (a, q, p + 3) ∧ 1 ≤ a ∧ a ≤ 4 ∧ 1 ≤ q ∧ q ≤ 999 := by
  obtain ⟨v1, ⟨K1, e1⟩, a1, b1⟩ := pick_ev b hb hl p 4 h0 (by omega) (by omega)
  obtain ⟨v2, ⟨K2, e2⟩, a2, b2⟩ := pick_ev b hb hl (p + 1) 40 (by omega) (by omega) (by omega)
  obtain ⟨v3, ⟨K3, e3⟩, a3, b3⟩ := pick_ev b hb hl (p + 1 + 1) 5 (by omega) (by omega) (by omega)
  have hr : 1 ≤ rd [7, 20, 300, 999, wrap64 (1 + v2)] v3 ∧ rd [7, 20, 300, 999, wrap64 (1 + v2)] v3 ≤ 999 := by
    rw [Lib.wrap_id (x := 1 + v2) (by omega) (by omega)]
    rcases (by omega : v3 = 0 ∨ v3 = 1 ∨ v3 = 2 ∨ v3 = 3 ∨ v3 = 4) with rfl | rfl | rfl | rfl | rfl <;> simp [rd] <;> omega
  refine ⟨1 + v1, rd [7, 20, 300, 999, wrap64 (1 + v2)] v3, ⟨K1 + K2 + K3, fun k hk => ?_⟩, by omega, by omega, hr.1, hr.2⟩
  dsimp only at e1 e2 e3 ⊢
  unfold spec_l20In.f
  rw [e1 k (by omega)]; simp only [Option.bind_some]
  rw [e2 k (by omega)]; simp only [Option.bind_some]
  rw [e3 k (by omega)]; simp only [Option.bind_some]
  rw [if_pos a3, if_pos (by simpa using b3), Lib.wrap_id (x := 1 + v1) (by omega) (by omega), show p + 1 + 1 + 1 = p + 3 by omega]
theorem out_ev (b : List Int) (hb : Lib.Bytes b) (hl : b.length ≤ 2000) (p : Int) (h0 : 0 ≤ p) (h1 : p ≤ 999000) :
    ∃ a q, Ev (fun k => spec_l20Out.f k b p) (a, q, p + 2) ∧ 100 ≤ a ∧ a ≤ 102 ∧ 1 ≤ q ∧ q ≤ 80 := by
  obtain ⟨v1, ⟨K1, e1⟩, a1, b1⟩ := pick_ev b hb hl p 3 h0 (by omega) (by omega)
  obtain ⟨v2, ⟨K2, e2⟩, a2, b2⟩ := pick_ev b hb hl (p + 1) 4 (by omega) (by omega) (by omega)
  have hr : 1 ≤ rd [21, 21, 80, 7] v2 ∧ rd [21, 21, 80, 7] v2 ≤ 80 := by
    rcases (by omega : v2 = 0 ∨ v2 = 1 ∨ v2 = 2 ∨ v2 = 3) with rfl | rfl | rfl | rfl <;> simp [rd]
  refine ⟨100 + v1, rd [21, 21, 80, 7] v2, ⟨K1 + K2, fun k hk => ?_⟩, by omega, by omega, hr.1, hr.2⟩
  dsimp only at e1 e2 ⊢
  unfold spec_l20Out.f
  rw [e1 k (by omega)]; simp only [Option.bind_some]
  rw [e2 k (by omega)]; simp only [Option.bind_some]
  rw [if_pos a2, if_pos (by simpa using b2), Lib.wrap_id (x := 100 + v1) (by omega) (by omega), show p + 1 + 1 = p + 2 by omega]
def lines1 : List ByteArray := [(⟨#[]⟩ : ByteArray), (⟨#[108, 105, 115, 116]⟩ : ByteArray), (⟨#[117, 115, 101, 114, 32, 97]⟩ : ByteArray), (⟨#[112, 111, 114, 116, 32, 53, 48, 32, 53, 48, 48]⟩ : ByteArray), (⟨#[112, 111, 114, 116, 32, 49, 48, 48, 32, 57]⟩ : ByteArray), (⟨#[112, 111, 114, 116, 32, 48, 49, 32, 50]⟩ : ByteArray), (⟨#[112, 111, 114, 116, 32, 49]⟩ : ByteArray), (⟨#[97, 98, 99, 100, 101, 102, 103, 104, 105, 106, 32, 107, 108, 109, 110, 111]⟩ : ByteArray), (⟨#[112, 111, 114, 116]⟩ : ByteArray), (⟨#[112, 111, 114, 116, 32, 49, 32, 50, 32, 51]⟩ : ByteArray)]
def lines2 : List ByteArray := [(⟨#[97]⟩ : ByteArray), (⟨#[98, 98]⟩ : ByteArray), (⟨#[103, 101, 116, 32, 102, 105, 108, 101, 49]⟩ : ByteArray), (⟨#[113, 117, 105, 116]⟩ : ByteArray)]
/-- A drawn line: it is short; and, where it is asked, what its bytes are. -/
theorem line_ev (b : List Int) (hb : Lib.Bytes b) (hl : b.length ≤ 2000) (p : Int) (h0 : 0 ≤ p) (h1 : p ≤ 990000) :
    ∃ t p', Ev (fun k => spec_l20Line.f k b p) (t, p') ∧ t.size ≤ 16 ∧ p < p' ∧ p' ≤ p + 4 := by
  obtain ⟨v1, ⟨K1, e1⟩, a1, b1⟩ := pick_ev b hb hl p 3 h0 (by omega) (by omega)
  dsimp only at e1
  by_cases c1 : v1 = 0
  · obtain ⟨a, q, ⟨K2, e2⟩, g1, g2, g3, g4⟩ := in_ev b hb hl (p + 1) (by omega) (by omega)
    obtain ⟨K3, e3⟩ := linport_ev a q (by unfold endOkP; omega)
    dsimp only at e2 e3
    refine ⟨portT a q, p + 1 + 3, ⟨K1 + K2 + K3, fun k hk => ?_⟩, by have := portT_size a q; omega, by omega, by omega⟩
    dsimp only
    unfold spec_l20Line.f
    rw [e1 k (by omega)]; simp only [Option.bind_some]
    rw [if_pos c1, e2 k (by omega)]; simp only [Option.bind_some]
    rw [e3 k (by omega)]; rfl
  · by_cases c2 : v1 = 1
    · obtain ⟨v2, ⟨K2, e2⟩, a2, b2⟩ := pick_ev b hb hl (p + 1) 10 (by omega) (by omega) (by omega)
      dsimp only at e2
      refine ⟨rdOf ByteArray.empty lines1 v2, p + 1 + 1, ⟨K1 + K2, fun k hk => ?_⟩, ?_, by omega, by omega⟩
      · dsimp only
        unfold spec_l20Line.f
        rw [e1 k (by omega)]; simp only [Option.bind_some]
        rw [if_neg c1, if_pos c2, e2 k (by omega)]; simp only [Option.bind_some]
        rw [if_pos a2, if_pos (by simpa using b2)]; rfl
      · rcases (by omega : v2 = 0 ∨ v2 = 1 ∨ v2 = 2 ∨ v2 = 3 ∨ v2 = 4 ∨ v2 = 5 ∨ v2 = 6 ∨ v2 = 7 ∨ v2 = 8 ∨ v2 = 9) with rfl | rfl | rfl | rfl | rfl | rfl | rfl | rfl | rfl | rfl <;> decide
    · obtain ⟨v2, ⟨K2, e2⟩, a2, b2⟩ := pick_ev b hb hl (p + 1) 4 (by omega) (by omega) (by omega)
      dsimp only at e2
      refine ⟨rdOf ByteArray.empty lines2 v2, p + 1 + 1, ⟨K1 + K2, fun k hk => ?_⟩, ?_, by omega, by omega⟩
      · dsimp only
        unfold spec_l20Line.f
        rw [e1 k (by omega)]; simp only [Option.bind_some]
        rw [if_neg c1, if_neg c2, e2 k (by omega)]; simp only [Option.bind_some]
        rw [if_pos a2, if_pos (by simpa using b2)]; rfl
      · rcases (by omega : v2 = 0 ∨ v2 = 1 ∨ v2 = 2 ∨ v2 = 3) with rfl | rfl | rfl | rfl <;> decide
theorem ext_size (s : ByteArray) (i j : Nat) : (s.extract i j).size = min j s.size - i := by rw [ByteArray.size_extract]
theorem nums_size1 (x : Int) : (strOfNums [x]).size = 1 := rfl
theorem bent_ev (b : List Int) (hb : Lib.Bytes b) (hl : b.length ≤ 2000) (p : Int) (h0 : 0 ≤ p) (h1 : p ≤ 990000) (s : ByteArray) (hs : s.size ≤ 1000000) :
    ∃ t, Ev (fun k => spec_l20Bent.f k b p s) (t, p + 4) ∧ t.size ≤ s.size + 1 := by
  obtain ⟨v1, ⟨K1, e1⟩, a1, b1⟩ := pick_ev b hb hl p ((s.size : Int) + 1) h0 (by omega) (by omega)
  obtain ⟨v2, ⟨K2, e2⟩, a2, b2⟩ := pick_ev b hb hl (p + 1) 256 (by omega) (by omega) (by omega)
  obtain ⟨v3, ⟨K3, e3⟩, a3, b3⟩ := pick_ev b hb hl (p + 1 + 1) 8 (by omega) (by omega) (by omega)
  obtain ⟨v4, ⟨K4, e4⟩, a4, b4⟩ := pick_ev b hb hl (p + 1 + 1 + 1) 3 (by omega) (by omega) (by omega)
  dsimp only at e1 e2 e3 e4
  have w0 : wrap64 ((s.size : Int) + 1) = (s.size : Int) + 1 := Lib.wrap_id (by omega) (by omega)
  have w1 : wrap64 (v1 + 1) = v1 + 1 := Lib.wrap_id (by omega) (by omega)
  have hp : p + 1 + 1 + 1 + 1 = p + 4 := by omega
  obtain ⟨c, hc⟩ : ∃ c, c = strOfNums [rd [32, 48, 49, 57, 59, 97, 112, v2] v3 % 256] := ⟨_, rfl⟩
  have hc1 : c.size = 1 := by rw [hc]; rfl
  by_cases c0 : v4 = 0
  · refine ⟨s.extract 0 v1.toNat ++ c ++ s.extract v1.toNat s.size, ⟨K1 + K2 + K3 + K4, fun k hk => ?_⟩, ?_⟩
    · dsimp only
      unfold spec_l20Bent.f
      rw [w0, e1 k (by omega)]; simp only [Option.bind_some]
      rw [e2 k (by omega)]; simp only [Option.bind_some]
      rw [e3 k (by omega)]; simp only [Option.bind_some]
      rw [if_pos a3, if_pos (by simpa using b3), e4 k (by omega)]; simp only [Option.bind_some]
      rw [if_pos c0, if_pos a1, if_pos (by omega), ← hc]
      rw [if_pos (by rw [ext_size, hc1]; omega), if_pos (by rw [ByteArray.size_append, ext_size, ext_size, hc1]; omega), hp]
    · rw [ByteArray.size_append, ByteArray.size_append, ext_size, ext_size, hc1]; omega
  · by_cases c1 : v4 = 1
    · by_cases c2 : v1 < (s.size : Int)
      · refine ⟨s.extract 0 v1.toNat ++ s.extract (v1 + 1).toNat s.size, ⟨K1 + K2 + K3 + K4, fun k hk => ?_⟩, ?_⟩
        · dsimp only
          unfold spec_l20Bent.f
          rw [w0, e1 k (by omega)]; simp only [Option.bind_some]
          rw [e2 k (by omega)]; simp only [Option.bind_some]
          rw [e3 k (by omega)]; simp only [Option.bind_some]
          rw [if_pos a3, if_pos (by simpa using b3), e4 k (by omega)]; simp only [Option.bind_some]
          rw [if_neg c0, if_pos c1, if_pos c2, if_pos a1, if_pos (by omega), w1, if_pos (by omega), if_pos (by omega)]
          rw [if_pos (by rw [ext_size, ext_size]; omega), hp]
        · rw [ByteArray.size_append, ext_size, ext_size]; omega
      · refine ⟨s, ⟨K1 + K2 + K3 + K4, fun k hk => ?_⟩, by omega⟩
        dsimp only
        unfold spec_l20Bent.f
        rw [w0, e1 k (by omega)]; simp only [Option.bind_some]
        rw [e2 k (by omega)]; simp only [Option.bind_some]
        rw [e3 k (by omega)]; simp only [Option.bind_some]
        rw [if_pos a3, if_pos (by simpa using b3), e4 k (by omega)]; simp only [Option.bind_some]
        rw [if_neg c0, if_pos c1, if_neg c2, hp]
    · by_cases c2 : v1 < (s.size : Int)
      · refine ⟨s.extract 0 v1.toNat ++ c ++ s.extract (v1 + 1).toNat s.size, ⟨K1 + K2 + K3 + K4, fun k hk => ?_⟩, ?_⟩
        · dsimp only
          unfold spec_l20Bent.f
          rw [w0, e1 k (by omega)]; simp only [Option.bind_some]
          rw [e2 k (by omega)]; simp only [Option.bind_some]
          rw [e3 k (by omega)]; simp only [Option.bind_some]
          rw [if_pos a3, if_pos (by simpa using b3), e4 k (by omega)]; simp only [Option.bind_some]
          rw [if_neg c0, if_neg c1, if_pos c2, if_pos a1, if_pos (by omega), ← hc]
          rw [if_pos (by rw [ext_size, hc1]; omega), w1, if_pos (by omega), if_pos (by omega), if_pos (by rw [ByteArray.size_append, ext_size, ext_size, hc1]; omega), hp]
        · rw [ByteArray.size_append, ByteArray.size_append, ext_size, ext_size, hc1]; omega
      · refine ⟨s, ⟨K1 + K2 + K3 + K4, fun k hk => ?_⟩, by omega⟩
        dsimp only
        unfold spec_l20Bent.f
        rw [w0, e1 k (by omega)]; simp only [Option.bind_some]
        rw [e2 k (by omega)]; simp only [Option.bind_some]
        rw [e3 k (by omega)]; simp only [Option.bind_some]
        rw [if_pos a3, if_pos (by simpa using b3), e4 k (by omega)]; simp only [Option.bind_some]
        rw [if_neg c0, if_neg c1, if_neg c2, hp]
def lines3 : List ByteArray := [(⟨#[97, 98, 99, 100, 101, 102, 103, 104, 105, 106, 32, 107, 108, 109, 110, 111, 112]⟩ : ByteArray), (⟨#[65]⟩ : ByteArray), (⟨#[97, 59, 98]⟩ : ByteArray), (⟨#[10]⟩ : ByteArray), (⟨#[97, 98, 99, 100, 101, 102, 103, 104, 105, 106, 32, 107, 108, 109, 110, 111]⟩ : ByteArray)]
theorem drawlinok_ev (l : List Int) (hb : Lib.Bytes l) (hl : l.length ≤ 9223372036854775807) : ∃ t, Ev (fun k => spec_DrawLinOk.f k l) t ∧ t.size ≤ 17 := by
  obtain ⟨b, h0, hb, hl⟩ := open_eq l hb hl
  obtain ⟨t1, p1, ⟨K1, e1⟩, s1, g1, g2⟩ := line_ev b hb hl 0 (by omega) (by omega)
  obtain ⟨v2, ⟨K2, e2⟩, a2, b2⟩ := pick_ev b hb hl p1 4 (by omega) (by omega) (by omega)
  dsimp only at e1 e2
  by_cases c0 : v2 = 0
  · obtain ⟨v3, ⟨K3, e3⟩, a3, b3⟩ := pick_ev b hb hl (p1 + 1) 5 (by omega) (by omega) (by omega)
    dsimp only at e3
    refine ⟨rdOf ByteArray.empty lines3 v3, ⟨K1 + K2 + K3, fun k hk => ?_⟩, ?_⟩
    · dsimp only
      unfold spec_DrawLinOk.f
      rw [h0]; simp only [Option.bind_some]
      rw [e1 k (by omega)]; simp only [Option.bind_some]
      rw [e2 k (by omega)]; simp only [Option.bind_some]
      rw [if_pos c0, e3 k (by omega)]; simp only [Option.bind_some]
      rw [if_pos a3, if_pos (by simpa using b3)]; rfl
    · rcases (by omega : v3 = 0 ∨ v3 = 1 ∨ v3 = 2 ∨ v3 = 3 ∨ v3 = 4) with rfl | rfl | rfl | rfl | rfl <;> decide
  · by_cases c1 : v2 = 1
    · obtain ⟨t2, ⟨K3, e3⟩, s2⟩ := bent_ev b hb hl (p1 + 1) (by omega) (by omega) t1 (by omega)
      dsimp only at e3
      refine ⟨t2, ⟨K1 + K2 + K3, fun k hk => ?_⟩, by omega⟩
      dsimp only
      unfold spec_DrawLinOk.f
      rw [h0]; simp only [Option.bind_some]
      rw [e1 k (by omega)]; simp only [Option.bind_some]
      rw [e2 k (by omega)]; simp only [Option.bind_some]
      rw [if_neg c0, if_pos c1, e3 k (by omega)]; rfl
    · refine ⟨t1, ⟨K1 + K2, fun k hk => ?_⟩, by omega⟩
      dsimp only
      unfold spec_DrawLinOk.f
      rw [h0]; simp only [Option.bind_some]
      rw [e1 k (by omega)]; simp only [Option.bind_some]
      rw [e2 k (by omega)]; simp only [Option.bind_some]
      rw [if_neg c0, if_neg c1]
theorem odd_ev (b : List Int) (hb : Lib.Bytes b) (hl : b.length ≤ 2000) (p n : Int) (h0 : 0 ≤ p) (h1 : p ≤ 1000000) (hn : 1 ≤ n) (hn2 : n ≤ 1000000) :
    ∃ v p', Ev (fun k => spec_l20Rd_odd.f k b p n) (v, p') ∧ p ≤ p' ∧ p' ≤ p + 1 ∧ (9000 ≤ n → v = false ∧ p' = p) := by
  by_cases c : n < 9000
  · obtain ⟨v, ⟨K, e⟩, _, _⟩ := pick_ev b hb hl p n h0 h1 hn
    dsimp only at e
    refine ⟨v == wrap64 (n - 1), p + 1, ⟨K, fun k hk => ?_⟩, by omega, by omega, fun h => by omega⟩
    dsimp only
    unfold spec_l20Rd_odd.f
    rw [if_pos c, e k hk]; rfl
  · refine ⟨false, p, ⟨0, fun k hk => ?_⟩, by omega, by omega, fun _ => ⟨rfl, rfl⟩⟩
    dsimp only
    unfold spec_l20Rd_odd.f
    rw [if_neg c]
theorem end_ev (b : List Int) (hb : Lib.Bytes b) (hl : b.length ≤ 2000) (p n : Int) (h0 : 0 ≤ p) (h1 : p ≤ 900000) (hn : 1 ≤ n) (hn2 : n ≤ 1000000) :
    ∃ a q p', Ev (fun k => spec_l20End.f k b p n) (a, q, p') ∧ p ≤ p' ∧ p' ≤ p + 10 ∧ -1 ≤ a ∧ a ≤ 110 ∧ -1 ≤ q ∧ q ≤ 1000 ∧ (9000 ≤ n → endOkP a q) := by
  obtain ⟨v0, p0, ⟨K0, e0⟩, g0, g1, g2⟩ := odd_ev b hb hl p n h0 (by omega) hn hn2
  dsimp only at e0
  cases v0 with
  | true =>
    obtain ⟨v1, ⟨K1, e1⟩, a1, b1⟩ := pick_ev b hb hl p0 6 (by omega) (by omega) (by omega)
    dsimp only at e1
    obtain ⟨xs, hxs⟩ : ∃ xs : List (S43), xs = [(⟨0, 0⟩ : S43), (⟨10, 5⟩ : S43), (⟨1, 0⟩ : S43), (⟨1, 1000⟩ : S43), (⟨110, 3⟩ : S43), (⟨(-1), (-1)⟩ : S43)] := ⟨_, rfl⟩
    have hr : -1 ≤ (rd_T43 xs v1).f0 ∧ (rd_T43 xs v1).f0 ≤ 110 ∧ -1 ≤ (rd_T43 xs v1).f1 ∧ (rd_T43 xs v1).f1 ≤ 1000 := by
      rw [hxs]
      rcases (by omega : v1 = 0 ∨ v1 = 1 ∨ v1 = 2 ∨ v1 = 3 ∨ v1 = 4 ∨ v1 = 5) with rfl | rfl | rfl | rfl | rfl | rfl <;> decide
    refine ⟨(rd_T43 xs v1).f0, (rd_T43 xs v1).f1, p0 + 1, ⟨K0 + K1, fun k hk => ?_⟩, by omega, by omega, hr.1, hr.2.1, hr.2.2.1, hr.2.2.2, fun h => by have := (g2 h).1; cases this⟩
    dsimp only
    unfold spec_l20End.f
    rw [e0 k (by omega)]; simp only [Option.bind_some, if_true]
    rw [e1 k (by omega)]; simp only [Option.bind_some]
    rw [if_pos a1, if_pos (by simpa using b1), hxs]
  | false =>
    obtain ⟨a1, q1, ⟨K1, e1⟩, i1, i2, i3, i4⟩ := in_ev b hb hl p0 (by omega) (by omega)
    obtain ⟨a2, q2, ⟨K2, e2⟩, j1, j2, j3, j4⟩ := out_ev b hb hl (p0 + 3) (by omega) (by omega)
    obtain ⟨v3, ⟨K3, e3⟩, a3, b3⟩ := pick_ev b hb hl (p0 + 3 + 2) 7 (by omega) (by omega) (by omega)
    obtain ⟨v4, ⟨K4, e4⟩, a4, b4⟩ := pick_ev b hb hl (p0 + 3 + 2 + 1) 3 (by omega) (by omega) (by omega)
    dsimp only at e1 e2 e3 e4
    obtain ⟨xs, hxs⟩ : ∃ xs : List (S43), xs = [(⟨a1, q1⟩ : S43), (⟨a2, q2⟩ : S43), (⟨50, wrap64 (500 + v3)⟩ : S43)] := ⟨_, rfl⟩
    have hr : endOkP (rd_T43 xs v4).f0 (rd_T43 xs v4).f1 := by
      rw [hxs, Lib.wrap_id (x := 500 + v3) (by omega) (by omega)]
      rcases (by omega : v4 = 0 ∨ v4 = 1 ∨ v4 = 2) with rfl | rfl | rfl <;> simp [rd_T43, endOkP] <;> omega
    have hr2 := hr
    unfold endOkP at hr2
    refine ⟨(rd_T43 xs v4).f0, (rd_T43 xs v4).f1, p0 + 3 + 2 + 1 + 1, ⟨K0 + K1 + K2 + K3 + K4, fun k hk => ?_⟩, by omega, by omega, by omega, by omega, by omega, by omega, fun _ => hr⟩
    dsimp only
    unfold spec_l20End.f
    rw [e0 k (by omega)]; simp only [Option.bind_some]
    rw [if_neg (by decide), e1 k (by omega)]; simp only [Option.bind_some]
    rw [e2 k (by omega)]; simp only [Option.bind_some]
    rw [e3 k (by omega)]; simp only [Option.bind_some]
    rw [e4 k (by omega)]; simp only [Option.bind_some]
    rw [if_pos a4, if_pos (by simpa using b4), hxs]
/-! the reference's reading is total -/
theorem plain_tot : ∀ (k : Nat) (n : Int) (x : ByteArray), k ≤ 3 → 0 ≤ n → n ≤ (if k = 0 then 9 else if k = 1 then 99 else if k = 2 then 999 else 9999) → x.size + k ≤ 100 → ∃ t, spec_l1Plain.l0 (k + 1) n x = some t := by
  intro k
  induction k with
  | zero => intro n x _ h0 h1 hx; exact ⟨_, plain_last 0 n x h0 (by simpa using h1) (by omega)⟩
  | succ k ih =>
    intro n x hk h0 h1 hx
    by_cases c : 9 < n
    · have hn : n ≤ 9999 := by split at h1 <;> (try split at h1) <;> (try split at h1) <;> omega
      rw [plain_step (k + 1) n x c (by omega) (by omega)]
      refine ih (n / 10) _ (by omega) (by omega) ?_ (by rw [ByteArray.size_append]; show 1 + x.size + k ≤ 100; omega)
      match k, hk with
      | 0, _ => simp at h1 ⊢; omega
      | 1, _ => simp at h1 ⊢; omega
      | 2, _ => simp at h1 ⊢; omega
    · exact ⟨_, plain_last (k + 1) n x h0 (by omega) (by omega)⟩
theorem plain_all (n : Int) (h0 : 0 ≤ n) (h1 : n ≤ 9999) (k : Nat) (hk : 4 ≤ k) : ∃ t, spec_l1Plain.f k n = some t := by
  obtain ⟨t, ht⟩ := plain_tot 3 n ⟨#[]⟩ (by omega) h0 (by simpa using h1) (by show 0 + 3 ≤ 100; omega)
  exact ⟨t, at_rounds (g := fun k => spec_l1Plain.f k n) (spec_l1Plain.mono n) hk ht⟩
theorem num_tot (w : ByteArray) (hw : w.size ≤ 4) : ∀ (m i k : Nat) (n : Int), i + m = w.size → 0 ≤ n → n ≤ (if m = 0 then 9999 else if m = 1 then 999 else if m = 2 then 99 else if m = 3 then 9 else 0) → m + 5 ≤ k → ∃ v, spec_l1Num.l0 k w n (i : Int) = some v := by
  intro m
  induction m with
  | zero =>
    intro i k n hi h0 h1 hk
    obtain ⟨k, rfl⟩ : ∃ j, k = j + 1 := ⟨k - 1, by omega⟩
    rw [spec_l1Num.l0, if_neg (by omega)]
    obtain ⟨t, ht⟩ := plain_all n h0 (by simpa using h1) k (by omega)
    rw [ht, Option.bind_some]
    by_cases c : t.toList = w.toList
    · rw [if_pos c]; exact ⟨_, rfl⟩
    · rw [if_neg c]; exact ⟨_, rfl⟩
  | succ m ih =>
    intro i k n hi h0 h1 hk
    obtain ⟨k, rfl⟩ : ∃ j, k = j + 1 := ⟨k - 1, by omega⟩
    have hn : n ≤ 9999 := by split at h1 <;> (try split at h1) <;> (try split at h1) <;> (try split at h1) <;> omega
    by_cases c2 : bt w (i : Int) < 48
    · exact ⟨-1, by rw [spec_l1Num.l0, if_pos (by omega), if_pos (by omega), if_pos c2]⟩
    · by_cases c3 : bt w (i : Int) > 57
      · exact ⟨-1, by rw [spec_l1Num.l0, if_pos (by omega), if_pos (by omega), if_neg c2, if_pos c3]⟩
      · have hm : m ≤ 3 := by omega
        obtain ⟨d, hd⟩ : ∃ d, d = bt w (i : Int) - 48 := ⟨_, rfl⟩
        rw [num_step k w n i d (by omega) (by omega) (by omega) (by omega) (by omega) h0 (by omega)]
        refine ih (i + 1) k _ (by omega) (by omega) ?_ (by omega)
        match m, hm with
        | 0, _ => simp at h1 ⊢; omega
        | 1, _ => simp at h1 ⊢; omega
        | 2, _ => simp at h1 ⊢; omega
        | 3, _ => simp at h1 ⊢; omega
theorem num_all (w : ByteArray) (k : Nat) (hk : 12 ≤ k) : ∃ v, spec_l1Num.f k w = some v := by
  obtain ⟨k, rfl⟩ : ∃ j, k = j + 1 := ⟨k - 1, by omega⟩
  have h1 : spec_l1Num.j0 (k + 1) w true = some (-1) := by rw [spec_l1Num.j0, if_pos rfl]
  unfold spec_l1Num.f
  by_cases c : (w.size : Int) = 0
  · rw [if_pos c]; exact ⟨_, h1⟩
  · rw [if_neg c]
    by_cases c4 : (w.size : Int) > 4
    · rw [decide_eq_true c4]; exact ⟨_, h1⟩
    · rw [decide_eq_false c4, spec_l1Num.j0, if_neg (by decide)]
      refine num_tot w (by omega) w.size 0 k 0 (Nat.zero_add _) (by omega) ?_ (by omega)
      split <;> (try split) <;> (try split) <;> (try split) <;> omega
theorem read_all (s : ByteArray) (hs : s.size ≤ 1048576) (k : Nat) (hk : s.size + 20 ≤ k) : ∃ r, spec_EndRead.f k s = some r := by
  unfold spec_EndRead.f spec_l1Words.f
  have hw := words_all s hs s.size 0 k [] ⟨#[]⟩ (Nat.zero_add _) (Nat.zero_le _) (by show 0 ≤ 0; omega) (by omega)
  rw [show ((0 : Nat) : Int) = 0 from rfl] at hw
  rw [hw, Option.bind_some]
  by_cases c : (([] ++ wds s s.size ⟨#[]⟩ 0 : List ByteArray).length : Int) = 2
  · rw [if_pos c, if_pos (by omega)]
    obtain ⟨v1, e1⟩ := num_all (rdOf ByteArray.empty ([] ++ wds s s.size ⟨#[]⟩ 0) 0) k (by omega)
    obtain ⟨v2, e2⟩ := num_all (rdOf ByteArray.empty ([] ++ wds s s.size ⟨#[]⟩ 0) 1) k (by omega)
    rw [e1, Option.bind_some, if_pos (by omega), e2, Option.bind_some, spec_end, Option.bind_some]
    by_cases c2 : decide (endOkP v1 v2) = true
    · rw [if_pos c2]; exact ⟨_, rfl⟩
    · rw [if_neg c2]; exact ⟨_, rfl⟩
  · rw [if_neg c]; exact ⟨_, rfl⟩
/-- What the reference's EndRead of s is, from a number of rounds on. -/
theorem read_ev (s : ByteArray) (hs : s.size ≤ 1048576) : ∃ x y b, Ends.ED s x y b ∧ Ev (fun k => spec_EndRead.f k s) (x, y, b) := by
  obtain ⟨⟨x, y, b⟩, h⟩ := read_all s hs (s.size + 20) (Nat.le_refl _)
  exact ⟨x, y, b, read_part s (by omega) _ x y b h, Ev.of (k := s.size + 20) (spec_EndRead.mono s) h⟩
theorem says_all (s : ByteArray) (hs : s.size ≤ 1048576) : ∃ r, spec_LinSays.f (s.size + 21) s = some r := by
  have ht : ∃ r, spec_LinSays.j0 (s.size + 21) s true = some r := ⟨_, by rw [spec_LinSays.j0, if_pos rfl]⟩
  unfold spec_LinSays.f
  by_cases c : (s.size : Int) < 5
  · rw [if_pos c]; exact ht
  · rw [if_neg c, if_pos (by omega), if_pos (by omega)]
    cases hp : ((s.extract 0 5).toList != ([112, 111, 114, 116, 32] : List UInt8)) with
    | true => exact ht
    | false =>
      rw [spec_LinSays.j0, if_neg (by decide), if_pos (by omega)]
      have hz := ext5 s _ (Nat.le_refl _)
      obtain ⟨⟨u, v, b⟩, e⟩ := read_all (s.extract 5 s.size) (by omega) (s.size + 20) (by omega)
      rw [e, Option.bind_some, spec_ins, Option.bind_some]
      by_cases c2 : b = true
      · rw [if_pos c2]
        by_cases c3 : insB u v = true
        · rw [if_pos c3]; exact ⟨_, rfl⟩
        · rw [if_neg c3]; exact ⟨_, rfl⟩
      · rw [if_neg c2]; exact ⟨_, rfl⟩
theorem says_ev (s : ByteArray) (hs : s.size ≤ 1048576) : ∃ x y b, Ends.LS s x y b ∧ Ev (fun k => spec_LinSays.f k s) (x, y, b) := by
  obtain ⟨⟨x, y, b⟩, h⟩ := says_all s hs
  exact ⟨x, y, b, says_part s (by omega) _ x y b h, Ev.of (k := s.size + 21) (spec_LinSays.mono s) h⟩
theorem ha_ev : Ev (fun k => laws_haOk.f k) true := by
  have lin_a : linOkB (⟨#[97]⟩ : ByteArray) = true := by decide
  obtain ⟨K, h⟩ := impl_lin_ev (⟨#[97]⟩ : ByteArray) (by decide)
  refine ⟨K, fun k hk => ?_⟩
  dsimp only at h ⊢
  unfold laws_haOk.f
  rw [h k hk, lin_a]; rfl
theorem text_ev (a p : Int) : Ev (fun k => spec_EndText.f k a p) (textV a p) := by
  unfold textV
  by_cases c : endOkP a p
  · rw [if_pos c]; exact endtext_ev a p c
  · rw [if_neg c]; exact ⟨0, fun k _ => endtext_no a p c k⟩
theorem textV_size2 (a p : Int) : (textV a p).size ≤ 7 := by
  unfold textV
  split
  · exact (endT_size a p).2
  · show 0 ≤ 7; omega
theorem port_ev (a p : Int) : Ev (fun k => spec_LinPort.f k a p) (Ends.portV a p) := by
  unfold Ends.portV
  by_cases c : endOkP a p
  · rw [if_pos c]; exact linport_ev a p c
  · rw [if_neg c]; exact ⟨0, fun k _ => linport_no a p c k⟩
theorem portV_size2 (a p : Int) : (Ends.portV a p).size ≤ 12 := by
  unfold Ends.portV
  split
  · exact (portT_size a p).2
  · show 0 ≤ 12; omega
theorem portI (a p : Int) (k : Nat) : impl_LinPort.f k a p = spec_LinPort.f k a p := by
  unfold impl_LinPort.f
  rw [if_pos (by omega)]
  cases spec_LinPort.f k a p <;> rfl
theorem saysI (s : ByteArray) (hs : s.size ≤ 1048576) (k : Nat) : impl_LinSays.f k s = spec_LinSays.f k s := by
  unfold impl_LinSays.f
  rw [if_pos (by omega), if_pos (by omega)]
  cases spec_LinSays.f k s <;> rfl
theorem drawlinport_ev (l : List Int) (hb : Lib.Bytes l) (hl : l.length ≤ 9223372036854775807) : ∃ a q, Ev (fun k => spec_DrawLinPort.f k l) (a, q) := by
  obtain ⟨b, h0, hb, hl⟩ := open_eq l hb hl
  obtain ⟨a, q, p', ⟨K1, e1⟩, _⟩ := end_ev b hb hl 0 5 (by omega) (by omega) (by omega) (by omega)
  dsimp only at e1
  refine ⟨a, q, ⟨K1, fun k hk => ?_⟩⟩
  dsimp only
  unfold spec_DrawLinPort.f
  rw [h0]; simp only [Option.bind_some]
  rw [e1 k hk]; rfl
theorem drawlinsays_ev (l : List Int) (hb : Lib.Bytes l) (hl : l.length ≤ 9223372036854775807) : ∃ t, Ev (fun k => spec_DrawLinSays.f k l) t ∧ t.size ≤ 17 := by
  obtain ⟨t, ⟨K, e⟩, h⟩ := drawlinok_ev l hb hl
  dsimp only at e
  exact ⟨t, ⟨K, fun k hk => by dsimp only; unfold spec_DrawLinSays.f; rw [e k hk]; rfl⟩, h⟩
theorem dec3_line (a : Int) (h0 : 0 ≤ a) (h1 : a ≤ 999) (i : Nat) (h : i < (dec3 a).size) : lineB (bt (dec3 a) (i : Int)) = true := by
  have hd : ∀ d : Int, 0 ≤ d → d ≤ 9 → lineB (((dig d).toNat : Nat) : Int) = true := fun d d0 d1 => by
    rcases (by omega : d = 0 ∨ d = 1 ∨ d = 2 ∨ d = 3 ∨ d = 4 ∨ d = 5 ∨ d = 6 ∨ d = 7 ∨ d = 8 ∨ d = 9) with rfl | rfl | rfl | rfl | rfl | rfl | rfl | rfl | rfl | rfl <;> decide
  have hb : ∀ (l : List UInt8) (i : Nat) (hi : i < l.length), bt (⟨l.toArray⟩ : ByteArray) (i : Int) = (l[i].toNat : Int) := fun l i hi => by
    rw [Lib.bt_eq _ _ (by simpa [ByteArray.size] using hi)]; rfl
  unfold dec3 at h ⊢
  by_cases c : a > 99
  · rw [if_pos c] at h ⊢
    have h : i < 3 := h
    rw [hb [dig (a / 100), dig (a / 10 % 10), dig (a % 10)] i h]
    match i, h with
    | 0, _ => exact hd _ (by omega) (by omega)
    | 1, _ => exact hd _ (by omega) (by omega)
    | 2, _ => exact hd _ (by omega) (by omega)
  · rw [if_neg c] at h ⊢
    by_cases c2 : a > 9
    · rw [if_pos c2] at h ⊢
      have h : i < 2 := h
      rw [hb [dig (a / 10), dig (a % 10)] i h]
      match i, h with
      | 0, _ => exact hd _ (by omega) (by omega)
      | 1, _ => exact hd _ (by omega) (by omega)
    · rw [if_neg c2] at h ⊢
      have h : i < 1 := h
      rw [hb [dig a] i h]
      match i, h with
      | 0, _ => exact hd _ (by omega) (by omega)
def lineA (s : ByteArray) : Prop := ∀ j, j < s.size → lineB (bt s (j : Int)) = true
theorem lineA_app {s t : ByteArray} (h1 : lineA s) (h2 : lineA t) : lineA (s ++ t) := fun j hj => by
  rw [ByteArray.size_append] at hj
  by_cases c : j < s.size
  · rw [Lib.bt_left _ _ _ c]; exact h1 j c
  · have := Lib.bt_right s t (j - s.size) (by omega)
    rw [show s.size + (j - s.size) = j by omega] at this
    rw [this]; exact h2 _ (by omega)
theorem lin_port (a p : Int) (h : endOkP a p) : linOkB (portT a p) = true := by
  have hr : 0 ≤ a ∧ a ≤ 999 ∧ 0 ≤ p ∧ p ≤ 999 := by unfold endOkP at h; omega
  unfold linOkB
  refine decide_eq_true ⟨by have := (portT_size a p).2; omega, ?_⟩
  show lineA (portT a p)
  unfold portT endT
  refine lineA_app (fun j hj => ?_) (lineA_app (lineA_app (fun j hj => dec3_line a hr.1 hr.2.1 j hj) (fun j hj => ?_)) (fun j hj => dec3_line p hr.2.2.1 hr.2.2.2 j hj))
  · have h : j < 5 := hj
    match j, h with
    | 0, _ => decide
    | 1, _ => decide
    | 2, _ => decide
    | 3, _ => decide
    | 4, _ => decide
  · have h : j < 1 := hj
    match j, h with
    | 0, _ => decide
end Go.Proofs.YtlofgoahgnllkaaDoor.QFnLinSays
