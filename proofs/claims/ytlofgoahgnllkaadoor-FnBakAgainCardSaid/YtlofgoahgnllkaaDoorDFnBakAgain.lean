/- What the reference's draws and functions that this law reaches come to: plain lemmas on the printed functions. -/
import Derived.Test.YtlofgoahgnllkaaDoorQFnBakAgainx14
import Derived.Test.YtlofgoahgnllkaaDoorEnds
import Derived.Test.YtlofgoahgnllkaaDoorLib
import Derived.Laws.BitsLemmas
set_option linter.unusedVariables false
set_option linter.unusedSimpArgs false
namespace Go.Proofs.YtlofgoahgnllkaaDoor.QFnBakAgain
open Go.RowKit Go.Proofs.YtlofgoahgnllkaaDoorW.PrintWords Go.Proofs.YtlofgoahgnllkaaDoorW.PrintLast Go.Proofs.YtlofgoahgnllkaaDoorW.PrintMore
open Go.Proofs.YtlofgoahgnllkaaDoor
open Go.Proofs.YtlofgoahgnllkaaDoor.Ends
theorem xor_nonneg (a b : Int) (h0 : 0 ≤ a) (h1 : a < 4611686018427387904) (h2 : 0 ≤ b) (h3 : b < 4611686018427387904) : 0 ≤ Go.bits .xor .i64 a b := by
  obtain ⟨m, rfl⟩ := Int.eq_ofNat_of_zero_le h0
  obtain ⟨n, rfl⟩ := Int.eq_ofNat_of_zero_le h2
  have hm : m % 2 ^ 64 = m := Nat.mod_eq_of_lt (by omega)
  have hn : n % 2 ^ 64 = n := Nat.mod_eq_of_lt (by omega)
  have hx : m ^^^ n < 2 ^ 62 := Nat.xor_lt_two_pow (by omega) (by omega)
  have e : Go.bits .xor .i64 (m : Int) (n : Int) = IntKind.i64.wrap ((m ^^^ n : Nat) : Int) := by
    have hb : (BitVec.ofNat 64 m ^^^ BitVec.ofNat 64 n).toNat = m ^^^ n := by rw [BitVec.toNat_xor, BitVec.toNat_ofNat, BitVec.toNat_ofNat, hm, hn]
    simp only [bits, IntKind.bits, BitVec.ofInt_natCast]
    exact congrArg (fun z : Nat => IntKind.i64.wrap (z : Int)) hb
  rw [e, IntKind.wrap_i64]
  omega
theorem pick_ev (b : List Int) (hb : Lib.Bytes b) (hl : b.length ≤ 2000) (p n : Int) (h0 : 0 ≤ p) (h1 : p ≤ 1000000) (hn : 1 ≤ n) :
    ∃ v, Ev (fun k => spec_l20Rd_pick.f k b p n) (v, p + 1) ∧ 0 ≤ v ∧ v < n := by
  have go : ∀ v, spec_l20Rd_pick.f 1 b p n = some (v, p + 1) → 0 ≤ v → v < n → ∃ v, Ev (fun k => spec_l20Rd_pick.f k b p n) (v, p + 1) ∧ 0 ≤ v ∧ v < n :=
    fun v h a c => ⟨v, Ev.of (spec_l20Rd_pick.mono b p n) h, a, c⟩
  have e1 : wrap64 (p + 1) = p + 1 := Lib.wrap_id (by omega) (by omega)
  have e2 : wrap64 (p + 1 - 1) = p := by rw [Lib.wrap_id (by omega) (by omega)]; omega
  by_cases hz : b.length = 0
  · refine go 0 ?_ (by omega) (by omega)
    unfold spec_l20Rd_pick.f
    rw [if_neg (by omega), spec_l20Rd_pick.j0, if_pos (by simp [hz]), e1]
  · have e3 : ((b.length : Int) == 0) = false := by rw [beq_eq_false_iff_ne]; omega
    by_cases hp : p < (b.length : Int)
    · obtain ⟨i, rfl⟩ := Int.eq_ofNat_of_zero_le h0
      have hr := Lib.bytes_rd hb i
      refine go (rd b (i : Int) % n) ?_ (Int.emod_nonneg _ (by omega)) (Int.emod_lt_of_pos _ (by omega))
      unfold spec_l20Rd_pick.f
      rw [if_neg (by omega), spec_l20Rd_pick.j0, if_neg (by rw [e3]; decide), e1, e2, if_pos hp, if_pos (by omega), if_neg (by omega), Lib.wrap_id (x := rd b (i : Int)) (by omega) (by omega), Int.tmod_eq_emod_of_nonneg (by omega)]
    · have hL : (0 : Int) < (b.length : Int) := by omega
      have q1 : Int.tmod p (b.length : Int) = p % (b.length : Int) := Int.tmod_eq_emod_of_nonneg (by omega)
      have w1 : wrap64 (p * 7) = p * 7 := Lib.wrap_id (by omega) (by omega)
      have w2 : wrap64 (p * 7 + 3) = p * 7 + 3 := Lib.wrap_id (by omega) (by omega)
      have q2 : Int.tmod (p * 7 + 3) (b.length : Int) = (p * 7 + 3) % (b.length : Int) := Int.tmod_eq_emod_of_nonneg (by omega)
      have m1 := Int.emod_nonneg p (show (b.length : Int) ≠ 0 by omega)
      have m2 := Int.emod_lt_of_pos p hL
      have m3 := Int.emod_nonneg (p * 7 + 3) (show (b.length : Int) ≠ 0 by omega)
      have m4 := Int.emod_lt_of_pos (p * 7 + 3) hL
      obtain ⟨i, hi⟩ := Int.eq_ofNat_of_zero_le m1
      obtain ⟨j, hj⟩ := Int.eq_ofNat_of_zero_le m3
      have r1 := Lib.bytes_rd hb i
      have r2 := Lib.bytes_rd hb j
      rw [← hi] at r1
      rw [← hj] at r2
      have d1 : Int.tdiv p (b.length : Int) = p / (b.length : Int) := Int.tdiv_eq_ediv_of_nonneg h0
      have d2 : 0 ≤ p / (b.length : Int) := Int.ediv_nonneg h0 (by omega)
      have d3 : p / (b.length : Int) ≤ p := Int.ediv_le_self _ h0
      obtain ⟨u, hu⟩ : ∃ u, u = rd b (p % (b.length : Int)) := ⟨_, rfl⟩
      obtain ⟨v, hv⟩ : ∃ v, v = rd b ((p * 7 + 3) % (b.length : Int)) := ⟨_, rfl⟩
      obtain ⟨q, hq⟩ : ∃ q, q = p / (b.length : Int) := ⟨_, rfl⟩
      rw [← hu] at r1
      rw [← hv] at r2
      rw [← hq] at d2 d3
      have x0 : wrap64 (wrap64 (wrap64 (wrap64 (wrap64 u * 131) + wrap64 (wrap64 v * 1117)) + wrap64 (p * 29)) + wrap64 (wrap64 q * 53)) = u * 131 + v * 1117 + p * 29 + q * 53 := by
        rw [Lib.wrap_id (x := u) (by omega) (by omega), Lib.wrap_id (x := v) (by omega) (by omega), Lib.wrap_id (x := q) (by omega) (by omega), Lib.wrap_id (x := u * 131) (by omega) (by omega), Lib.wrap_id (x := v * 1117) (by omega) (by omega),
          Lib.wrap_id (x := p * 29) (by omega) (by omega), Lib.wrap_id (x := q * 53) (by omega) (by omega), Lib.wrap_id (x := u * 131 + v * 1117) (by omega) (by omega), Lib.wrap_id (x := u * 131 + v * 1117 + p * 29) (by omega) (by omega), Lib.wrap_id (by omega) (by omega)]
      obtain ⟨X, hX⟩ : ∃ X, X = u * 131 + v * 1117 + p * 29 + q * 53 := ⟨_, rfl⟩
      have X0 : 0 ≤ X := by omega
      have X1 : X < 4611686018427387904 := by omega
      have x1 : wrap64 (Int.tdiv X 64) = X / 64 := by rw [Int.tdiv_eq_ediv_of_nonneg X0, Lib.wrap_id (by omega) (by omega)]
      have hx := xor_nonneg X (X / 64) X0 X1 (by omega) (by omega)
      refine go (Go.bits .xor .i64 X (X / 64) % n) ?_ (Int.emod_nonneg _ (by omega)) (Int.emod_lt_of_pos _ (by omega))
      unfold spec_l20Rd_pick.f
      rw [if_neg (by omega), spec_l20Rd_pick.j0, if_neg (by rw [e3]; decide), e1, e2, if_neg hp, if_neg (by omega), w1, w2, q1, q2, if_pos m1, if_pos m2, if_pos m3, if_pos m4, if_neg (by omega), d1, ← hu, ← hv, ← hq, x0, ← hX, x1, Int.tmod_eq_emod_of_nonneg hx]
theorem open_eq (l : List Int) (hb : Lib.Bytes l) (hl : l.length ≤ 9223372036854775807) : ∃ b, spec_l20Open.f l = some (b, 0) ∧ Lib.Bytes b ∧ b.length ≤ 2000 := by
  unfold spec_l20Open.f
  by_cases c : (l.length : Int) > 2000
  · exact ⟨l.take 2000, by rw [if_pos c, if_pos (by omega)], fun x hx => hb x (List.mem_of_mem_take hx), by simp; omega⟩
  · exact ⟨l, by rw [if_neg c], hb, by omega⟩
theorem in_ev (b : List Int) (hb : Lib.Bytes b) (hl : b.length ≤ 2000) (p : Int) (h0 : 0 ≤ p) (h1 : p ≤ 999000) :
    ∃ a q, Ev (fun k => spec_l20In.f k b p) (a, q, p + 3) ∧ 1 ≤ a ∧ a ≤ 4 ∧ 1 ≤ q ∧ q ≤ 999 := by
  obtain ⟨v1, ⟨K1, e1⟩, a1, b1⟩ := pick_ev b hb hl p 4 h0 (by omega) (by omega)
  obtain ⟨v2, ⟨K2, e2⟩, a2, b2⟩ := pick_ev b hb hl (p + 1) 40 (by omega) (by omega) (by omega)
  obtain ⟨v3, ⟨K3, e3⟩, a3, b3⟩ := pick_ev b hb hl (p + 1 + 1) 5 (by omega) (by omega) (by omega)
  have hr : 1 ≤ rd [7, 20, 300, 999, wrap64 (1 + v2)] v3 ∧ rd [7, 20, 300, 999, wrap64 (1 + v2)] v3 ≤ 999 := by
    rw [Lib.wrap_id (x := 1 + v2) (by omega) (by omega)]
    rcases (by omega : v3 = 0 ∨ v3 = 1 ∨ v3 = 2 ∨ v3 = 3 ∨ v3 = 4) with rfl | rfl | rfl | rfl | rfl <;> simp [rd] <;> omega
  refine ⟨1 + v1, rd [7, 20, 300, 999, wrap64 (1 + v2)] v3, ⟨K1 + K2 + K3, fun k hk => ?_⟩, by omega, by omega, hr.1, hr.2⟩
  dsimp only at e1 e2 e3 ⊢
  unfold spec_l20In.f
  rw [e1 k (by omega)]; simp only [Option.bind_some]
  rw [e2 k (by omega)]; simp only [Option.bind_some]
  rw [e3 k (by omega)]; simp only [Option.bind_some]
  rw [if_pos a3, if_pos (by simpa using b3), Lib.wrap_id (x := 1 + v1) (by omega) (by omega), show p + 1 + 1 + 1 = p + 3 by omega]
theorem out_ev (b : List Int) (hb : Lib.Bytes b) (hl : b.length ≤ 2000) (p : Int) (h0 : 0 ≤ p) (h1 : p ≤ 999000) :
    ∃ a q, Ev (fun k => spec_l20Out.f k b p) (a, q, p + 2) ∧ 100 ≤ a ∧ a ≤ 102 ∧ 1 ≤ q ∧ q ≤ 80 := by
  obtain ⟨v1, ⟨K1, e1⟩, a1, b1⟩ := pick_ev b hb hl p 3 h0 (by omega) (by omega)
  obtain ⟨v2, ⟨K2, e2⟩, a2, b2⟩ := pick_ev b hb hl (p + 1) 4 (by omega) (by omega) (by omega)
  have hr : 1 ≤ rd [21, 21, 80, 7] v2 ∧ rd [21, 21, 80, 7] v2 ≤ 80 := by
    rcases (by omega : v2 = 0 ∨ v2 = 1 ∨ v2 = 2 ∨ v2 = 3) with rfl | rfl | rfl | rfl <;> simp [rd]
  refine ⟨100 + v1, rd [21, 21, 80, 7] v2, ⟨K1 + K2, fun k hk => ?_⟩, by omega, by omega, hr.1, hr.2⟩
  dsimp only at e1 e2 ⊢
  unfold spec_l20Out.f
  rw [e1 k (by omega)]; simp only [Option.bind_some]
  rw [e2 k (by omega)]; simp only [Option.bind_some]
  rw [if_pos a2, if_pos (by simpa using b2), Lib.wrap_id (x := 100 + v1) (by omega) (by omega), show p + 1 + 1 = p + 2 by omega]
def lines1 : List ByteArray := [(⟨#[]⟩ : ByteArray), (⟨#[108, 105, 115, 116]⟩ : ByteArray), (⟨#[117, 115, 101, 114, 32, 97]⟩ : ByteArray), (⟨#[112, 111, 114, 116, 32, 53, 48, 32, 53, 48, 48]⟩ : ByteArray), (⟨#[112, 111, 114, 116, 32, 49, 48, 48, 32, 57]⟩ : ByteArray), (⟨#[112, 111, 114, 116, 32, 48, 49, 32, 50]⟩ : ByteArray), (⟨#[112, 111, 114, 116, 32, 49]⟩ : ByteArray), (⟨#[97, 98, 99, 100, 101, 102, 103, 104, 105, 106, 32, 107, 108, 109, 110, 111]⟩ : ByteArray), (⟨#[112, 111, 114, 116]⟩ : ByteArray), (⟨#[112, 111, 114, 116, 32, 49, 32, 50, 32, 51]⟩ : ByteArray)]
def lines2 : List ByteArray := [(⟨#[97]⟩ : ByteArray), (⟨#[98, 98]⟩ : ByteArray), (⟨#[103, 101, 116, 32, 102, 105, 108, 101, 49]⟩ : ByteArray), (⟨#[113, 117, 105, 116]⟩ : ByteArray)]
/-- A drawn line: it is short; and, where it is asked, what its bytes are. -/
theorem line_ev (b : List Int) (hb : Lib.Bytes b) (hl : b.length ≤ 2000) (p : Int) (h0 : 0 ≤ p) (h1 : p ≤ 990000) :
    ∃ t p', Ev (fun k => spec_l20Line.f k b p) (t, p') ∧ t.size ≤ 16 ∧ p < p' ∧ p' ≤ p + 4 := by
  obtain ⟨v1, ⟨K1, e1⟩, a1, b1⟩ := pick_ev b hb hl p 3 h0 (by omega) (by omega)
  dsimp only at e1
  by_cases c1 : v1 = 0
  · obtain ⟨a, q, ⟨K2, e2⟩, g1, g2, g3, g4⟩ := in_ev b hb hl (p + 1) (by omega) (by omega)
    obtain ⟨K3, e3⟩ := linport_ev a q (by unfold endOkP; omega)
    dsimp only at e2 e3
    refine ⟨portT a q, p + 1 + 3, ⟨K1 + K2 + K3, fun k hk => ?_⟩, by have := portT_size a q; omega, by omega, by omega⟩
    dsimp only
    unfold spec_l20Line.f
    rw [e1 k (by omega)]; simp only [Option.bind_some]
    rw [if_pos c1, e2 k (by omega)]; simp only [Option.bind_some]
    rw [e3 k (by omega)]; rfl
  · by_cases c2 : v1 = 1
    · obtain ⟨v2, ⟨K2, e2⟩, a2, b2⟩ := pick_ev b hb hl (p + 1) 10 (by omega) (by omega) (by omega)
      dsimp only at e2
      refine ⟨rdOf ByteArray.empty lines1 v2, p + 1 + 1, ⟨K1 + K2, fun k hk => ?_⟩, ?_, by omega, by omega⟩
      · dsimp only
        unfold spec_l20Line.f
        rw [e1 k (by omega)]; simp only [Option.bind_some]
        rw [if_neg c1, if_pos c2, e2 k (by omega)]; simp only [Option.bind_some]
        rw [if_pos a2, if_pos (by simpa using b2)]; rfl
      · rcases (by omega : v2 = 0 ∨ v2 = 1 ∨ v2 = 2 ∨ v2 = 3 ∨ v2 = 4 ∨ v2 = 5 ∨ v2 = 6 ∨ v2 = 7 ∨ v2 = 8 ∨ v2 = 9) with rfl | rfl | rfl | rfl | rfl | rfl | rfl | rfl | rfl | rfl <;> decide
    · obtain ⟨v2, ⟨K2, e2⟩, a2, b2⟩ := pick_ev b hb hl (p + 1) 4 (by omega) (by omega) (by omega)
      dsimp only at e2
      refine ⟨rdOf ByteArray.empty lines2 v2, p + 1 + 1, ⟨K1 + K2, fun k hk => ?_⟩, ?_, by omega, by omega⟩
      · dsimp only
        unfold spec_l20Line.f
        rw [e1 k (by omega)]; simp only [Option.bind_some]
        rw [if_neg c1, if_neg c2, e2 k (by omega)]; simp only [Option.bind_some]
        rw [if_pos a2, if_pos (by simpa using b2)]; rfl
      · rcases (by omega : v2 = 0 ∨ v2 = 1 ∨ v2 = 2 ∨ v2 = 3) with rfl | rfl | rfl | rfl <;> decide
theorem ext_size (s : ByteArray) (i j : Nat) : (s.extract i j).size = min j s.size - i := by rw [ByteArray.size_extract]
theorem nums_size1 (x : Int) : (strOfNums [x]).size = 1 := rfl
theorem bent_ev (b : List Int) (hb : Lib.Bytes b) (hl : b.length ≤ 2000) (p : Int) (h0 : 0 ≤ p) (h1 : p ≤ 990000) (s : ByteArray) (hs : s.size ≤ 1000000) :
    ∃ t, Ev (fun k => spec_l20Bent.f k b p s) (t, p + 4) ∧ t.size ≤ s.size + 1 := by
  obtain ⟨v1, ⟨K1, e1⟩, a1, b1⟩ := pick_ev b hb hl p ((s.size : Int) + 1) h0 (by omega) (by omega)
  obtain ⟨v2, ⟨K2, e2⟩, a2, b2⟩ := pick_ev b hb hl (p + 1) 256 (by omega) (by omega) (by omega)
  obtain ⟨v3, ⟨K3, e3⟩, a3, b3⟩ := pick_ev b hb hl (p + 1 + 1) 8 (by omega) (by omega) (by omega)
  obtain ⟨v4, ⟨K4, e4⟩, a4, b4⟩ := pick_ev b hb hl (p + 1 + 1 + 1) 3 (by omega) (by omega) (by omega)
  dsimp only at e1 e2 e3 e4
  have w0 : wrap64 ((s.size : Int) + 1) = (s.size : Int) + 1 := Lib.wrap_id (by omega) (by omega)
  have w1 : wrap64 (v1 + 1) = v1 + 1 := Lib.wrap_id (by omega) (by omega)
  have hp : p + 1 + 1 + 1 + 1 = p + 4 := by omega
  obtain ⟨c, hc⟩ : ∃ c, c = strOfNums [rd [32, 48, 49, 57, 59, 97, 112, v2] v3 % 256] := ⟨_, rfl⟩
  have hc1 : c.size = 1 := by rw [hc]; rfl
  by_cases c0 : v4 = 0
  · refine ⟨s.extract 0 v1.toNat ++ c ++ s.extract v1.toNat s.size, ⟨K1 + K2 + K3 + K4, fun k hk => ?_⟩, ?_⟩
    · dsimp only
      unfold spec_l20Bent.f
      rw [w0, e1 k (by omega)]; simp only [Option.bind_some]
      rw [e2 k (by omega)]; simp only [Option.bind_some]
      rw [e3 k (by omega)]; simp only [Option.bind_some]
      rw [if_pos a3, if_pos (by simpa using b3), e4 k (by omega)]; simp only [Option.bind_some]
      rw [if_pos c0, if_pos a1, if_pos (by omega), ← hc]
      rw [if_pos (by rw [ext_size, hc1]; omega), if_pos (by rw [ByteArray.size_append, ext_size, ext_size, hc1]; omega), hp]
    · rw [ByteArray.size_append, ByteArray.size_append, ext_size, ext_size, hc1]; omega
  · by_cases c1 : v4 = 1
    · by_cases c2 : v1 < (s.size : Int)
      · refine ⟨s.extract 0 v1.toNat ++ s.extract (v1 + 1).toNat s.size, ⟨K1 + K2 + K3 + K4, fun k hk => ?_⟩, ?_⟩
        · dsimp only
          unfold spec_l20Bent.f
          rw [w0, e1 k (by omega)]; simp only [Option.bind_some]
          rw [e2 k (by omega)]; simp only [Option.bind_some]
          rw [e3 k (by omega)]; simp only [Option.bind_some]
          rw [if_pos a3, if_pos (by simpa using b3), e4 k (by omega)]; simp only [Option.bind_some]
          rw [if_neg c0, if_pos c1, if_pos c2, if_pos a1, if_pos (by omega), w1, if_pos (by omega), if_pos (by omega)]
          rw [if_pos (by rw [ext_size, ext_size]; omega), hp]
        · rw [ByteArray.size_append, ext_size, ext_size]; omega
      · refine ⟨s, ⟨K1 + K2 + K3 + K4, fun k hk => ?_⟩, by omega⟩
        dsimp only
        unfold spec_l20Bent.f
        rw [w0, e1 k (by omega)]; simp only [Option.bind_some]
        rw [e2 k (by omega)]; simp only [Option.bind_some]
        rw [e3 k (by omega)]; simp only [Option.bind_some]
        rw [if_pos a3, if_pos (by simpa using b3), e4 k (by omega)]; simp only [Option.bind_some]
        rw [if_neg c0, if_pos c1, if_neg c2, hp]
    · by_cases c2 : v1 < (s.size : Int)
      · refine ⟨s.extract 0 v1.toNat ++ c ++ s.extract (v1 + 1).toNat s.size, ⟨K1 + K2 + K3 + K4, fun k hk => ?_⟩, ?_⟩
        · dsimp only
          unfold spec_l20Bent.f
          rw [w0, e1 k (by omega)]; simp only [Option.bind_some]
          rw [e2 k (by omega)]; simp only [Option.bind_some]
          rw [e3 k (by omega)]; simp only [Option.bind_some]
          rw [if_pos a3, if_pos (by simpa using b3), e4 k (by omega)]; simp only [Option.bind_some]
          rw [if_neg c0, if_neg c1, if_pos c2, if_pos a1, if_pos (by omega), ← hc]
          rw [if_pos (by rw [ext_size, hc1]; omega), w1, if_pos (by omega), if_pos (by omega), if_pos (by rw [ByteArray.size_append, ext_size, ext_size, hc1]; omega), hp]
        · rw [ByteArray.size_append, ByteArray.size_append, ext_size, ext_size, hc1]; omega
      · refine ⟨s, ⟨K1 + K2 + K3 + K4, fun k hk => ?_⟩, by omega⟩
        dsimp only
        unfold spec_l20Bent.f
        rw [w0, e1 k (by omega)]; simp only [Option.bind_some]
        rw [e2 k (by omega)]; simp only [Option.bind_some]
        rw [e3 k (by omega)]; simp only [Option.bind_some]
        rw [if_pos a3, if_pos (by simpa using b3), e4 k (by omega)]; simp only [Option.bind_some]
        rw [if_neg c0, if_neg c1, if_neg c2, hp]
def lines3 : List ByteArray := [(⟨#[97, 98, 99, 100, 101, 102, 103, 104, 105, 106, 32, 107, 108, 109, 110, 111, 112]⟩ : ByteArray), (⟨#[65]⟩ : ByteArray), (⟨#[97, 59, 98]⟩ : ByteArray), (⟨#[10]⟩ : ByteArray), (⟨#[97, 98, 99, 100, 101, 102, 103, 104, 105, 106, 32, 107, 108, 109, 110, 111]⟩ : ByteArray)]
theorem drawlinok_ev (l : List Int) (hb : Lib.Bytes l) (hl : l.length ≤ 9223372036854775807) : ∃ t, Ev (fun k => spec_DrawLinOk.f k l) t ∧ t.size ≤ 17 := by
  obtain ⟨b, h0, hb, hl⟩ := open_eq l hb hl
  obtain ⟨t1, p1, ⟨K1, e1⟩, s1, g1, g2⟩ := line_ev b hb hl 0 (by omega) (by omega)
  obtain ⟨v2, ⟨K2, e2⟩, a2, b2⟩ := pick_ev b hb hl p1 4 (by omega) (by omega) (by omega)
  dsimp only at e1 e2
  by_cases c0 : v2 = 0
  · obtain ⟨v3, ⟨K3, e3⟩, a3, b3⟩ := pick_ev b hb hl (p1 + 1) 5 (by omega) (by omega) (by omega)
    dsimp only at e3
    refine ⟨rdOf ByteArray.empty lines3 v3, ⟨K1 + K2 + K3, fun k hk => ?_⟩, ?_⟩
    · dsimp only
      unfold spec_DrawLinOk.f
      rw [h0]; simp only [Option.bind_some]
      rw [e1 k (by omega)]; simp only [Option.bind_some]
      rw [e2 k (by omega)]; simp only [Option.bind_some]
      rw [if_pos c0, e3 k (by omega)]; simp only [Option.bind_some]
      rw [if_pos a3, if_pos (by simpa using b3)]; rfl
    · rcases (by omega : v3 = 0 ∨ v3 = 1 ∨ v3 = 2 ∨ v3 = 3 ∨ v3 = 4) with rfl | rfl | rfl | rfl | rfl <;> decide
  · by_cases c1 : v2 = 1
    · obtain ⟨t2, ⟨K3, e3⟩, s2⟩ := bent_ev b hb hl (p1 + 1) (by omega) (by omega) t1 (by omega)
      dsimp only at e3
      refine ⟨t2, ⟨K1 + K2 + K3, fun k hk => ?_⟩, by omega⟩
      dsimp only
      unfold spec_DrawLinOk.f
      rw [h0]; simp only [Option.bind_some]
      rw [e1 k (by omega)]; simp only [Option.bind_some]
      rw [e2 k (by omega)]; simp only [Option.bind_some]
      rw [if_neg c0, if_pos c1, e3 k (by omega)]; rfl
    · refine ⟨t1, ⟨K1 + K2, fun k hk => ?_⟩, by omega⟩
      dsimp only
      unfold spec_DrawLinOk.f
      rw [h0]; simp only [Option.bind_some]
      rw [e1 k (by omega)]; simp only [Option.bind_some]
      rw [e2 k (by omega)]; simp only [Option.bind_some]
      rw [if_neg c0, if_neg c1]
theorem odd_ev (b : List Int) (hb : Lib.Bytes b) (hl : b.length ≤ 2000) (p n : Int) (h0 : 0 ≤ p) (h1 : p ≤ 1000000) (hn : 1 ≤ n) (hn2 : n ≤ 1000000) :
    ∃ v p', Ev (fun k => spec_l20Rd_odd.f k b p n) (v, p') ∧ p ≤ p' ∧ p' ≤ p + 1 ∧ (9000 ≤ n → v = false ∧ p' = p) := by
  by_cases c : n < 9000
  · obtain ⟨v, ⟨K, e⟩, _, _⟩ := pick_ev b hb hl p n h0 h1 hn
    dsimp only at e
    refine ⟨v == wrap64 (n - 1), p + 1, ⟨K, fun k hk => ?_⟩, by omega, by omega, fun h => by omega⟩
    dsimp only
    unfold spec_l20Rd_odd.f
    rw [if_pos c, e k hk]; rfl
  · refine ⟨false, p, ⟨0, fun k hk => ?_⟩, by omega, by omega, fun _ => ⟨rfl, rfl⟩⟩
    dsimp only
    unfold spec_l20Rd_odd.f
    rw [if_neg c]
/-- Where an end stands, counted from i. -/
def fnd : List S43 → Int → Int → Int → Int
  | [], _, _, _ => -1
  | x :: L, a, p, i => if x.f0 = a ∧ x.f1 = p then i else fnd L a p (i + 1)
theorem fnd_ge : ∀ (L : List S43) (a p i : Int), 0 ≤ i → fnd L a p i = -1 ∨ i ≤ fnd L a p i ∧ fnd L a p i < i + L.length
  | [], _, _, _, _ => .inl rfl
  | x :: L, a, p, i, h => by
    rw [fnd]
    by_cases c : x.f0 = a ∧ x.f1 = p
    · rw [if_pos c]; exact .inr ⟨Int.le_refl _, by simp; omega⟩
    · rw [if_neg c]
      rcases fnd_ge L a p (i + 1) (by omega) with h1 | h1
      · exact .inl h1
      · exact .inr ⟨by omega, by simp; omega⟩
theorem drop_T (L : List S43) (i : Nat) (h : i < L.length) : L.drop i = rd_T43 L (i : Int) :: L.drop (i + 1) := by
  rw [List.drop_eq_getElem_cons h]
  congr 1
  unfold rd_T43
  rw [Int.toNat_natCast, List.getD_eq_getElem?_getD, List.getElem?_eq_getElem h]; rfl
theorem w_upM (n : Nat) (h : n ≤ 4611686018427387904) : wrap64 ((n : Int) + 1) = ((n + 1 : Nat) : Int) := by
  rw [Lib.wrap_id (by omega) (by omega)]; omega
theorem find_l (L : List S43) (a p : Int) (hL : L.length ≤ 4611686018427387904) : ∀ (n i k : Nat), i + n = L.length → n + 1 ≤ k → spec_l3Find.l0 k (i : Int) L a p = some (fnd (L.drop i) a p (i : Int)) := by
  intro n
  induction n with
  | zero =>
    intro i k hi hk
    obtain ⟨k, rfl⟩ : ∃ k', k = k' + 1 := ⟨k - 1, by omega⟩
    rw [spec_l3Find.l0, if_neg (by omega), List.drop_of_length_le (by omega)]; rfl
  | succ n ih =>
    intro i k hi hk
    obtain ⟨k, rfl⟩ : ∃ k', k = k' + 1 := ⟨k - 1, by omega⟩
    rw [spec_l3Find.l0, if_pos (by omega), if_pos (by omega), drop_T L i (by omega), fnd]
    by_cases c : (rd_T43 L (i : Int)).f0 = a ∧ (rd_T43 L (i : Int)).f1 = p
    · rw [if_pos c, if_pos (by simp [c])]
    · rw [if_neg c, if_neg (by simpa using c), w_upM i (by omega), ih (i + 1) k (by omega) (by omega)]; rfl
theorem find_ev (L : List S43) (a p : Int) (hL : L.length ≤ 4611686018427387904) (k : Nat) (hk : L.length + 1 ≤ k) : spec_l3Find.f k L a p = some (fnd L a p 0) := by
  unfold spec_l3Find.f
  have := find_l L a p hL L.length 0 k (Nat.zero_add _) hk
  simpa using this
theorem idx_l (L : List S43) (a p : Int) (hL : L.length ≤ 4611686018427387904) : ∀ (n i k : Nat), i + n = L.length → n + 1 ≤ k → impl_EndPoint_88.l0 k L (L.length : Int) (i : Int) a p = some (fnd (L.drop i) a p (i : Int)) := by
  intro n
  induction n with
  | zero =>
    intro i k hi hk
    obtain ⟨k, rfl⟩ : ∃ k', k = k' + 1 := ⟨k - 1, by omega⟩
    rw [impl_EndPoint_88.l0, if_neg (by omega), List.drop_of_length_le (by omega)]; rfl
  | succ n ih =>
    intro i k hi hk
    obtain ⟨k, rfl⟩ : ∃ k', k = k' + 1 := ⟨k - 1, by omega⟩
    rw [impl_EndPoint_88.l0, if_pos (by omega), if_pos (by omega), if_pos (by omega), drop_T L i (by omega), fnd]
    by_cases c : (rd_T43 L (i : Int)).f0 = a ∧ (rd_T43 L (i : Int)).f1 = p
    · rw [if_pos c, if_pos (by simp [c])]
    · rw [if_neg c, if_neg (by simpa using fun h1 h2 => c ⟨h1.symm, h2.symm⟩), w_upM i (by omega), ih (i + 1) k (by omega) (by omega)]; rfl
theorem con_ev (L : List S43) (a p : Int) (hL : L.length ≤ 4611686018427387904) (k : Nat) (hk : L.length + 1 ≤ k) : impl_EndPoint_76.f k L a p = some (decide (0 ≤ fnd L a p 0)) := by
  unfold impl_EndPoint_76.f impl_EndPoint_88.f
  have := idx_l L a p hL L.length 0 k (Nat.zero_add _) hk
  rw [List.drop_zero] at this
  rw [show ((0 : Nat) : Int) = 0 from rfl] at this
  rw [this]; rfl
theorem spec_ins (a p : Int) : spec_EndInside.f a p = some (insB a p) := by
  simp only [spec_EndInside.f, spec_l1In.f, insB]
  by_cases h1 : a ≥ 1 <;> by_cases h2 : a ≤ 9 <;> by_cases h3 : p ≥ 1 <;> by_cases h4 : p ≤ 999 <;> simp [h1, h2, h3, h4] <;> omega
theorem impl_ins (a p : Int) : impl_EndInside.f a p = some (insB a p) := by
  simp only [impl_EndInside.f, impl_inside.f, impl_portOk.f, impl_within.f, insB]
  by_cases h1 : a ≥ 1 <;> by_cases h2 : a ≤ 9 <;> by_cases h3 : p ≥ 1 <;> by_cases h4 : p ≤ 999 <;> simp [h1, h2, h3, h4] <;> omega
/-- From i on, n ends: each inside, and none that stands ahead of it. -/
def okF (L : List S43) : Nat → Nat → Bool
  | 0, _ => true
  | n + 1, i => insB (rd_T43 L (i : Int)).f0 (rd_T43 L (i : Int)).f1 && (decide (fnd (L.take i) (rd_T43 L (i : Int)).f0 (rd_T43 L (i : Int)).f1 0 < 0) && okF L n (i + 1))
def mapOkB (L : List S43) : Bool := decide (L.length ≤ 6) && okF L L.length 0
theorem spec_ok_l (L : List S43) (hL : L.length ≤ 4611686018427387904) : ∀ (n i k : Nat), i + n = L.length → L.length + n + 2 ≤ k → spec_MapOk.l0 k (i : Int) L = some (okF L n i) := by
  intro n
  induction n with
  | zero =>
    intro i k hi hk
    obtain ⟨k, rfl⟩ : ∃ k', k = k' + 1 := ⟨k - 1, by omega⟩
    rw [spec_MapOk.l0, if_neg (by omega)]; rfl
  | succ n ih =>
    intro i k hi hk
    obtain ⟨k, rfl⟩ : ∃ k', k = k' + 1 := ⟨k - 1, by omega⟩
    rw [spec_MapOk.l0, if_pos (by omega), if_pos (by omega), spec_ins, Option.bind_some, okF]
    cases c : insB (rd_T43 L (i : Int)).f0 (rd_T43 L (i : Int)).f1 with
    | false => rw [if_neg (by decide)]; rfl
    | true =>
      rw [if_pos rfl, if_pos (by omega), Int.toNat_natCast, find_ev _ _ _ (by simp; omega) k (by simp; omega), Option.bind_some]
      by_cases d : fnd (L.take i) (rd_T43 L (i : Int)).f0 (rd_T43 L (i : Int)).f1 0 ≥ 0
      · rw [if_pos d, decide_eq_false (by omega)]; rfl
      · rw [if_neg d, w_upM i (by omega), ih (i + 1) k (by omega) (by omega), decide_eq_true (by omega)]; rfl
theorem spec_ok_ev (L : List S43) (hL : L.length ≤ 4611686018427387904) (k : Nat) (hk : 2 * L.length + 2 ≤ k) : spec_MapOk.f k L = some (mapOkB L) := by
  unfold spec_MapOk.f mapOkB
  by_cases c : (L.length : Int) > 6
  · rw [if_pos c, decide_eq_false (by omega)]; rfl
  · rw [if_neg c, decide_eq_true (by omega)]
    exact spec_ok_l L hL L.length 0 k (Nat.zero_add _) (by omega)
theorem impl_ok_l (L : List S43) (hL : L.length ≤ 4611686018427387904) : ∀ (n i k : Nat), i + n = L.length → L.length + n + 2 ≤ k → impl_MapOk.l0 k L (L.length : Int) (i : Int) L = some (okF L n i && decide ((L.length : Int) ≤ 6)) := by
  intro n
  induction n with
  | zero =>
    intro i k hi hk
    obtain ⟨k, rfl⟩ : ∃ k', k = k' + 1 := ⟨k - 1, by omega⟩
    rw [impl_MapOk.l0, if_neg (by omega)]; rfl
  | succ n ih =>
    intro i k hi hk
    obtain ⟨k, rfl⟩ : ∃ k', k = k' + 1 := ⟨k - 1, by omega⟩
    rw [impl_MapOk.l0, if_pos (by omega), if_pos (by omega), if_pos (by omega), impl_ins, Option.bind_some, okF]
    cases c : insB (rd_T43 L (i : Int)).f0 (rd_T43 L (i : Int)).f1 with
    | false => rw [if_neg (by decide)]; rfl
    | true =>
      rw [if_pos rfl, if_pos (by omega), Int.toNat_natCast, con_ev _ _ _ (by simp; omega) k (by simp; omega), Option.bind_some]
      by_cases d : 0 ≤ fnd (L.take i) (rd_T43 L (i : Int)).f0 (rd_T43 L (i : Int)).f1 0
      · rw [decide_eq_true d, if_pos rfl, decide_eq_false (by omega)]; rfl
      · have hd : decide (fnd (L.take i) (rd_T43 L (i : Int)).f0 (rd_T43 L (i : Int)).f1 0 < 0) = true := decide_eq_true (by omega)
        rw [decide_eq_false d, if_neg (by decide), w_upM i (by omega), ih (i + 1) k (by omega) (by omega), hd]; rfl
theorem impl_ok_ev (L : List S43) (hL : L.length ≤ 4611686018427387904) (k : Nat) (hk : 2 * L.length + 2 ≤ k) : impl_MapOk.f k L = some (mapOkB L) := by
  unfold impl_MapOk.f mapOkB
  rw [Bool.and_comm]
  have := impl_ok_l L hL L.length 0 k (Nat.zero_add _) (by omega)
  rw [show ((0 : Nat) : Int) = 0 from rfl] at this
  rw [this]
  congr 2
  exact decide_eq_decide.2 (by omega)
theorem put_ev (L : List S43) (a p : Int) (hL : L.length ≤ 100) : ∃ M v, (∀ k, 300 ≤ k → spec_MapPut.f k L a p = some (M, v)) ∧ M.length ≤ 7 := by
  have j0 : ∀ (t : Bool), (t = false → mapOkB L = true) → ∃ M v, (∀ k, 299 ≤ k → spec_MapPut.j0 (k + 1) t L a p = some (M, v)) ∧ M.length ≤ 7 := fun t ht => by
    cases t with
    | true => exact ⟨[], 0, fun k hk => by rw [spec_MapPut.j0, if_pos rfl], by simp⟩
    | false =>
      have hok := ht rfl
      have h6 : L.length ≤ 6 := by
        unfold mapOkB at hok
        rw [Bool.and_eq_true] at hok
        exact of_decide_eq_true hok.1
      have hc : spec_l3Copy.f L = some L := by
        unfold spec_l3Copy.f
        rw [Option.bind_some, if_pos (by simp; omega)]; rfl
      have hp : ∃ M v, (∀ k, 299 ≤ k → spec_l3Put.f k L a p = some (M, v)) ∧ M.length ≤ 7 := by
        by_cases c : fnd L a p 0 < 0
        · have e : ∀ k, 299 ≤ k → spec_MapPort.f k L a p = some 0 := fun k hk => by
            unfold spec_MapPort.f
            rw [find_ev L a p (by omega) k (by omega), Option.bind_some, if_pos c]
          by_cases c6 : L.length = 6
          · exact ⟨L, 0, fun k hk => by
              unfold spec_l3Put.f
              rw [e k hk, Option.bind_some, if_neg (by decide), if_pos (by omega)], by omega⟩
          · exact ⟨[] ++ L ++ [⟨a, p⟩], wrap64 ((wrap64 (500 + (([] ++ L ++ [(⟨a, p⟩ : S43)]).length : Int))) - 1), fun k hk => by
              unfold spec_l3Put.f
              rw [e k hk, Option.bind_some, if_neg (by decide), if_neg (by omega)]
              simp only [Option.bind_some]
              rw [if_pos (by simp; omega), if_pos (by simp; omega)], by simp; omega⟩
        · rcases fnd_ge L a p 0 (Int.le_refl _) with h | h
          · omega
          · exact ⟨L, 500 + fnd L a p 0, fun k hk => by
              unfold spec_l3Put.f spec_MapPort.f
              rw [find_ev L a p (by omega) k (by omega), Option.bind_some, if_neg c, Option.bind_some, Lib.wrap_id (by omega) (by omega), if_pos (by omega)], by omega⟩
      obtain ⟨M, v, hM, hl⟩ := hp
      exact ⟨M, v, fun k hk => by
        rw [spec_MapPut.j0, if_neg (by decide), hc, Option.bind_some, hM k hk]; rfl, hl⟩
  have hend := spec_ins a p
  cases hk : mapOkB L with
  | false =>
    obtain ⟨M, v, h1, h2⟩ := j0 true (fun h => by cases h)
    exact ⟨M, v, fun k hk2 => by
      obtain ⟨k, rfl⟩ : ∃ m, k = m + 1 := ⟨k - 1, by omega⟩
      unfold spec_MapPut.f
      rw [spec_ok_ev L (by omega) _ (by omega), Option.bind_some, hk, if_neg (by decide), h1 k (by omega)], h2⟩
  | true =>
    obtain ⟨M, v, h1, h2⟩ := j0 (!insB a p) (fun _ => hk)
    exact ⟨M, v, fun k hk2 => by
      obtain ⟨k, rfl⟩ : ∃ m, k = m + 1 := ⟨k - 1, by omega⟩
      unfold spec_MapPut.f
      rw [spec_ok_ev L (by omega) _ (by omega), Option.bind_some, hk, if_pos rfl, hend, Option.bind_some, h1 k (by omega)], h2⟩
theorem table_l1 (b : List Int) (p : Int) : ∀ (n : Nat) (L : List S43), L.length + n = 7 → ∃ M, (∀ k, n + 1 ≤ k → spec_l20Table.l1 k b p L = some (M, p)) ∧ M.length ≤ 9 := by
  intro n
  induction n with
  | zero =>
    intro L hL
    exact ⟨L, fun k hk => by
      obtain ⟨k, rfl⟩ : ∃ m, k = m + 1 := ⟨k - 1, by omega⟩
      rw [spec_l20Table.l1, if_neg (by omega)], by omega⟩
  | succ n ih =>
    intro L hL
    obtain ⟨M, h1, h2⟩ := ih (L ++ [⟨8, wrap64 (1 + (L.length : Int))⟩]) (by simp; omega)
    exact ⟨M, fun k hk => by
      obtain ⟨k, rfl⟩ : ∃ m, k = m + 1 := ⟨k - 1, by omega⟩
      rw [spec_l20Table.l1, if_pos (by omega), if_pos (by omega), h1 k (by omega)], h2⟩
theorem table_l (b : List Int) (hb : Lib.Bytes b) (hl : b.length ≤ 2000) (x : Int) (hx : 1 ≤ x) (hx2 : x ≤ 1000000) : ∀ (n : Nat) (L : List S43) (p : Int), L.length ≤ 7 → 0 ≤ p → p + 3 * n ≤ 700000 →
    ∃ M p' K, (∀ k, K ≤ k → spec_l20Table.l0 k x (n : Int) b p L = some (M, p')) ∧ M.length ≤ 9 ∧ p ≤ p' ∧ p' ≤ p + 3 * n + 10 := by
  intro n
  induction n with
  | zero =>
    intro L p hL h0 h1
    obtain ⟨v, p1, ⟨K1, e1⟩, g1, g2, _⟩ := odd_ev b hb hl p x (by omega) (by omega) hx hx2
    dsimp only at e1
    cases v with
    | false => exact ⟨L, p1, K1 + 1, fun k hk => by
        obtain ⟨k, rfl⟩ : ∃ m, k = m + 1 := ⟨k - 1, by omega⟩
        rw [spec_l20Table.l0, if_neg (by decide), e1 k (by omega), Option.bind_some]; dsimp only; rw [if_neg (by decide)], by omega, by omega, by omega⟩
    | true =>
      obtain ⟨u, ⟨K2, e2⟩, a2, b2⟩ := pick_ev b hb hl p1 3 (by omega) (by omega) (by omega)
      dsimp only at e2
      by_cases c0 : u = 0
      · obtain ⟨a, q, ⟨K3, e3⟩, _⟩ := out_ev b hb hl (p1 + 1) (by omega) (by omega)
        dsimp only at e3
        exact ⟨L ++ [⟨a, q⟩], p1 + 1 + 2, K1 + K2 + K3 + 1, fun k hk => by
          obtain ⟨k, rfl⟩ : ∃ m, k = m + 1 := ⟨k - 1, by omega⟩
          rw [spec_l20Table.l0, if_neg (by decide), e1 k (by omega), Option.bind_some]; dsimp only
          rw [if_pos rfl, e2 k (by omega), Option.bind_some]; dsimp only
          rw [if_pos c0, e3 k (by omega), Option.bind_some]; dsimp only
          rw [if_pos (by omega)], by simp; omega, by omega, by omega⟩
      · by_cases c1 : u = 1
        · exact ⟨L ++ [⟨9, 9⟩] ++ [⟨9, 9⟩], p1 + 1, K1 + K2 + 1, fun k hk => by
            obtain ⟨k, rfl⟩ : ∃ m, k = m + 1 := ⟨k - 1, by omega⟩
            rw [spec_l20Table.l0, if_neg (by decide), e1 k (by omega), Option.bind_some]; dsimp only
            rw [if_pos rfl, e2 k (by omega), Option.bind_some]; dsimp only
            rw [if_neg c0, if_pos c1, if_pos (by omega), Option.bind_some, if_pos (by simp; omega)], by simp; omega, by omega, by omega⟩
        · obtain ⟨M, h3, h4⟩ := table_l1 b (p1 + 1) (7 - L.length) L (by omega)
          exact ⟨M, p1 + 1, K1 + K2 + 9, fun k hk => by
            obtain ⟨k, rfl⟩ : ∃ m, k = m + 1 := ⟨k - 1, by omega⟩
            rw [spec_l20Table.l0, if_neg (by decide), e1 k (by omega), Option.bind_some]; dsimp only
            rw [if_pos rfl, e2 k (by omega), Option.bind_some]; dsimp only
            rw [if_neg c0, if_neg c1, h3 k (by omega)], h4, by omega, by omega⟩
  | succ n ih =>
    intro L p hL h0 h1
    obtain ⟨a, q, ⟨K1, e1⟩, _⟩ := in_ev b hb hl p h0 (by omega)
    dsimp only at e1
    obtain ⟨M, v, h2, hM⟩ := put_ev L a q (by omega)
    obtain ⟨M2, p2, K3, h3, h4, h5, h6⟩ := ih M (p + 3) hM (by omega) (by omega)
    refine ⟨M2, p2, K1 + K3 + 301, fun k hk => ?_, h4, by omega, by omega⟩
    obtain ⟨k, rfl⟩ : ∃ m, k = m + 1 := ⟨k - 1, by omega⟩
    have hw : wrap64 (((n + 1 : Nat) : Int) - 1) = (n : Int) := by rw [Lib.wrap_id (by omega) (by omega)]; omega
    rw [spec_l20Table.l0, if_pos (by omega), e1 k (by omega), Option.bind_some]; dsimp only
    rw [h2 k (by omega), Option.bind_some]; dsimp only
    rw [hw, h3 k (by omega)]
theorem table_ev (b : List Int) (hb : Lib.Bytes b) (hl : b.length ≤ 2000) (p x : Int) (h0 : 0 ≤ p) (h1 : p ≤ 600000) (hx : 1 ≤ x) (hx2 : x ≤ 1000000) :
    ∃ M p', Ev (fun k => spec_l20Table.f k b p x) (M, p') ∧ M.length ≤ 9 ∧ p ≤ p' ∧ p' ≤ p + 40 := by
  obtain ⟨v, ⟨K1, e1⟩, a1, b1⟩ := pick_ev b hb hl p 8 (by omega) (by omega) (by omega)
  dsimp only at e1
  obtain ⟨n, rfl⟩ := Int.eq_ofNat_of_zero_le a1
  obtain ⟨M, p', K2, h2, h3, h4, h5⟩ := table_l b hb hl x hx hx2 n [] (p + 1) (by simp) (by omega) (by omega)
  refine ⟨M, p', ⟨K1 + K2, fun k hk => ?_⟩, h3, by omega, by omega⟩
  dsimp only
  unfold spec_l20Table.f
  rw [e1 k (by omega), Option.bind_some]; dsimp only
  rw [h2 k (by omega)]
def endV (L : List S43) (x : Int) : Int × Int × Bool := if 500 ≤ x ∧ x ≤ 500 + (L.length : Int) - 1 then ((rd_T43 L (x - 500)).f0, (rd_T43 L (x - 500)).f1, true) else (0, 0, false)
theorem spec_endv_ev (L : List S43) (x : Int) (hL : L.length ≤ 1000000) (h0 : -9223372036854775808 ≤ x) (h1 : x ≤ 9223372036854775807) : spec_MapEnd.f L x = some (endV L x) := by
  unfold spec_MapEnd.f spec_l1In.f endV
  have e1 : wrap64 (500 + (L.length : Int)) = 500 + (L.length : Int) := Lib.wrap_id (by omega) (by omega)
  have e2 : wrap64 (500 + (L.length : Int) - 1) = 500 + (L.length : Int) - 1 := Lib.wrap_id (by omega) (by omega)
  rw [e1, e2]
  by_cases c : x ≥ 500
  · have e3 : wrap64 (x - 500) = x - 500 := Lib.wrap_id (by omega) (by omega)
    rw [if_pos c, Option.bind_some]
    by_cases c2 : x ≤ 500 + (L.length : Int) - 1
    · rw [decide_eq_true c2, if_pos rfl, e3, if_pos (by omega), if_pos (by omega), if_pos ⟨c, c2⟩]
    · rw [decide_eq_false c2, if_neg (by decide), if_neg (fun h => c2 h.2)]
  · rw [if_neg c, Option.bind_some, if_neg (by decide), if_neg (fun h => c h.1)]
theorem impl_endv_ev (L : List S43) (x : Int) (hL : L.length ≤ 1000000) (h0 : -9223372036854775808 ≤ x) (h1 : x ≤ 9223372036854775807) : impl_MapEnd.f L x = some (endV L x) := by
  unfold impl_MapEnd.f
  rw [if_pos (by omega), if_pos (by omega), spec_endv_ev L x hL h0 h1]; rfl
/-! the reference's reading is total -/
theorem plain_tot : ∀ (k : Nat) (n : Int) (x : ByteArray), k ≤ 3 → 0 ≤ n → n ≤ (if k = 0 then 9 else if k = 1 then 99 else if k = 2 then 999 else 9999) → x.size + k ≤ 100 → ∃ t, spec_l1Plain.l0 (k + 1) n x = some t := by
  intro k
  induction k with
  | zero => intro n x _ h0 h1 hx; exact ⟨_, plain_last 0 n x h0 (by simpa using h1) (by omega)⟩
  | succ k ih =>
    intro n x hk h0 h1 hx
    by_cases c : 9 < n
    · have hn : n ≤ 9999 := by split at h1 <;> (try split at h1) <;> (try split at h1) <;> omega
      rw [plain_step (k + 1) n x c (by omega) (by omega)]
      refine ih (n / 10) _ (by omega) (by omega) ?_ (by rw [ByteArray.size_append]; show 1 + x.size + k ≤ 100; omega)
      match k, hk with
      | 0, _ => simp at h1 ⊢; omega
      | 1, _ => simp at h1 ⊢; omega
      | 2, _ => simp at h1 ⊢; omega
    · exact ⟨_, plain_last (k + 1) n x h0 (by omega) (by omega)⟩
theorem plain_all (n : Int) (h0 : 0 ≤ n) (h1 : n ≤ 9999) (k : Nat) (hk : 4 ≤ k) : ∃ t, spec_l1Plain.f k n = some t := by
  obtain ⟨t, ht⟩ := plain_tot 3 n ⟨#[]⟩ (by omega) h0 (by simpa using h1) (by show 0 + 3 ≤ 100; omega)
  exact ⟨t, at_rounds (g := fun k => spec_l1Plain.f k n) (spec_l1Plain.mono n) hk ht⟩
theorem num_tot (w : ByteArray) (hw : w.size ≤ 4) : ∀ (m i k : Nat) (n : Int), i + m = w.size → 0 ≤ n → n ≤ (if m = 0 then 9999 else if m = 1 then 999 else if m = 2 then 99 else if m = 3 then 9 else 0) → m + 5 ≤ k → ∃ v, spec_l1Num.l0 k w n (i : Int) = some v := by
  intro m
  induction m with
  | zero =>
    intro i k n hi h0 h1 hk
    obtain ⟨k, rfl⟩ : ∃ j, k = j + 1 := ⟨k - 1, by omega⟩
    rw [spec_l1Num.l0, if_neg (by omega)]
    obtain ⟨t, ht⟩ := plain_all n h0 (by simpa using h1) k (by omega)
    rw [ht, Option.bind_some]
    by_cases c : t.toList = w.toList
    · rw [if_pos c]; exact ⟨_, rfl⟩
    · rw [if_neg c]; exact ⟨_, rfl⟩
  | succ m ih =>
    intro i k n hi h0 h1 hk
    obtain ⟨k, rfl⟩ : ∃ j, k = j + 1 := ⟨k - 1, by omega⟩
    have hn : n ≤ 9999 := by split at h1 <;> (try split at h1) <;> (try split at h1) <;> (try split at h1) <;> omega
    by_cases c2 : bt w (i : Int) < 48
    · exact ⟨-1, by rw [spec_l1Num.l0, if_pos (by omega), if_pos (by omega), if_pos c2]⟩
    · by_cases c3 : bt w (i : Int) > 57
      · exact ⟨-1, by rw [spec_l1Num.l0, if_pos (by omega), if_pos (by omega), if_neg c2, if_pos c3]⟩
      · have hm : m ≤ 3 := by omega
        obtain ⟨d, hd⟩ : ∃ d, d = bt w (i : Int) - 48 := ⟨_, rfl⟩
        rw [num_step k w n i d (by omega) (by omega) (by omega) (by omega) (by omega) h0 (by omega)]
        refine ih (i + 1) k _ (by omega) (by omega) ?_ (by omega)
        match m, hm with
        | 0, _ => simp at h1 ⊢; omega
        | 1, _ => simp at h1 ⊢; omega
        | 2, _ => simp at h1 ⊢; omega
        | 3, _ => simp at h1 ⊢; omega
theorem num_all (w : ByteArray) (k : Nat) (hk : 12 ≤ k) : ∃ v, spec_l1Num.f k w = some v := by
  obtain ⟨k, rfl⟩ : ∃ j, k = j + 1 := ⟨k - 1, by omega⟩
  have h1 : spec_l1Num.j0 (k + 1) w true = some (-1) := by rw [spec_l1Num.j0, if_pos rfl]
  unfold spec_l1Num.f
  by_cases c : (w.size : Int) = 0
  · rw [if_pos c]; exact ⟨_, h1⟩
  · rw [if_neg c]
    by_cases c4 : (w.size : Int) > 4
    · rw [decide_eq_true c4]; exact ⟨_, h1⟩
    · rw [decide_eq_false c4, spec_l1Num.j0, if_neg (by decide)]
      refine num_tot w (by omega) w.size 0 k 0 (Nat.zero_add _) (by omega) ?_ (by omega)
      split <;> (try split) <;> (try split) <;> (try split) <;> omega
theorem read_all (s : ByteArray) (hs : s.size ≤ 1048576) (k : Nat) (hk : s.size + 20 ≤ k) : ∃ r, spec_EndRead.f k s = some r := by
  unfold spec_EndRead.f spec_l1Words.f
  have hw := words_all s hs s.size 0 k [] ⟨#[]⟩ (Nat.zero_add _) (Nat.zero_le _) (by show 0 ≤ 0; omega) (by omega)
  rw [show ((0 : Nat) : Int) = 0 from rfl] at hw
  rw [hw, Option.bind_some]
  by_cases c : (([] ++ wds s s.size ⟨#[]⟩ 0 : List ByteArray).length : Int) = 2
  · rw [if_pos c, if_pos (by omega)]
    obtain ⟨v1, e1⟩ := num_all (rdOf ByteArray.empty ([] ++ wds s s.size ⟨#[]⟩ 0) 0) k (by omega)
    obtain ⟨v2, e2⟩ := num_all (rdOf ByteArray.empty ([] ++ wds s s.size ⟨#[]⟩ 0) 1) k (by omega)
    rw [e1, Option.bind_some, if_pos (by omega), e2, Option.bind_some, spec_end, Option.bind_some]
    by_cases c2 : decide (endOkP v1 v2) = true
    · rw [if_pos c2]; exact ⟨_, rfl⟩
    · rw [if_neg c2]; exact ⟨_, rfl⟩
  · rw [if_neg c]; exact ⟨_, rfl⟩
/-- What the reference's EndRead of s is, from a number of rounds on. -/
theorem read_ev (s : ByteArray) (hs : s.size ≤ 1048576) : ∃ x y b, Ends.ED s x y b ∧ Ev (fun k => spec_EndRead.f k s) (x, y, b) := by
  obtain ⟨⟨x, y, b⟩, h⟩ := read_all s hs (s.size + 20) (Nat.le_refl _)
  exact ⟨x, y, b, read_part s (by omega) _ x y b h, Ev.of (k := s.size + 20) (spec_EndRead.mono s) h⟩
theorem box_all (s : ByteArray) (hs : s.size ≤ 1048576) : ∃ r, spec_LinBox.f (s.size + 21) s = some r := by
  have ht : ∃ r, spec_LinBox.j0 (s.size + 21) s true = some r := ⟨_, by rw [spec_LinBox.j0, if_pos rfl]⟩
  unfold spec_LinBox.f
  by_cases c : (s.size : Int) < 5
  · rw [if_pos c]; exact ht
  · rw [if_neg c, if_pos (by omega), if_pos (by omega)]
    cases hp : ((s.extract 0 5).toList != ([112, 111, 114, 116, 32] : List UInt8)) with
    | true => exact ht
    | false =>
      rw [spec_LinBox.j0, if_neg (by decide), if_pos (by omega)]
      have hz := ext5 s _ (Nat.le_refl _)
      obtain ⟨⟨u, v, b⟩, e⟩ := read_all (s.extract 5 s.size) (by omega) (s.size + 20) (by omega)
      rw [e, Option.bind_some]
      by_cases c2 : b = true
      · rw [if_pos c2]
        by_cases c3 : u = 50
        · rw [if_pos c3]; exact ⟨_, rfl⟩
        · rw [if_neg c3]; exact ⟨_, rfl⟩
      · rw [if_neg c2]; exact ⟨_, rfl⟩
theorem box_ev (s : ByteArray) (hs : s.size ≤ 1048576) : ∃ x b, Ends.LB s x b ∧ Ev (fun k => spec_LinBox.f k s) (x, b) := by
  obtain ⟨⟨x, b⟩, h⟩ := box_all s hs
  exact ⟨x, b, box_part s (by omega) _ x b h, Ev.of (k := s.size + 21) (spec_LinBox.mono s) h⟩
theorem ha_ev : Ev (fun k => laws_haOk.f k) true := by
  have lin_a : linOkB (⟨#[97]⟩ : ByteArray) = true := by decide
  obtain ⟨K, h⟩ := impl_lin_ev (⟨#[97]⟩ : ByteArray) (by decide)
  refine ⟨K, fun k hk => ?_⟩
  dsimp only at h ⊢
  unfold laws_haOk.f
  rw [h k hk, lin_a]; rfl
theorem text_ev (a p : Int) : Ev (fun k => spec_EndText.f k a p) (textV a p) := by
  unfold textV
  by_cases c : endOkP a p
  · rw [if_pos c]; exact endtext_ev a p c
  · rw [if_neg c]; exact ⟨0, fun k _ => endtext_no a p c k⟩
theorem textV_size2 (a p : Int) : (textV a p).size ≤ 7 := by
  unfold textV
  split
  · exact (endT_size a p).2
  · show 0 ≤ 7; omega
theorem port_ev (a p : Int) : Ev (fun k => spec_LinPort.f k a p) (Ends.portV a p) := by
  unfold Ends.portV
  by_cases c : endOkP a p
  · rw [if_pos c]; exact linport_ev a p c
  · rw [if_neg c]; exact ⟨0, fun k _ => linport_no a p c k⟩
theorem portV_size2 (a p : Int) : (Ends.portV a p).size ≤ 12 := by
  unfold Ends.portV
  split
  · exact (portT_size a p).2
  · show 0 ≤ 12; omega
theorem portI (a p : Int) (k : Nat) : impl_LinPort.f k a p = spec_LinPort.f k a p := by
  unfold impl_LinPort.f
  rw [if_pos (by omega)]
  cases spec_LinPort.f k a p <;> rfl
theorem boxI (s : ByteArray) (hs : s.size ≤ 1048576) (k : Nat) : impl_LinBox.f k s = spec_LinBox.f k s := by
  unfold impl_LinBox.f
  rw [if_pos (by omega), if_pos (by omega)]
  cases spec_LinBox.f k s <;> rfl
theorem dec3_line (a : Int) (h0 : 0 ≤ a) (h1 : a ≤ 999) (i : Nat) (h : i < (dec3 a).size) : lineB (bt (dec3 a) (i : Int)) = true := by
  have hd : ∀ d : Int, 0 ≤ d → d ≤ 9 → lineB (((dig d).toNat : Nat) : Int) = true := fun d d0 d1 => by
    rcases (by omega : d = 0 ∨ d = 1 ∨ d = 2 ∨ d = 3 ∨ d = 4 ∨ d = 5 ∨ d = 6 ∨ d = 7 ∨ d = 8 ∨ d = 9) with rfl | rfl | rfl | rfl | rfl | rfl | rfl | rfl | rfl | rfl <;> decide
  have hb : ∀ (l : List UInt8) (i : Nat) (hi : i < l.length), bt (⟨l.toArray⟩ : ByteArray) (i : Int) = (l[i].toNat : Int) := fun l i hi => by
    rw [Lib.bt_eq _ _ (by simpa [ByteArray.size] using hi)]; rfl
  unfold dec3 at h ⊢
  by_cases c : a > 99
  · rw [if_pos c] at h ⊢
    have h : i < 3 := h
    rw [hb [dig (a / 100), dig (a / 10 % 10), dig (a % 10)] i h]
    match i, h with
    | 0, _ => exact hd _ (by omega) (by omega)
    | 1, _ => exact hd _ (by omega) (by omega)
    | 2, _ => exact hd _ (by omega) (by omega)
  · rw [if_neg c] at h ⊢
    by_cases c2 : a > 9
    · rw [if_pos c2] at h ⊢
      have h : i < 2 := h
      rw [hb [dig (a / 10), dig (a % 10)] i h]
      match i, h with
      | 0, _ => exact hd _ (by omega) (by omega)
      | 1, _ => exact hd _ (by omega) (by omega)
    · rw [if_neg c2] at h ⊢
      have h : i < 1 := h
      rw [hb [dig a] i h]
      match i, h with
      | 0, _ => exact hd _ (by omega) (by omega)
def lineA (s : ByteArray) : Prop := ∀ j, j < s.size → lineB (bt s (j : Int)) = true
theorem lineA_app {s t : ByteArray} (h1 : lineA s) (h2 : lineA t) : lineA (s ++ t) := fun j hj => by
  rw [ByteArray.size_append] at hj
  by_cases c : j < s.size
  · rw [Lib.bt_left _ _ _ c]; exact h1 j c
  · have := Lib.bt_right s t (j - s.size) (by omega)
    rw [show s.size + (j - s.size) = j by omega] at this
    rw [this]; exact h2 _ (by omega)
theorem lin_port (a p : Int) (h : endOkP a p) : linOkB (portT a p) = true := by
  have hr : 0 ≤ a ∧ a ≤ 999 ∧ 0 ≤ p ∧ p ≤ 999 := by unfold endOkP at h; omega
  unfold linOkB
  refine decide_eq_true ⟨by have := (portT_size a p).2; omega, ?_⟩
  show lineA (portT a p)
  unfold portT endT
  refine lineA_app (fun j hj => ?_) (lineA_app (lineA_app (fun j hj => dec3_line a hr.1 hr.2.1 j hj) (fun j hj => ?_)) (fun j hj => dec3_line p hr.2.2.1 hr.2.2.2 j hj))
  · have h : j < 5 := hj
    match j, h with
    | 0, _ => decide
    | 1, _ => decide
    | 2, _ => decide
    | 3, _ => decide
    | 4, _ => decide
  · have h : j < 1 := hj
    match j, h with
    | 0, _ => decide
/-- What goes in: nothing, unless the table and the line are ok; the line of the box's end; else the line itself. -/
def Bk (U : List S43) (s t : ByteArray) : Prop :=
  (¬ (mapOkB U = true ∧ linOkB s = true) ∧ t = ⟨#[]⟩) ∨ (mapOkB U = true ∧ linOkB s = true ∧
    ((∃ x, Ends.LB s x true ∧ (endV U x).2.2 = true ∧ t = Ends.portV (endV U x).1 (endV U x).2.1) ∨ ((∀ x, Ends.LB s x true → (endV U x).2.2 = false) ∧ t = s)))
theorem ok_six (U : List S43) (h : mapOkB U = true) : U.length ≤ 6 := by
  unfold mapOkB at h
  rw [Bool.and_eq_true] at h
  exact of_decide_eq_true h.1
theorem box_range {s : ByteArray} {x : Int} (h : Ends.LB s x true) : 1 ≤ x ∧ x ≤ 999 := by
  rcases h with ⟨h, _⟩ | ⟨_, _, h⟩
  · have := h.1; unfold endOkP at this; omega
  · cases h
theorem bak_ev (U : List S43) (s : ByteArray) (hU : U.length ≤ 1048576) (hs : s.size ≤ 1048576) :
    ∃ t, Bk U s t ∧ Ev (fun k => spec_BakLine.f k U s) t ∧ Ev (fun k => impl_BakLine.f k U s) t := by
  obtain ⟨x, b, hB, K1, e1⟩ := box_ev s hs
  obtain ⟨K2, e2⟩ := spec_lin_ev s
  obtain ⟨K3, e3⟩ := impl_lin_ev s (by omega)
  obtain ⟨K4, e4⟩ := port_ev (endV U x).1 (endV U x).2.1
  dsimp only at e1 e2 e3 e4
  obtain ⟨K, hK⟩ : ∃ K, K = K1 + K2 + K3 + K4 + 2 * U.length + 10 := ⟨_, rfl⟩
  cases hm : mapOkB U with
  | false =>
    refine ⟨⟨#[]⟩, .inl ⟨fun h => (by rw [hm] at h; cases h.1), rfl⟩, ⟨K, fun k hk => ?_⟩, ⟨K, fun k hk => ?_⟩⟩
    · dsimp only; unfold spec_BakLine.f
      rw [spec_ok_ev U (by omega) k (by omega), Option.bind_some, hm, if_neg (by decide)]
    · dsimp only; unfold impl_BakLine.f
      rw [impl_ok_ev U (by omega) k (by omega), Option.bind_some, hm, if_neg (by decide)]
  | true =>
    have h6 := ok_six U hm
    cases hl : linOkB s with
    | false =>
      refine ⟨⟨#[]⟩, .inl ⟨fun h => (by rw [hl] at h; cases h.2), rfl⟩, ⟨K, fun k hk => ?_⟩, ⟨K, fun k hk => ?_⟩⟩
      · dsimp only; unfold spec_BakLine.f
        rw [spec_ok_ev U (by omega) k (by omega), Option.bind_some, hm, if_pos rfl, e2 k (by omega), Option.bind_some, hl, if_neg (by decide)]
      · dsimp only; unfold impl_BakLine.f
        rw [impl_ok_ev U (by omega) k (by omega), Option.bind_some, hm, if_pos rfl, e3 k (by omega), Option.bind_some, hl, if_neg (by decide)]
    | true =>
      have fin : ∀ t, ((∃ x, Ends.LB s x true ∧ (endV U x).2.2 = true ∧ t = Ends.portV (endV U x).1 (endV U x).2.1) ∨ ((∀ x, Ends.LB s x true → (endV U x).2.2 = false) ∧ t = s)) → (∀ k, K ≤ k → spec_l3Back.f k U s = some t ∧ impl_MapTab_goesIn.f k U s = some t) → ∃ t, Bk U s t ∧ Ev (fun k => spec_BakLine.f k U s) t ∧ Ev (fun k => impl_BakLine.f k U s) t := fun t h1 h2 => by
        refine ⟨t, .inr ⟨hm, hl, h1⟩, ⟨K, fun k hk => ?_⟩, ⟨K, fun k hk => ?_⟩⟩
        · dsimp only; unfold spec_BakLine.f
          rw [spec_ok_ev U (by omega) k (by omega), Option.bind_some, hm, if_pos rfl, e2 k (by omega), Option.bind_some, hl, if_pos rfl, (h2 k hk).1]; rfl
        · dsimp only; unfold impl_BakLine.f
          rw [impl_ok_ev U (by omega) k (by omega), Option.bind_some, hm, if_pos rfl, e3 k (by omega), Option.bind_some, hl, if_pos rfl, (h2 k hk).2]; rfl
      cases b with
      | false =>
        refine fin s (.inr ⟨fun x' h => ?_, rfl⟩) (fun k hk => ⟨?_, ?_⟩)
        · have := (lb_one hB h).2; cases this
        · unfold spec_l3Back.f
          rw [e1 k (by omega), Option.bind_some, if_neg (by simp)]
        · unfold impl_MapTab_goesIn.f
          rw [boxI s hs, e1 k (by omega), Option.bind_some, if_neg (by simp)]
      | true =>
        have hx := box_range hB
        have m1 := spec_endv_ev U x (by omega) (by omega) (by omega)
        have m2 := impl_endv_ev U x (by omega) (by omega) (by omega)
        cases hc : (endV U x).2.2 with
        | true =>
          refine fin _ (.inl ⟨x, hB, hc, rfl⟩) (fun k hk => ⟨?_, ?_⟩)
          · unfold spec_l3Back.f
            rw [e1 k (by omega), Option.bind_some, if_pos rfl, m1, Option.bind_some, hc, if_pos rfl, e4 k (by omega)]; rfl
          · unfold impl_MapTab_goesIn.f
            rw [boxI s hs, e1 k (by omega), Option.bind_some, if_pos rfl, m2, Option.bind_some, hc, if_pos rfl, portI, e4 k (by omega)]; rfl
        | false =>
          refine fin s (.inr ⟨fun x' h => ?_, rfl⟩) (fun k hk => ⟨?_, ?_⟩)
          · rw [(lb_one hB h).1]; exact hc
          · unfold spec_l3Back.f
            rw [e1 k (by omega), Option.bind_some, if_pos rfl, m1, Option.bind_some, hc, if_neg (by decide)]
          · unfold impl_MapTab_goesIn.f
            rw [boxI s hs, e1 k (by omega), Option.bind_some, if_pos rfl, m2, Option.bind_some, hc, if_neg (by decide)]
theorem drawbakline_ev (l : List Int) (hb : Lib.Bytes l) (hl : l.length ≤ 9223372036854775807) : ∃ U s, Ev (fun k => spec_DrawBakLine.f k l) (U, s) ∧ U.length ≤ 9 ∧ s.size ≤ 17 := by
  obtain ⟨t0, ⟨K5, e5⟩, s5⟩ := drawlinok_ev l hb hl
  obtain ⟨b, h0, hb, hl⟩ := open_eq l hb hl
  obtain ⟨M, p1, ⟨K1, e1⟩, hM, g1, g2⟩ := table_ev b hb hl 0 12 (by omega) (by omega) (by omega) (by omega)
  obtain ⟨u, ⟨K2, e2⟩, a2, b2⟩ := pick_ev b hb hl p1 3 (by omega) (by omega) (by omega)
  obtain ⟨v, ⟨K3, e3⟩, a3, b3⟩ := pick_ev b hb hl (p1 + 1) 8 (by omega) (by omega) (by omega)
  obtain ⟨K4, e4⟩ := port_ev 50 (wrap64 (500 + v))
  dsimp only at e1 e2 e3 e4 e5
  by_cases c0 : u > 0
  · refine ⟨M, _, ⟨K1 + K2 + K3 + K4, fun k hk => ?_⟩, hM, Nat.le_trans (portV_size2 50 (wrap64 (500 + v))) (by omega)⟩
    dsimp only
    unfold spec_DrawBakLine.f
    rw [h0, Option.bind_some]; dsimp only
    rw [e1 k (by omega), Option.bind_some]; dsimp only
    rw [e2 k (by omega), Option.bind_some]; dsimp only
    rw [if_pos c0, e3 k (by omega), Option.bind_some]; dsimp only
    rw [e4 k (by omega)]; rfl
  · refine ⟨M, t0, ⟨K1 + K2 + K5, fun k hk => ?_⟩, hM, s5⟩
    dsimp only
    unfold spec_DrawBakLine.f
    rw [h0, Option.bind_some]; dsimp only
    rw [e1 k (by omega), Option.bind_some]; dsimp only
    rw [e2 k (by omega), Option.bind_some]; dsimp only
    rw [if_neg c0, e5 k (by omega)]; rfl
theorem okF_at (L : List S43) : ∀ (n i j : Nat), okF L n i = true → i ≤ j → j < i + n → insB (rd_T43 L (j : Int)).f0 (rd_T43 L (j : Int)).f1 = true ∧ fnd (L.take j) (rd_T43 L (j : Int)).f0 (rd_T43 L (j : Int)).f1 0 < 0 := by
  intro n
  induction n with
  | zero => intro i j _ h1 h2; omega
  | succ n ih =>
    intro i j h h1 h2
    rw [okF, Bool.and_eq_true, Bool.and_eq_true] at h
    by_cases e : j = i
    · subst e; exact ⟨h.1, of_decide_eq_true h.2.1⟩
    · exact ih (i + 1) j h.2.2 (by omega) (by omega)
end Go.Proofs.YtlofgoahgnllkaaDoor.QFnBakAgain
