/- What the reference's draws and functions that this law reaches come to: plain lemmas on the printed functions. -/
import Derived.Test.YtdfoelhpeeanlaaQFnSegCutx9
import Derived.Test.YtdfoelhpeeanlaaLib
import Derived.Laws.BitsLemmas
set_option linter.unusedVariables false
set_option linter.unusedSimpArgs false
namespace Go.Proofs.Ytdfoelhpeeanlaa.QFnSegCut
open Go.RowKit Go.Proofs.YtdfoelhpeeanlaaW.PrintWords Go.Proofs.YtdfoelhpeeanlaaW.PrintLast Go.Proofs.YtdfoelhpeeanlaaW.PrintMore
open Go.Proofs.Ytdfoelhpeeanlaa
theorem xor_nonneg (a b : Int) (h0 : 0 ≤ a) (h1 : a < 4611686018427387904) (h2 : 0 ≤ b) (h3 : b < 4611686018427387904) : 0 ≤ Go.bits .xor .i64 a b := by
  obtain ⟨m, rfl⟩ := Int.eq_ofNat_of_zero_le h0
  obtain ⟨n, rfl⟩ := Int.eq_ofNat_of_zero_le h2
  have hm : m % 2 ^ 64 = m := Nat.mod_eq_of_lt (by omega)
  have hn : n % 2 ^ 64 = n := Nat.mod_eq_of_lt (by omega)
  have hx : m ^^^ n < 2 ^ 62 := Nat.xor_lt_two_pow (by omega) (by omega)
  have e : Go.bits .xor .i64 (m : Int) (n : Int) = IntKind.i64.wrap ((m ^^^ n : Nat) : Int) := by
    have hb : (BitVec.ofNat 64 m ^^^ BitVec.ofNat 64 n).toNat = m ^^^ n := by rw [BitVec.toNat_xor, BitVec.toNat_ofNat, BitVec.toNat_ofNat, hm, hn]
    simp only [bits, IntKind.bits, BitVec.ofInt_natCast]
    exact congrArg (fun z : Nat => IntKind.i64.wrap (z : Int)) hb
  rw [e, IntKind.wrap_i64]
  omega
theorem pick_ev (b : List Int) (hb : Lib.Bytes b) (hl : b.length ≤ 2000) (p n : Int) (h0 : 0 ≤ p) (h1 : p ≤ 1000000) (hn : 1 ≤ n) :
    ∃ v, Ev (fun k => spec_l20Rd_pick.f k b p n) (v, p + 1) ∧ 0 ≤ v ∧ v < n := by
  have go : ∀ v, spec_l20Rd_pick.f 1 b p n = some (v, p + 1) → 0 ≤ v → v < n → ∃ v, Ev (fun k => spec_l20Rd_pick.f k b p n) (v, p + 1) ∧ 0 ≤ v ∧ v < n :=
    fun v h a c => ⟨v, Ev.of (spec_l20Rd_pick.mono b p n) h, a, c⟩
  have e1 : wrap64 (p + 1) = p + 1 := Lib.wrap_id (by omega) (by omega)
  have e2 : wrap64 (p + 1 - 1) = p := by rw [Lib.wrap_id (by omega) (by omega)]; omega
  by_cases hz : b.length = 0
  · refine go 0 ?_ (by omega) (by omega)
    unfold spec_l20Rd_pick.f
    rw [if_neg (by omega), spec_l20Rd_pick.j0, if_pos (by simp [hz]), e1]
  · have e3 : ((b.length : Int) == 0) = false := by rw [beq_eq_false_iff_ne]; omega
    by_cases hp : p < (b.length : Int)
    · obtain ⟨i, rfl⟩ := Int.eq_ofNat_of_zero_le h0
      have hr := Lib.bytes_rd hb i
      refine go (rd b (i : Int) % n) ?_ (Int.emod_nonneg _ (by omega)) (Int.emod_lt_of_pos _ (by omega))
      unfold spec_l20Rd_pick.f
      rw [if_neg (by omega), spec_l20Rd_pick.j0, if_neg (by rw [e3]; decide), e1, e2, if_pos hp, if_pos (by omega), if_neg (by omega), Lib.wrap_id (x := rd b (i : Int)) (by omega) (by omega), Int.tmod_eq_emod_of_nonneg (by omega)]
    · have hL : (0 : Int) < (b.length : Int) := by omega
      have q1 : Int.tmod p (b.length : Int) = p % (b.length : Int) := Int.tmod_eq_emod_of_nonneg (by omega)
      have w1 : wrap64 (p * 7) = p * 7 := Lib.wrap_id (by omega) (by omega)
      have w2 : wrap64 (p * 7 + 3) = p * 7 + 3 := Lib.wrap_id (by omega) (by omega)
      have q2 : Int.tmod (p * 7 + 3) (b.length : Int) = (p * 7 + 3) % (b.length : Int) := Int.tmod_eq_emod_of_nonneg (by omega)
      have m1 := Int.emod_nonneg p (show (b.length : Int) ≠ 0 by omega)
      have m2 := Int.emod_lt_of_pos p hL
      have m3 := Int.emod_nonneg (p * 7 + 3) (show (b.length : Int) ≠ 0 by omega)
      have m4 := Int.emod_lt_of_pos (p * 7 + 3) hL
      obtain ⟨i, hi⟩ := Int.eq_ofNat_of_zero_le m1
      obtain ⟨j, hj⟩ := Int.eq_ofNat_of_zero_le m3
      have r1 := Lib.bytes_rd hb i
      have r2 := Lib.bytes_rd hb j
      rw [← hi] at r1
      rw [← hj] at r2
      have d1 : Int.tdiv p (b.length : Int) = p / (b.length : Int) := Int.tdiv_eq_ediv_of_nonneg h0
      have d2 : 0 ≤ p / (b.length : Int) := Int.ediv_nonneg h0 (by omega)
      have d3 : p / (b.length : Int) ≤ p := Int.ediv_le_self _ h0
      obtain ⟨u, hu⟩ : ∃ u, u = rd b (p % (b.length : Int)) := ⟨_, rfl⟩
      obtain ⟨v, hv⟩ : ∃ v, v = rd b ((p * 7 + 3) % (b.length : Int)) := ⟨_, rfl⟩
      obtain ⟨q, hq⟩ : ∃ q, q = p / (b.length : Int) := ⟨_, rfl⟩
      rw [← hu] at r1
      rw [← hv] at r2
      rw [← hq] at d2 d3
      have x0 : wrap64 (wrap64 (wrap64 (wrap64 (wrap64 u * 131) + wrap64 (wrap64 v * 1117)) + wrap64 (p * 29)) + wrap64 (wrap64 q * 53)) = u * 131 + v * 1117 + p * 29 + q * 53 := by
        rw [Lib.wrap_id (x := u) (by omega) (by omega), Lib.wrap_id (x := v) (by omega) (by omega), Lib.wrap_id (x := q) (by omega) (by omega), Lib.wrap_id (x := u * 131) (by omega) (by omega), Lib.wrap_id (x := v * 1117) (by omega) (by omega),
          Lib.wrap_id (x := p * 29) (by omega) (by omega), Lib.wrap_id (x := q * 53) (by omega) (by omega), Lib.wrap_id (x := u * 131 + v * 1117) (by omega) (by omega), Lib.wrap_id (x := u * 131 + v * 1117 + p * 29) (by omega) (by omega), Lib.wrap_id (by omega) (by omega)]
      obtain ⟨X, hX⟩ : ∃ X, X = u * 131 + v * 1117 + p * 29 + q * 53 := ⟨_, rfl⟩
      have X0 : 0 ≤ X := by omega
      have X1 : X < 4611686018427387904 := by omega
      have x1 : wrap64 (Int.tdiv X 64) = X / 64 := by rw [Int.tdiv_eq_ediv_of_nonneg X0, Lib.wrap_id (by omega) (by omega)]
      have hx := xor_nonneg X (X / 64) X0 X1 (by omega) (by omega)
      refine go (Go.bits .xor .i64 X (X / 64) % n) ?_ (Int.emod_nonneg _ (by omega)) (Int.emod_lt_of_pos _ (by omega))
      unfold spec_l20Rd_pick.f
      rw [if_neg (by omega), spec_l20Rd_pick.j0, if_neg (by rw [e3]; decide), e1, e2, if_neg hp, if_neg (by omega), w1, w2, q1, q2, if_pos m1, if_pos m2, if_pos m3, if_pos m4, if_neg (by omega), d1, ← hu, ← hv, ← hq, x0, ← hX, x1, Int.tmod_eq_emod_of_nonneg hx]
theorem open_eq (l : List Int) (hb : Lib.Bytes l) (hl : l.length ≤ 9223372036854775807) : ∃ b, spec_l20Open.f l = some (b, 0) ∧ Lib.Bytes b ∧ b.length ≤ 2000 := by
  unfold spec_l20Open.f
  by_cases c : (l.length : Int) > 2000
  · exact ⟨l.take 2000, by rw [if_pos c, if_pos (by omega)], fun x hx => hb x (List.mem_of_mem_take hx), by simp; omega⟩
  · exact ⟨l, by rw [if_neg c], hb, by omega⟩
theorem in_ev (b : List Int) (hb : Lib.Bytes b) (hl : b.length ≤ 2000) (p : Int) (h0 : 0 ≤ p) (h1 : p ≤ 999000) :
    ∃ a q, Ev (fun k => spec_l20In.f k b p) (a, q, p + 3) ∧ 1 ≤ a ∧ a ≤ 4 ∧ 1 ≤ q ∧ q ≤ 999 := by
  obtain ⟨v1, ⟨K1, e1⟩, a1, b1⟩ := pick_ev b hb hl p 4 h0 (by omega) (by omega)
  obtain ⟨v2, ⟨K2, e2⟩, a2, b2⟩ := pick_ev b hb hl (p + 1) 40 (by omega) (by omega) (by omega)
  obtain ⟨v3, ⟨K3, e3⟩, a3, b3⟩ := pick_ev b hb hl (p + 1 + 1) 5 (by omega) (by omega) (by omega)
  have hr : 1 ≤ rd [7, 20, 300, 999, wrap64 (1 + v2)] v3 ∧ rd [7, 20, 300, 999, wrap64 (1 + v2)] v3 ≤ 999 := by
    rw [Lib.wrap_id (x := 1 + v2) (by omega) (by omega)]
    rcases (by omega : v3 = 0 ∨ v3 = 1 ∨ v3 = 2 ∨ v3 = 3 ∨ v3 = 4) with rfl | rfl | rfl | rfl | rfl <;> simp [rd] <;> omega
  refine ⟨1 + v1, rd [7, 20, 300, 999, wrap64 (1 + v2)] v3, ⟨K1 + K2 + K3, fun k hk => ?_⟩, by omega, by omega, hr.1, hr.2⟩
  dsimp only at e1 e2 e3 ⊢
  unfold spec_l20In.f
  rw [e1 k (by omega)]; simp only [Option.bind_some]
  rw [e2 k (by omega)]; simp only [Option.bind_some]
  rw [e3 k (by omega)]; simp only [Option.bind_some]
  rw [if_pos a3, if_pos (by simpa using b3), Lib.wrap_id (x := 1 + v1) (by omega) (by omega), show p + 1 + 1 + 1 = p + 3 by omega]
theorem out_ev (b : List Int) (hb : Lib.Bytes b) (hl : b.length ≤ 2000) (p : Int) (h0 : 0 ≤ p) (h1 : p ≤ 999000) :
    ∃ a q, Ev (fun k => spec_l20Out.f k b p) (a, q, p + 2) ∧ 100 ≤ a ∧ a ≤ 102 ∧ 1 ≤ q ∧ q ≤ 80 := by
  obtain ⟨v1, ⟨K1, e1⟩, a1, b1⟩ := pick_ev b hb hl p 3 h0 (by omega) (by omega)
  obtain ⟨v2, ⟨K2, e2⟩, a2, b2⟩ := pick_ev b hb hl (p + 1) 4 (by omega) (by omega) (by omega)
  have hr : 1 ≤ rd [21, 21, 80, 7] v2 ∧ rd [21, 21, 80, 7] v2 ≤ 80 := by
    rcases (by omega : v2 = 0 ∨ v2 = 1 ∨ v2 = 2 ∨ v2 = 3) with rfl | rfl | rfl | rfl <;> simp [rd]
  refine ⟨100 + v1, rd [21, 21, 80, 7] v2, ⟨K1 + K2, fun k hk => ?_⟩, by omega, by omega, hr.1, hr.2⟩
  dsimp only at e1 e2 ⊢
  unfold spec_l20Out.f
  rw [e1 k (by omega)]; simp only [Option.bind_some]
  rw [e2 k (by omega)]; simp only [Option.bind_some]
  rw [if_pos a2, if_pos (by simpa using b2), Lib.wrap_id (x := 100 + v1) (by omega) (by omega), show p + 1 + 1 = p + 2 by omega]
def dig (d : Int) : UInt8 := UInt8.ofNat (48 + d).toNat
/-- The digits of a number of at most three. -/
def dec3 (n : Int) : ByteArray := if n > 99 then ⟨#[dig (n / 100), dig (n / 10 % 10), dig (n % 10)]⟩ else if n > 9 then ⟨#[dig (n / 10), dig (n % 10)]⟩ else ⟨#[dig n]⟩
theorem dec3_size (n : Int) : 1 ≤ (dec3 n).size ∧ (dec3 n).size ≤ 3 := by
  unfold dec3
  split
  · exact ⟨by show 1 ≤ 3; omega, by show 3 ≤ 3; omega⟩
  · split
    · exact ⟨by show 1 ≤ 2; omega, by show 2 ≤ 3; omega⟩
    · exact ⟨by show 1 ≤ 1; omega, by show 1 ≤ 3; omega⟩
theorem nums1 (x : Int) (h0 : 0 ≤ x) (h1 : x ≤ 9) : strOfNums [wrap64 (48 + x) % 256] = ⟨#[dig x]⟩ := by
  rw [Lib.wrap_id (by omega) (by omega), show (48 + x) % 256 = 48 + x by omega]; rfl
theorem plain_last (k : Nat) (n : Int) (t : ByteArray) (h0 : 0 ≤ n) (h1 : n ≤ 9) (ht : t.size ≤ 1000000) : spec_l1Plain.l0 (k + 1) n t = some ((⟨#[dig n]⟩ : ByteArray) ++ t) := by
  rw [spec_l1Plain.l0, if_neg (by omega)]
  simp only [Option.bind_some]
  rw [nums1 n h0 h1, if_pos (by show 1 + t.size ≤ _; omega)]
theorem plain_step (k : Nat) (n : Int) (t : ByteArray) (h0 : 9 < n) (h1 : n ≤ 1000000) (ht : t.size ≤ 1000000) : spec_l1Plain.l0 (k + 1) n t = spec_l1Plain.l0 k (n / 10) ((⟨#[dig (n % 10)]⟩ : ByteArray) ++ t) := by
  rw [spec_l1Plain.l0, if_pos (by omega)]
  simp only [Option.bind_some]
  have e : Int.tmod n 10 = n % 10 := Int.tmod_eq_emod_of_nonneg (by omega)
  have e2 : Int.tdiv n 10 = n / 10 := Int.tdiv_eq_ediv_of_nonneg (by omega)
  rw [e, e2, nums1 (n % 10) (by omega) (by omega), if_pos (by show 1 + t.size ≤ _; omega), Lib.wrap_id (by omega) (by omega)]
theorem app1 (a : UInt8) (l : List UInt8) : (⟨#[a]⟩ : ByteArray) ++ (⟨l.toArray⟩ : ByteArray) = ⟨(a :: l).toArray⟩ := by
  apply ByteArray.ext
  simp [ByteArray.data_append]
theorem plain_ev (n : Int) (h0 : 0 ≤ n) (h1 : n ≤ 999) : Ev (fun k => spec_l1Plain.f k n) (dec3 n) := by
  refine Ev.of (k := 3) (spec_l1Plain.mono n) ?_
  have z : (⟨#[]⟩ : ByteArray) = ⟨([] : List UInt8).toArray⟩ := rfl
  show spec_l1Plain.f 3 n = some (dec3 n)
  unfold spec_l1Plain.f dec3
  by_cases c : n > 99
  · rw [if_pos c, plain_step 2 n _ (by omega) (by omega) (by show 0 ≤ 1000000; omega), plain_step 1 (n / 10) _ (by omega) (by omega) (by show 1 ≤ 1000000; omega), plain_last 0 (n / 10 / 10) _ (by omega) (by omega) (by show 2 ≤ 1000000; omega), z, app1, app1, app1, show n / 10 / 10 = n / 100 by omega]
  · rw [if_neg c]
    by_cases c2 : n > 9
    · rw [if_pos c2, plain_step 2 n _ (by omega) (by omega) (by show 0 ≤ 1000000; omega), plain_last 1 (n / 10) _ (by omega) (by omega) (by show 1 ≤ 1000000; omega), z, app1, app1]
    · rw [if_neg c2, plain_last 2 n _ (by omega) (by omega) (by show 0 ≤ 1000000; omega), z, app1]
def endT (a p : Int) : ByteArray := dec3 a ++ (⟨#[32]⟩ : ByteArray) ++ dec3 p
theorem endT_size (a p : Int) : 3 ≤ (endT a p).size ∧ (endT a p).size ≤ 7 := by
  have h1 := dec3_size a
  have h2 := dec3_size p
  have h3 : (⟨#[32]⟩ : ByteArray).size = 1 := rfl
  unfold endT
  rw [ByteArray.size_append, ByteArray.size_append]
  omega
theorem endtext_ev (a p : Int) (h : endOkP a p) : Ev (fun k => spec_EndText.f k a p) (endT a p) := by
  obtain ⟨K1, e1⟩ := plain_ev a (by unfold endOkP at h; omega) (by unfold endOkP at h; omega)
  obtain ⟨K2, e2⟩ := plain_ev p (by unfold endOkP at h; omega) (by unfold endOkP at h; omega)
  have h1 := dec3_size a
  have h2 := dec3_size p
  refine ⟨K1 + K2, fun k hk => ?_⟩
  dsimp only at e1 e2 ⊢
  unfold spec_EndText.f
  rw [spec_end]; simp only [Option.bind_some, decide_eq_true_eq]
  rw [if_pos h, e1 k (by omega)]; simp only [Option.bind_some]
  rw [if_pos (by omega), e2 k (by omega)]; simp only [Option.bind_some]
  rw [if_pos (by rw [ByteArray.size_append]; show (dec3 a).size + 1 + _ ≤ _; omega)]
  rfl
theorem endtext_no (a p : Int) (h : ¬ endOkP a p) (k : Nat) : spec_EndText.f k a p = some ⟨#[]⟩ := by
  unfold spec_EndText.f
  rw [spec_end]; simp only [Option.bind_some, decide_eq_true_eq]
  rw [if_neg h]
def portT (a p : Int) : ByteArray := (⟨#[112, 111, 114, 116, 32]⟩ : ByteArray) ++ endT a p
theorem portT_size (a p : Int) : 8 ≤ (portT a p).size ∧ (portT a p).size ≤ 12 := by
  have h1 := endT_size a p
  have h3 : (⟨#[112, 111, 114, 116, 32]⟩ : ByteArray).size = 5 := rfl
  unfold portT
  rw [ByteArray.size_append]
  omega
theorem linport_ev (a p : Int) (h : endOkP a p) : Ev (fun k => spec_LinPort.f k a p) (portT a p) := by
  obtain ⟨K1, e1⟩ := endtext_ev a p h
  have h1 := endT_size a p
  refine ⟨K1, fun k hk => ?_⟩
  dsimp only at e1 ⊢
  unfold spec_LinPort.f
  rw [spec_end]; simp only [Option.bind_some, decide_eq_true_eq]
  rw [if_pos h, e1 k (by omega)]; simp only [Option.bind_some]
  rw [if_pos (by omega)]
  rfl
theorem linport_no (a p : Int) (h : ¬ endOkP a p) (k : Nat) : spec_LinPort.f k a p = some ⟨#[]⟩ := by
  unfold spec_LinPort.f
  rw [spec_end]; simp only [Option.bind_some, decide_eq_true_eq]
  rw [if_neg h]
def lines1 : List ByteArray := [(⟨#[]⟩ : ByteArray), (⟨#[108, 105, 115, 116]⟩ : ByteArray), (⟨#[117, 115, 101, 114, 32, 97]⟩ : ByteArray), (⟨#[112, 111, 114, 116, 32, 53, 48, 32, 53, 48, 48]⟩ : ByteArray), (⟨#[112, 111, 114, 116, 32, 49, 48, 48, 32, 57]⟩ : ByteArray), (⟨#[112, 111, 114, 116, 32, 48, 49, 32, 50]⟩ : ByteArray), (⟨#[112, 111, 114, 116, 32, 49]⟩ : ByteArray), (⟨#[97, 98, 99, 100, 101, 102, 103, 104, 105, 106, 32, 107, 108, 109, 110, 111]⟩ : ByteArray), (⟨#[112, 111, 114, 116]⟩ : ByteArray), (⟨#[112, 111, 114, 116, 32, 49, 32, 50, 32, 51]⟩ : ByteArray)]
def lines2 : List ByteArray := [(⟨#[97]⟩ : ByteArray), (⟨#[98, 98]⟩ : ByteArray), (⟨#[103, 101, 116, 32, 102, 105, 108, 101, 49]⟩ : ByteArray), (⟨#[113, 117, 105, 116]⟩ : ByteArray)]
/-- A drawn line: it is short; and, where it is asked, what its bytes are. -/
theorem line_ev (b : List Int) (hb : Lib.Bytes b) (hl : b.length ≤ 2000) (p : Int) (h0 : 0 ≤ p) (h1 : p ≤ 990000) :
    ∃ t p', Ev (fun k => spec_l20Line.f k b p) (t, p') ∧ t.size ≤ 16 ∧ p < p' ∧ p' ≤ p + 4 := by
  obtain ⟨v1, ⟨K1, e1⟩, a1, b1⟩ := pick_ev b hb hl p 3 h0 (by omega) (by omega)
  dsimp only at e1
  by_cases c1 : v1 = 0
  · obtain ⟨a, q, ⟨K2, e2⟩, g1, g2, g3, g4⟩ := in_ev b hb hl (p + 1) (by omega) (by omega)
    obtain ⟨K3, e3⟩ := linport_ev a q (by unfold endOkP; omega)
    dsimp only at e2 e3
    refine ⟨portT a q, p + 1 + 3, ⟨K1 + K2 + K3, fun k hk => ?_⟩, by have := portT_size a q; omega, by omega, by omega⟩
    dsimp only
    unfold spec_l20Line.f
    rw [e1 k (by omega)]; simp only [Option.bind_some]
    rw [if_pos c1, e2 k (by omega)]; simp only [Option.bind_some]
    rw [e3 k (by omega)]; rfl
  · by_cases c2 : v1 = 1
    · obtain ⟨v2, ⟨K2, e2⟩, a2, b2⟩ := pick_ev b hb hl (p + 1) 10 (by omega) (by omega) (by omega)
      dsimp only at e2
      refine ⟨rdOf ByteArray.empty lines1 v2, p + 1 + 1, ⟨K1 + K2, fun k hk => ?_⟩, ?_, by omega, by omega⟩
      · dsimp only
        unfold spec_l20Line.f
        rw [e1 k (by omega)]; simp only [Option.bind_some]
        rw [if_neg c1, if_pos c2, e2 k (by omega)]; simp only [Option.bind_some]
        rw [if_pos a2, if_pos (by simpa using b2)]; rfl
      · rcases (by omega : v2 = 0 ∨ v2 = 1 ∨ v2 = 2 ∨ v2 = 3 ∨ v2 = 4 ∨ v2 = 5 ∨ v2 = 6 ∨ v2 = 7 ∨ v2 = 8 ∨ v2 = 9) with rfl | rfl | rfl | rfl | rfl | rfl | rfl | rfl | rfl | rfl <;> decide
    · obtain ⟨v2, ⟨K2, e2⟩, a2, b2⟩ := pick_ev b hb hl (p + 1) 4 (by omega) (by omega) (by omega)
      dsimp only at e2
      refine ⟨rdOf ByteArray.empty lines2 v2, p + 1 + 1, ⟨K1 + K2, fun k hk => ?_⟩, ?_, by omega, by omega⟩
      · dsimp only
        unfold spec_l20Line.f
        rw [e1 k (by omega)]; simp only [Option.bind_some]
        rw [if_neg c1, if_neg c2, e2 k (by omega)]; simp only [Option.bind_some]
        rw [if_pos a2, if_pos (by simpa using b2)]; rfl
      · rcases (by omega : v2 = 0 ∨ v2 = 1 ∨ v2 = 2 ∨ v2 = 3) with rfl | rfl | rfl | rfl <;> decide
theorem odd_ev (b : List Int) (hb : Lib.Bytes b) (hl : b.length ≤ 2000) (p n : Int) (h0 : 0 ≤ p) (h1 : p ≤ 1000000) (hn : 1 ≤ n) (hn2 : n ≤ 1000000) :
    ∃ v p', Ev (fun k => spec_l20Rd_odd.f k b p n) (v, p') ∧ p ≤ p' ∧ p' ≤ p + 1 ∧ (9000 ≤ n → v = false ∧ p' = p) := by
  by_cases c : n < 9000
  · obtain ⟨v, ⟨K, e⟩, _, _⟩ := pick_ev b hb hl p n h0 h1 hn
    dsimp only at e
    refine ⟨v == wrap64 (n - 1), p + 1, ⟨K, fun k hk => ?_⟩, by omega, by omega, fun h => by omega⟩
    dsimp only
    unfold spec_l20Rd_odd.f
    rw [if_pos c, e k hk]; rfl
  · refine ⟨false, p, ⟨0, fun k hk => ?_⟩, by omega, by omega, fun _ => ⟨rfl, rfl⟩⟩
    dsimp only
    unfold spec_l20Rd_odd.f
    rw [if_neg c]
theorem end_ev (b : List Int) (hb : Lib.Bytes b) (hl : b.length ≤ 2000) (p n : Int) (h0 : 0 ≤ p) (h1 : p ≤ 900000) (hn : 1 ≤ n) (hn2 : n ≤ 1000000) :
    ∃ a q p', Ev (fun k => spec_l20End.f k b p n) (a, q, p') ∧ p ≤ p' ∧ p' ≤ p + 10 ∧ -1 ≤ a ∧ a ≤ 110 ∧ -1 ≤ q ∧ q ≤ 1000 ∧ (9000 ≤ n → endOkP a q) := by
  obtain ⟨v0, p0, ⟨K0, e0⟩, g0, g1, g2⟩ := odd_ev b hb hl p n h0 (by omega) hn hn2
  dsimp only at e0
  cases v0 with
  | true =>
    obtain ⟨v1, ⟨K1, e1⟩, a1, b1⟩ := pick_ev b hb hl p0 6 (by omega) (by omega) (by omega)
    dsimp only at e1
    obtain ⟨xs, hxs⟩ : ∃ xs : List (S29), xs = [(⟨0, 0⟩ : S29), (⟨10, 5⟩ : S29), (⟨1, 0⟩ : S29), (⟨1, 1000⟩ : S29), (⟨110, 3⟩ : S29), (⟨(-1), (-1)⟩ : S29)] := ⟨_, rfl⟩
    have hr : -1 ≤ (rd_T29 xs v1).f0 ∧ (rd_T29 xs v1).f0 ≤ 110 ∧ -1 ≤ (rd_T29 xs v1).f1 ∧ (rd_T29 xs v1).f1 ≤ 1000 := by
      rw [hxs]
      rcases (by omega : v1 = 0 ∨ v1 = 1 ∨ v1 = 2 ∨ v1 = 3 ∨ v1 = 4 ∨ v1 = 5) with rfl | rfl | rfl | rfl | rfl | rfl <;> decide
    refine ⟨(rd_T29 xs v1).f0, (rd_T29 xs v1).f1, p0 + 1, ⟨K0 + K1, fun k hk => ?_⟩, by omega, by omega, hr.1, hr.2.1, hr.2.2.1, hr.2.2.2, fun h => by have := (g2 h).1; cases this⟩
    dsimp only
    unfold spec_l20End.f
    rw [e0 k (by omega)]; simp only [Option.bind_some, if_true]
    rw [e1 k (by omega)]; simp only [Option.bind_some]
    rw [if_pos a1, if_pos (by simpa using b1), hxs]
  | false =>
    obtain ⟨a1, q1, ⟨K1, e1⟩, i1, i2, i3, i4⟩ := in_ev b hb hl p0 (by omega) (by omega)
    obtain ⟨a2, q2, ⟨K2, e2⟩, j1, j2, j3, j4⟩ := out_ev b hb hl (p0 + 3) (by omega) (by omega)
    obtain ⟨v3, ⟨K3, e3⟩, a3, b3⟩ := pick_ev b hb hl (p0 + 3 + 2) 7 (by omega) (by omega) (by omega)
    obtain ⟨v4, ⟨K4, e4⟩, a4, b4⟩ := pick_ev b hb hl (p0 + 3 + 2 + 1) 3 (by omega) (by omega) (by omega)
    dsimp only at e1 e2 e3 e4
    obtain ⟨xs, hxs⟩ : ∃ xs : List (S29), xs = [(⟨a1, q1⟩ : S29), (⟨a2, q2⟩ : S29), (⟨50, wrap64 (500 + v3)⟩ : S29)] := ⟨_, rfl⟩
    have hr : endOkP (rd_T29 xs v4).f0 (rd_T29 xs v4).f1 := by
      rw [hxs, Lib.wrap_id (x := 500 + v3) (by omega) (by omega)]
      rcases (by omega : v4 = 0 ∨ v4 = 1 ∨ v4 = 2) with rfl | rfl | rfl <;> simp [rd_T29, endOkP] <;> omega
    have hr2 := hr
    unfold endOkP at hr2
    refine ⟨(rd_T29 xs v4).f0, (rd_T29 xs v4).f1, p0 + 3 + 2 + 1 + 1, ⟨K0 + K1 + K2 + K3 + K4, fun k hk => ?_⟩, by omega, by omega, by omega, by omega, by omega, by omega, fun _ => hr⟩
    dsimp only
    unfold spec_l20End.f
    rw [e0 k (by omega)]; simp only [Option.bind_some]
    rw [if_neg (by decide), e1 k (by omega)]; simp only [Option.bind_some]
    rw [e2 k (by omega)]; simp only [Option.bind_some]
    rw [e3 k (by omega)]; simp only [Option.bind_some]
    rw [e4 k (by omega)]; simp only [Option.bind_some]
    rw [if_pos a4, if_pos (by simpa using b4), hxs]
theorem stream_0 (b : List Int) (hb : Lib.Bytes b) (hl : b.length ≤ 2000) (z : Int) (hz : ¬ z > 0) (t : ByteArray) (p : Int) (ht : t.size ≤ 120) (h0 : 0 ≤ p) (h1 : p ≤ 980000) :
    ∃ t' p', Ev (fun k => spec_l20Stream.l0 k t z b p) (t', p') ∧ t'.size ≤ 120 ∧ p < p' ∧ p' ≤ p + 5 := by
  obtain ⟨v1, ⟨K1, e1⟩, a1, b1⟩ := pick_ev b hb hl p 3 h0 (by omega) (by omega)
  dsimp only at e1
  by_cases c : v1 = 0
  · obtain ⟨t2, p2, ⟨K2, e2⟩, s2, g1, g2⟩ := line_ev b hb hl (p + 1) (by omega) (by omega)
    dsimp only at e2
    have hw_ : wrap64 ((t.size : Int) + (t2.size : Int)) = (t.size : Int) + (t2.size : Int) := Lib.wrap_id (by omega) (by omega)
    by_cases c2 : (t.size : Int) + (t2.size : Int) ≤ 120
    · refine ⟨t ++ t2, p2, ⟨K1 + K2 + 1, fun k hk => ?_⟩, by rw [ByteArray.size_append]; omega, by omega, by omega⟩
      obtain ⟨k, rfl⟩ : ∃ m, k = m + 1 := ⟨k - 1, by omega⟩
      suffices h_ : ∀ R, some (t ++ t2, p2) = R → spec_l20Stream.l0 (k + 1) t z b p = R from h_ _ rfl
      intro R hR
      rw [spec_l20Stream.l0, if_neg hz, e1 k (by omega)]; simp only [Option.bind_some]
      rw [if_pos c, e2 k (by omega), Option.bind_some]
      rw [show wrap64 ((t.size : Int) + (((t2, p2) : ByteArray × Int).1.size : Int)) = (t.size : Int) + (t2.size : Int) from hw_, if_pos c2, if_pos (show t.size + t2.size ≤ 9223372036854775807 by omega)]; exact hR
    · refine ⟨t, p2, ⟨K1 + K2 + 1, fun k hk => ?_⟩, ht, by omega, by omega⟩
      obtain ⟨k, rfl⟩ : ∃ m, k = m + 1 := ⟨k - 1, by omega⟩
      suffices h_ : ∀ R, some (t, p2) = R → spec_l20Stream.l0 (k + 1) t z b p = R from h_ _ rfl
      intro R hR
      rw [spec_l20Stream.l0, if_neg hz, e1 k (by omega)]; simp only [Option.bind_some]
      rw [if_pos c, e2 k (by omega), Option.bind_some]
      rw [show wrap64 ((t.size : Int) + (((t2, p2) : ByteArray × Int).1.size : Int)) = (t.size : Int) + (t2.size : Int) from hw_, if_neg c2]; exact hR
  · refine ⟨t, p + 1, ⟨K1 + 1, fun k hk => ?_⟩, ht, by omega, by omega⟩
    obtain ⟨k, rfl⟩ : ∃ m, k = m + 1 := ⟨k - 1, by omega⟩
    dsimp only
    rw [spec_l20Stream.l0, if_neg hz, e1 k (by omega)]; simp only [Option.bind_some]
    rw [if_neg c]
theorem stream_l (b : List Int) (hb : Lib.Bytes b) (hl : b.length ≤ 2000) (n : Nat) : ∀ (t : ByteArray) (p : Int), t.size ≤ 120 → n ≤ 8 → 0 ≤ p → p ≤ 980000 - 4 * (n : Int) →
    ∃ t' p', Ev (fun k => spec_l20Stream.l0 k t (n : Int) b p) (t', p') ∧ t'.size ≤ 120 ∧ p < p' ∧ p' ≤ p + 4 * (n : Int) + 5 := by
  induction n with
  | zero =>
    intro t p ht _ h0 h1
    obtain ⟨t', p', e, r1, r2, r3⟩ := stream_0 b hb hl ((0 : Nat) : Int) (by omega) t p ht h0 (by omega)
    exact ⟨t', p', e, r1, r2, by omega⟩
  | succ n ih =>
    intro t p ht hn h0 h1
    obtain ⟨t2, p2, ⟨K2, e2⟩, s2, g1, g2⟩ := line_ev b hb hl p h0 (by omega)
    dsimp only at e2
    have hz : ((t ++ t2) ++ (⟨#[59]⟩ : ByteArray)).size = t.size + t2.size + 1 := by rw [ByteArray.size_append, ByteArray.size_append]; rfl
    have hw : wrap64 (((n + 1 : Nat) : Int) - 1) = (n : Int) := by rw [Lib.wrap_id (by omega) (by omega)]; omega
    by_cases c : (((t ++ t2) ++ (⟨#[59]⟩ : ByteArray)).size : Int) ≤ 120
    · obtain ⟨t', p', ⟨K3, e3⟩, r1, r2, r3⟩ := ih ((t ++ t2) ++ (⟨#[59]⟩ : ByteArray)) p2 (by omega) (by omega) (by omega) (by omega)
      dsimp only at e3
      refine ⟨t', p', ⟨K2 + K3 + 1, fun k hk => ?_⟩, r1, by omega, by omega⟩
      obtain ⟨k, rfl⟩ : ∃ m, k = m + 1 := ⟨k - 1, by omega⟩
      dsimp only
      rw [spec_l20Stream.l0, if_pos (by omega), e2 k (by omega)]; simp only [Option.bind_some]
      rw [if_pos (by omega), if_pos (by rw [ByteArray.size_append]; omega), if_pos c, hw]
      exact e3 k (by omega)
    · obtain ⟨t', p', ⟨K3, e3⟩, r1, r2, r3⟩ := ih t p2 ht (by omega) (by omega) (by omega)
      dsimp only at e3
      refine ⟨t', p', ⟨K2 + K3 + 1, fun k hk => ?_⟩, r1, by omega, by omega⟩
      obtain ⟨k, rfl⟩ : ∃ m, k = m + 1 := ⟨k - 1, by omega⟩
      dsimp only
      rw [spec_l20Stream.l0, if_pos (by omega), e2 k (by omega)]; simp only [Option.bind_some]
      rw [if_pos (by omega), if_pos (by rw [ByteArray.size_append]; omega), if_neg c, hw]
      exact e3 k (by omega)
theorem stream_ev (b : List Int) (hb : Lib.Bytes b) (hl : b.length ≤ 2000) (p : Int) (h0 : 0 ≤ p) (h1 : p ≤ 900000) :
    ∃ t p', Ev (fun k => spec_l20Stream.f k b p) (t, p') ∧ t.size ≤ 120 ∧ p < p' ∧ p' ≤ p + 40 := by
  obtain ⟨v1, ⟨K1, e1⟩, a1, b1⟩ := pick_ev b hb hl p 9 h0 (by omega) (by omega)
  obtain ⟨n, rfl⟩ := Int.eq_ofNat_of_zero_le a1
  obtain ⟨t', p', ⟨K2, e2⟩, r1, r2, r3⟩ := stream_l b hb hl n (⟨#[]⟩ : ByteArray) (p + 1) (by decide) (by omega) (by omega) (by omega)
  dsimp only at e1 e2
  refine ⟨t', p', ⟨K1 + K2, fun k hk => ?_⟩, r1, by omega, by omega⟩
  dsimp only
  unfold spec_l20Stream.f
  rw [e1 k (by omega)]; simp only [Option.bind_some]
  exact e2 k (by omega)
theorem data_ev (b : List Int) (hb : Lib.Bytes b) (hl : b.length ≤ 2000) (p : Int) (h0 : 0 ≤ p) (h1 : p ≤ 900000) :
    ∃ t p', Ev (fun k => spec_l20Data.f k b p) (t, p') ∧ t.size ≤ 12 ∧ p < p' ∧ p' ≤ p + 41 := by
  obtain ⟨t, p1, ⟨K1, e1⟩, s1, g1, g2⟩ := stream_ev b hb hl p h0 h1
  obtain ⟨v, ⟨K2, e2⟩, a2, b2⟩ := pick_ev b hb hl p1 13 (by omega) (by omega) (by omega)
  dsimp only at e1 e2
  have hm : 0 ≤ mn (t.size : Int) v ∧ mn (t.size : Int) v ≤ (t.size : Int) ∧ mn (t.size : Int) v ≤ v := by unfold mn; split <;> omega
  refine ⟨t.extract 0 (mn (t.size : Int) v).toNat, p1 + 1, ⟨K1 + K2, fun k hk => ?_⟩, by rw [ByteArray.size_extract]; omega, by omega, by omega⟩
  dsimp only
  unfold spec_l20Data.f
  rw [e1 k (by omega)]; simp only [Option.bind_some]
  rw [e2 k (by omega)]; simp only [Option.bind_some]
  rw [if_pos hm.1, if_pos hm.2.1]
def datas : List ByteArray := [(⟨#[116, 104, 105, 114, 116, 101, 101, 110, 32, 98, 121, 116, 101]⟩ : ByteArray), (⟨#[65]⟩ : ByteArray), (⟨#[10]⟩ : ByteArray)]
/-- A drawn segment: its numbers are small, its text is short. -/
theorem seg_ev (b : List Int) (hb : Lib.Bytes b) (hl : b.length ≤ 2000) (p n : Int) (h0 : 0 ≤ p) (h1 : p ≤ 800000) (hn : 1 ≤ n) (hn2 : n ≤ 1000000) :
    ∃ a1 q1 a2 q2 x y t p', Ev (fun k => spec_l20Seg.f k b p n) (a1, q1, a2, q2, x, y, t, p') ∧ t.size ≤ 13 ∧ p < p' ∧ p' ≤ p + 100 ∧ -1 ≤ x ∧ x ≤ 241 := by
  obtain ⟨a1, q1, p1, ⟨K1, e1⟩, g1, g2, _⟩ := end_ev b hb hl p 40 h0 (by omega) (by omega) (by omega)
  obtain ⟨a2, q2, p2, ⟨K2, e2⟩, g3, g4, _⟩ := end_ev b hb hl p1 40 (by omega) (by omega) (by omega) (by omega)
  obtain ⟨x, ⟨K3, e3⟩, x0, x1⟩ := pick_ev b hb hl p2 60 (by omega) (by omega) (by omega)
  obtain ⟨y, ⟨K4, e4⟩, y0, y1⟩ := pick_ev b hb hl (p2 + 1) 60 (by omega) (by omega) (by omega)
  obtain ⟨t, p3, ⟨K5, e5⟩, s5, g5, g6⟩ := data_ev b hb hl (p2 + 1 + 1) (by omega) (by omega)
  obtain ⟨v, p4, ⟨K6, e6⟩, g7, g8, _⟩ := odd_ev b hb hl p3 n (by omega) (by omega) hn hn2
  dsimp only at e1 e2 e3 e4 e5 e6
  cases v with
  | false =>
    refine ⟨a1, q1, a2, q2, x, y, t, p4, ⟨K1 + K2 + K3 + K4 + K5 + K6, fun k hk => ?_⟩, by omega, by omega, by omega, by omega, by omega⟩
    dsimp only
    unfold spec_l20Seg.f
    rw [e1 k (by omega)]; simp only [Option.bind_some]
    rw [e2 k (by omega)]; simp only [Option.bind_some]
    rw [e3 k (by omega)]; simp only [Option.bind_some]
    rw [e4 k (by omega)]; simp only [Option.bind_some]
    rw [e5 k (by omega)]; simp only [Option.bind_some]
    rw [e6 k (by omega)]; simp only [Option.bind_some]
    rw [if_neg (by decide)]
  | true =>
    obtain ⟨u, ⟨K7, e7⟩, u0, u1⟩ := pick_ev b hb hl p4 4 (by omega) (by omega) (by omega)
    dsimp only at e7
    have head : ∀ k, K1 + K2 + K3 + K4 + K5 + K6 + K7 ≤ k → ∀ R, (if u = 0 then ((spec_l20End.f k b (p4 + 1) 1).bind fun bt => some (bt.1, bt.2.1, a2, q2, x, y, t, bt.2.2)) else
        (if u = 1 then ((spec_l20Rd_pick.f k b (p4 + 1) 3).bind fun bt => if 0 ≤ bt.1 then (if bt.1 < (([(-1), 241, 240] : List Int).length : Int) then some (a1, q1, a2, q2, rd [(-1), 241, 240] bt.1, y, t, bt.2) else none) else none) else
        (if u = 2 then ((spec_l20Rd_pick.f k b (p4 + 1) 2).bind fun bt => if 0 ≤ bt.1 then (if bt.1 < (([(-1), 241] : List Int).length : Int) then some (a1, q1, a2, q2, x, rd [(-1), 241] bt.1, t, bt.2) else none) else none) else
        ((spec_l20Rd_pick.f k b (p4 + 1) 3).bind fun bt => if 0 ≤ bt.1 then (if bt.1 < (datas.length : Int) then some (a1, q1, a2, q2, x, y, rdOf ByteArray.empty datas bt.1, bt.2) else none) else none)))) = R → spec_l20Seg.f k b p n = R := by
      intro k hk R hR
      rw [← hR]
      unfold spec_l20Seg.f
      rw [e1 k (by omega)]; simp only [Option.bind_some]
      rw [e2 k (by omega)]; simp only [Option.bind_some]
      rw [e3 k (by omega)]; simp only [Option.bind_some]
      rw [e4 k (by omega)]; simp only [Option.bind_some]
      rw [e5 k (by omega)]; simp only [Option.bind_some]
      rw [e6 k (by omega)]; simp only [Option.bind_some]
      rw [if_pos trivial, e7 k (by omega)]; simp only [Option.bind_some]
      rfl
    by_cases c0 : u = 0
    · obtain ⟨a3, q3, p5, ⟨K8, e8⟩, r1, r2, _⟩ := end_ev b hb hl (p4 + 1) 1 (by omega) (by omega) (by omega) (by omega)
      dsimp only at e8
      refine ⟨a3, q3, a2, q2, x, y, t, p5, ⟨K1 + K2 + K3 + K4 + K5 + K6 + K7 + K8, fun k hk => ?_⟩, by omega, by omega, by omega, by omega, by omega⟩
      exact head k (by omega) _ (by rw [if_pos c0, e8 k (by omega)]; rfl)
    · by_cases c1 : u = 1
      · obtain ⟨v8, ⟨K8, e8⟩, r1, r2⟩ := pick_ev b hb hl (p4 + 1) 3 (by omega) (by omega) (by omega)
        dsimp only at e8
        have hx : -1 ≤ rd [(-1), 241, 240] v8 ∧ rd [(-1), 241, 240] v8 ≤ 241 := by
          rcases (by omega : v8 = 0 ∨ v8 = 1 ∨ v8 = 2) with rfl | rfl | rfl <;> decide
        refine ⟨a1, q1, a2, q2, rd [(-1), 241, 240] v8, y, t, p4 + 1 + 1, ⟨K1 + K2 + K3 + K4 + K5 + K6 + K7 + K8, fun k hk => ?_⟩, by omega, by omega, by omega, hx.1, hx.2⟩
        exact head k (by omega) _ (by rw [if_neg c0, if_pos c1, e8 k (by omega)]; simp only [Option.bind_some]; rw [if_pos r1, if_pos (by simpa using r2)])
      · by_cases c2 : u = 2
        · obtain ⟨v8, ⟨K8, e8⟩, r1, r2⟩ := pick_ev b hb hl (p4 + 1) 2 (by omega) (by omega) (by omega)
          dsimp only at e8
          refine ⟨a1, q1, a2, q2, x, rd [(-1), 241] v8, t, p4 + 1 + 1, ⟨K1 + K2 + K3 + K4 + K5 + K6 + K7 + K8, fun k hk => ?_⟩, by omega, by omega, by omega, by omega, by omega⟩
          exact head k (by omega) _ (by rw [if_neg c0, if_neg c1, if_pos c2, e8 k (by omega)]; simp only [Option.bind_some]; rw [if_pos r1, if_pos (by simpa using r2)])
        · obtain ⟨v8, ⟨K8, e8⟩, r1, r2⟩ := pick_ev b hb hl (p4 + 1) 3 (by omega) (by omega) (by omega)
          dsimp only at e8
          have hx : (rdOf ByteArray.empty datas v8).size ≤ 13 := by
            rcases (by omega : v8 = 0 ∨ v8 = 1 ∨ v8 = 2) with rfl | rfl | rfl <;> decide
          refine ⟨a1, q1, a2, q2, x, y, rdOf ByteArray.empty datas v8, p4 + 1 + 1, ⟨K1 + K2 + K3 + K4 + K5 + K6 + K7 + K8, fun k hk => ?_⟩, hx, by omega, by omega, by omega, by omega⟩
          exact head k (by omega) _ (by rw [if_neg c0, if_neg c1, if_neg c2, e8 k (by omega)]; simp only [Option.bind_some]; rw [if_pos r1, if_pos (by simpa [datas] using r2)])
theorem drawsegcut_ev (l : List Int) (hb : Lib.Bytes l) (hl : l.length ≤ 9223372036854775807) : ∃ a1 q1 a2 q2 x y s t c, Ev (fun k => spec_DrawSegCut.f k l) (a1, q1, a2, q2, x, y, s, t, c) ∧ t.size ≤ 120 ∧ s.size ≤ 13 ∧ -1 ≤ c ∧ c ≤ 9223372036854775807 := by
  obtain ⟨b, h0, hb, hl⟩ := open_eq l hb hl
  obtain ⟨a1, q1, a2, q2, x, y, s, p1, ⟨K1, e1⟩, hs, g1, g2, _⟩ := seg_ev b hb hl 0 9 (by omega) (by omega) (by omega) (by omega)
  obtain ⟨t, p2, ⟨K2, e2⟩, ht, g3, g4⟩ := stream_ev b hb hl p1 (by omega) (by omega)
  obtain ⟨v, ⟨K3, e3⟩, a3, b3⟩ := pick_ev b hb hl p2 130 (by omega) (by omega) (by omega)
  obtain ⟨z, ⟨K4, e4⟩, a4, b4⟩ := pick_ev b hb hl (p2 + 1) 20 (by omega) (by omega) (by omega)
  obtain ⟨u, ⟨K5, e5⟩, a5, b5⟩ := pick_ev b hb hl (p2 + 1 + 1) 5 (by omega) (by omega) (by omega)
  dsimp only at e1 e2 e3 e4 e5
  have hx : -1 ≤ rd [0, v, -1, 9223372036854775807, z] u ∧ rd [0, v, -1, 9223372036854775807, z] u ≤ 9223372036854775807 := by
    rcases (by omega : u = 0 ∨ u = 1 ∨ u = 2 ∨ u = 3 ∨ u = 4) with rfl | rfl | rfl | rfl | rfl <;> simp [rd] <;> omega
  refine ⟨a1, q1, a2, q2, x, y, s, t, rd [0, v, -1, 9223372036854775807, z] u, ⟨K1 + K2 + K3 + K4 + K5, fun k hk => ?_⟩, ht, hs, hx.1, hx.2⟩
  dsimp only
  unfold spec_DrawSegCut.f
  rw [h0, Option.bind_some]; dsimp only
  rw [e1 k (by omega), Option.bind_some]; dsimp only
  rw [e2 k (by omega), Option.bind_some]; dsimp only
  rw [e3 k (by omega), Option.bind_some]; dsimp only
  rw [e4 k (by omega), Option.bind_some]; dsimp only
  rw [Option.bind_some, e5 k (by omega), Option.bind_some]; dsimp only
  rw [if_pos a5, if_pos (by simpa using b5)]
/-- The segment with bytes of F from p + 12 i on. -/
def segAt (F : ByteArray) (A B : S29) (y : Int) (p i : Nat) : S31 := ⟨A, B, ((p + 12 * i : Nat) : Int), y, F.extract (p + 12 * i) (min (p + 12 * i + 12) F.size)⟩
/-- What is cut, from p on. -/
def cutL (F : ByteArray) (A B : S29) (y : Int) (p : Nat) : List S31 :=
  if p < F.size then (List.range ((F.size - p + 11) / 12)).map (segAt F A B y p) else [⟨A, B, (F.size : Int), y, ⟨#[]⟩⟩]
theorem w_cut (n : Nat) (h : n ≤ 1000) : wrap64 ((n : Int) + 12) = ((n + 12 : Nat) : Int) := by
  rw [Lib.wrap_id (by omega) (by omega)]; omega
theorem mn_nat (a b : Nat) : mn (a : Int) (b : Int) = ((min a b : Nat) : Int) := by unfold mn; split <;> omega
theorem take_len {α : Type} (L : List α) : (if 0 ≤ (L.length : Int) then (if (L.length : Int) ≤ (L.length : Int) then (some (L.take ((L.length : Int)).toNat)) else (none)) else (none)) = some L := by
  rw [if_pos (by omega), if_pos (by omega), Int.toNat_natCast, List.take_length]
theorem cut_loop (F : ByteArray) (hF : F.size ≤ 240) (p : Nat) (hp : p < F.size) (a b c d y : Int) : ∀ (n i k : Nat) (x : Int) (s : ByteArray), i + n = (F.size - p + 11) / 12 → n + 1 ≤ k →
    impl_SegSeg_cut.l0 k F ((p + 12 * i : Nat) : Int) ((List.range i).map (segAt F ⟨a, b⟩ ⟨c, d⟩ y p)) a b c d x y s = some ((List.range ((F.size - p + 11) / 12)).map (segAt F ⟨a, b⟩ ⟨c, d⟩ y p)) := by
  intro n
  induction n with
  | zero =>
    intro i k x s hi hk
    obtain ⟨k, rfl⟩ : ∃ k', k = k' + 1 := ⟨k - 1, by omega⟩
    rw [impl_SegSeg_cut.l0, if_neg (by omega), if_neg (by rw [List.length_map, List.length_range]; omega), take_len, ← hi]; rfl
  | succ n ih =>
    intro i k x s hi hk
    obtain ⟨k, rfl⟩ : ∃ k', k = k' + 1 := ⟨k - 1, by omega⟩
    rw [impl_SegSeg_cut.l0, if_pos (by omega), if_pos (by omega), w_cut _ (by omega), mn_nat, if_pos (by omega), if_pos (by omega), if_pos (by rw [List.length_map, List.length_range]; omega)]
    have e := ih (i + 1) k ((p + 12 * i : Nat) : Int) (F.extract (p + 12 * i) (min (p + 12 * i + 12) F.size)) (by omega) (by omega)
    rw [List.range_succ, List.map_append] at e
    simp only [Int.toNat_natCast]
    exact e
theorem cut_ev (F : ByteArray) (hF : F.size ≤ 240) (p a b c d x y : Int) (s : ByteArray) (hp : 0 ≤ p) (k : Nat) (hk : 40 ≤ k) : impl_SegSeg_cut.f k a b c d x y s F p = some (cutL F ⟨a, b⟩ ⟨c, d⟩ y p.toNat) := by
  obtain ⟨n, rfl⟩ := Int.eq_ofNat_of_zero_le hp
  rw [Int.toNat_natCast]
  unfold impl_SegSeg_cut.f cutL
  by_cases h : n < F.size
  · rw [if_pos h]
    exact cut_loop F hF n h a b c d y _ 0 k x s (Nat.zero_add _) (by omega)
  · rw [if_neg h]
    obtain ⟨k, rfl⟩ : ∃ k', k = k' + 1 := ⟨k - 1, by omega⟩
    rw [impl_SegSeg_cut.l0, if_neg (by omega), if_pos (by rfl), if_pos (by decide), Option.bind_some, take_len]; rfl
theorem segcut_ev (F : ByteArray) (hF : F.size ≤ 9223372036854775807) (a p b q x y : Int) (s : ByteArray) (hs : s.size ≤ 281474976710656) (at_ : Int) :
    Ev (fun k => impl_SegCut.f k a p b q x y s F at_) (if segOkB a p b q x y s = true ∧ F.size ≤ 240 ∧ 0 ≤ at_ then cutL F ⟨a, p⟩ ⟨b, q⟩ y at_.toNat else []) := by
  obtain ⟨K, e⟩ := impl_seg_ev a p b q x y s hs
  dsimp only at e
  refine ⟨K + 40, fun k hk => ?_⟩
  dsimp only
  unfold impl_SegCut.f
  rw [e _ (by omega), Option.bind_some]
  by_cases h : segOkB a p b q x y s = true
  · rw [if_pos h]
    by_cases h1 : (F.size : Int) > 240
    · rw [if_pos h1, if_neg (by omega)]
    · rw [if_neg h1]
      by_cases h2 : at_ < 0
      · rw [if_pos h2, if_neg (by omega)]
      · rw [if_neg h2, if_pos ⟨h, by omega, by omega⟩, cut_ev F (by omega) at_ a p b q x y s (by omega) _ (by omega)]; rfl
  · rw [if_neg h, if_neg (fun h_ => h h_.1)]
theorem mn_nat' (a b : Nat) : mn (a : Int) (b : Int) = ((min b a : Nat) : Int) := by unfold mn; split <;> omega
theorem scut_loop (F : ByteArray) (hF : F.size ≤ 240) (p : Nat) (hp : p < F.size) (a b c d x y : Int) (s : ByteArray) : ∀ (n i k : Nat), i + n = (F.size - p + 11) / 12 → n + 1 ≤ k →
    spec_l5Cut.l0 k F ((min (p + 12 * i) F.size : Nat) : Int) ((List.range i).map (segAt F ⟨a, b⟩ ⟨c, d⟩ y p)) a b c d x y s = some ((List.range ((F.size - p + 11) / 12)).map (segAt F ⟨a, b⟩ ⟨c, d⟩ y p)) := by
  intro n
  induction n with
  | zero =>
    intro i k hi hk
    obtain ⟨k, rfl⟩ : ∃ k', k = k' + 1 := ⟨k - 1, by omega⟩
    rw [spec_l5Cut.l0, if_neg (by omega), if_neg (by rw [List.length_map, List.length_range]; omega), ← hi]; rfl
  | succ n ih =>
    intro i k hi hk
    obtain ⟨k, rfl⟩ : ∃ k', k = k' + 1 := ⟨k - 1, by omega⟩
    rw [show min (p + 12 * i) F.size = p + 12 * i by omega, spec_l5Cut.l0, if_pos (by omega), if_pos (by omega), w_cut _ (by omega), mn_nat', if_pos (by omega), if_pos (by omega), if_pos (by rw [List.length_map, List.length_range]; omega)]
    have e := ih (i + 1) k (by omega) (by omega)
    rw [List.range_succ, List.map_append] at e
    simp only [Int.toNat_natCast]
    exact e
theorem scut_ev (F : ByteArray) (hF : F.size ≤ 240) (p a b c d x y : Int) (s : ByteArray) (hp : 0 ≤ p) (k : Nat) (hk : 40 ≤ k) : spec_l5Cut.f k a b c d x y s F p = some (cutL F ⟨a, b⟩ ⟨c, d⟩ y p.toNat) := by
  obtain ⟨n, rfl⟩ := Int.eq_ofNat_of_zero_le hp
  rw [Int.toNat_natCast]
  unfold spec_l5Cut.f cutL
  by_cases h : n < F.size
  · rw [if_pos h]
    have e := scut_loop F hF n h a b c d x y s _ 0 k (Nat.zero_add _) (by omega)
    rw [show min (n + 12 * 0) F.size = n by omega] at e
    exact e
  · rw [if_neg h]
    obtain ⟨k, rfl⟩ : ∃ k', k = k' + 1 := ⟨k - 1, by omega⟩
    rw [spec_l5Cut.l0, if_neg (by omega), if_pos (by rfl), if_pos (by decide)]; rfl
theorem ssegcut_ev (F : ByteArray) (hF : F.size ≤ 9223372036854775807) (a p b q x y : Int) (s : ByteArray) (at_ : Int) :
    Ev (fun k => spec_SegCut.f k a p b q x y s F at_) (if segOkB a p b q x y s = true ∧ F.size ≤ 240 ∧ 0 ≤ at_ then cutL F ⟨a, p⟩ ⟨b, q⟩ y at_.toNat else []) := by
  obtain ⟨K, e⟩ := spec_seg_ev a p b q x y s
  dsimp only at e
  refine ⟨K + 40, fun k hk => ?_⟩
  dsimp only
  unfold spec_SegCut.f
  rw [e _ (by omega), Option.bind_some]
  by_cases h : segOkB a p b q x y s = true
  · rw [if_pos h]
    by_cases h1 : (F.size : Int) > 240
    · rw [if_pos h1, if_neg (by omega)]
    · rw [if_neg h1]
      by_cases h2 : at_ < 0
      · rw [if_pos h2, if_neg (by omega)]
      · rw [if_neg h2, if_pos ⟨h, by omega, by omega⟩, scut_ev F (by omega) at_ a p b q x y s (by omega) _ (by omega)]; rfl
  · rw [if_neg h, if_neg (fun h_ => h h_.1)]
theorem w_upS (n : Nat) (h : n ≤ 100000) : wrap64 ((n : Int) + 1) = ((n + 1 : Nat) : Int) := by
  rw [Lib.wrap_id (by omega) (by omega)]; omega
theorem hasegs_l (L : List S31) (hL : L.length ≤ 1000) : ∀ (n i k : Nat), i + n = L.length → n + 1 ≤ k → laws_haSegs.l0 k L L (i : Int) = some true := by
  intro n
  induction n with
  | zero =>
    intro i k hi hk
    obtain ⟨k, rfl⟩ : ∃ k', k = k' + 1 := ⟨k - 1, by omega⟩
    rw [laws_haSegs.l0, if_neg (by omega)]
  | succ n ih =>
    intro i k hi hk
    obtain ⟨k, rfl⟩ : ∃ k', k = k' + 1 := ⟨k - 1, by omega⟩
    rw [laws_haSegs.l0, if_pos (by omega), if_pos (by omega), if_pos (by omega), if_neg (by simp), w_upS i (by omega)]
    exact ih (i + 1) k (by omega) (by omega)
theorem hasegs_ev (L : List S31) (hL : L.length ≤ 1000) (k : Nat) (hk : L.length + 1 ≤ k) : laws_haSegs.f k L L = some true := by
  unfold laws_haSegs.f
  rw [if_pos rfl]
  exact hasegs_l L hL L.length 0 k (by omega) hk
end Go.Proofs.Ytdfoelhpeeanlaa.QFnSegCut
