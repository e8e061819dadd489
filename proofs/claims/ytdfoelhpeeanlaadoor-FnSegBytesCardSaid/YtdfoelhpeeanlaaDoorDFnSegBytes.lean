/- What the reference's draws and functions that this law reaches come to: plain lemmas on the printed functions. -/
import Derived.Test.YtdfoelhpeeanlaaDoorQFnSegBytesx10
import Derived.Test.YtdfoelhpeeanlaaDoorLib
import Derived.Laws.BitsLemmas
set_option linter.unusedVariables false
set_option linter.unusedSimpArgs false
namespace Go.Proofs.YtdfoelhpeeanlaaDoor.QFnSegBytes
open Go.RowKit Go.Proofs.YtdfoelhpeeanlaaDoorW.PrintWords Go.Proofs.YtdfoelhpeeanlaaDoorW.PrintLast Go.Proofs.YtdfoelhpeeanlaaDoorW.PrintMore
open Go.Proofs.YtdfoelhpeeanlaaDoor
theorem xor_nonneg (a b : Int) (h0 : 0 ≤ a) (h1 : a < 4611686018427387904) (h2 : 0 ≤ b) (h3 : b < 4611686018427387904) : 0 ≤ Go.bits .xor .i64 a b := by
  obtain ⟨m, rfl⟩ := Int.eq_ofNat_of_zero_le h0
  obtain ⟨n, rfl⟩ := Int.eq_ofNat_of_zero_le h2
  have hm : m % 2 ^ 64 = m := Nat.mod_eq_of_lt (by omega)
  have hn : n % 2 ^ 64 = n := Nat.mod_eq_of_lt (by omega)
  have hx : m ^^^ n < 2 ^ 62 := Nat.xor_lt_two_pow (by omega) (by omega)
  have e : Go.bits .xor .i64 (m : Int) (n : Int) = IntKind.i64.wrap ((m ^^^ n : Nat) : Int) := by
    have hb : (BitVec.ofNat 64 m ^^^ BitVec.ofNat 64 n).toNat = m ^^^ n := by rw [BitVec.toNat_xor, BitVec.toNat_ofNat, BitVec.toNat_ofNat, hm, hn]
    simp only [bits, IntKind.bits, BitVec.ofInt_natCast]
    exact congrArg (fun z : Nat => IntKind.i64.wrap (z : Int)) hb
  rw [e, IntKind.wrap_i64]
  omega
theorem pick_ev (b : List Int) (hb : Lib.Bytes b) (hl : b.length ≤ 2000) (p n : Int) (h0 : 0 ≤ p) (h1 : p ≤ 1000000) (hn : 1 ≤ n) :
    ∃ v, Ev (fun k => spec_l20Rd_pick.f k b p n) (v, p + 1) ∧ 0 ≤ v ∧ v < n := by
  have go : ∀ v, spec_l20Rd_pick.f 1 b p n = some (v, p + 1) → 0 ≤ v → v < n → ∃ v, Ev (fun k => spec_l20Rd_pick.f k b p n) (v, p + 1) ∧ 0 ≤ v ∧ v < n :=
    fun v h a c => ⟨v, Ev.of (spec_l20Rd_pick.mono b p n) h, a, c⟩
  have e1 : wrap64 (p + 1) = p + 1 := Lib.wrap_id (by omega) (by omega)
  have e2 : wrap64 (p + 1 - 1) = p := by rw [Lib.wrap_id (by omega) (by omega)]; omega
  by_cases hz : b.length = 0
  · refine go 0 ?_ (by omega) (by omega)
    unfold spec_l20Rd_pick.f
    rw [if_neg (by omega), spec_l20Rd_pick.j0, if_pos (by simp [hz]), e1]
  · have e3 : ((b.length : Int) == 0) = false := by rw [beq_eq_false_iff_ne]; omega
    by_cases hp : p < (b.length : Int)
    · obtain ⟨i, rfl⟩ := Int.eq_ofNat_of_zero_le h0
      have hr := Lib.bytes_rd hb i
      refine go (rd b (i : Int) % n) ?_ (Int.emod_nonneg _ (by omega)) (Int.emod_lt_of_pos _ (by omega))
      unfold spec_l20Rd_pick.f
      rw [if_neg (by omega), spec_l20Rd_pick.j0, if_neg (by rw [e3]; decide), e1, e2, if_pos hp, if_pos (by omega), if_neg (by omega), Lib.wrap_id (x := rd b (i : Int)) (by omega) (by omega), Int.tmod_eq_emod_of_nonneg (by omega)]
    · have hL : (0 : Int) < (b.length : Int) := by omega
      have q1 : Int.tmod p (b.length : Int) = p % (b.length : Int) := Int.tmod_eq_emod_of_nonneg (by omega)
      have w1 : wrap64 (p * 7) = p * 7 := Lib.wrap_id (by omega) (by omega)
      have w2 : wrap64 (p * 7 + 3) = p * 7 + 3 := Lib.wrap_id (by omega) (by omega)
      have q2 : Int.tmod (p * 7 + 3) (b.length : Int) = (p * 7 + 3) % (b.length : Int) := Int.tmod_eq_emod_of_nonneg (by omega)
      have m1 := Int.emod_nonneg p (show (b.length : Int) ≠ 0 by omega)
      have m2 := Int.emod_lt_of_pos p hL
      have m3 := Int.emod_nonneg (p * 7 + 3) (show (b.length : Int) ≠ 0 by omega)
      have m4 := Int.emod_lt_of_pos (p * 7 + 3) hL
      obtain ⟨i, hi⟩ := Int.eq_ofNat_of_zero_le m1
      obtain ⟨j, hj⟩ := Int.eq_ofNat_of_zero_le m3
      have r1 := Lib.bytes_rd hb i
      have r2 := Lib.bytes_rd hb j
      rw [← hi] at r1
      rw [← hj] at r2
      have d1 : Int.tdiv p (b.length : Int) = p / (b.length : Int) := Int.tdiv_eq_ediv_of_nonneg h0
      have d2 : 0 ≤ p / (b.length : Int) := Int.ediv_nonneg h0 (by omega)
      have d3 : p / (b.length : Int) ≤ p := Int.ediv_le_self _ h0
      obtain ⟨u, hu⟩ : ∃ u, u = rd b (p % (b.length : Int)) := ⟨_, rfl⟩
      obtain ⟨v, hv⟩ : ∃ v, v = rd b ((p * 7 + 3) % (b.length : Int)) := ⟨_, rfl⟩
      obtain ⟨q, hq⟩ : ∃ q, q = p / (b.length : Int) := ⟨_, rfl⟩
      rw [← hu] at r1
      rw [← hv] at r2
      rw [← hq] at d2 d3
      have x0 : wrap64 (wrap64 (wrap64 (wrap64 (wrap64 u * 131) + wrap64 (wrap64 v * 1117)) + wrap64 (p * 29)) + wrap64 (wrap64 q * 53)) = u * 131 + v * 1117 + p * 29 + q * 53 := by
        rw [Lib.wrap_id (x := u) (by omega) (by omega), Lib.wrap_id (x := v) (by omega) (by omega), Lib.wrap_id (x := q) (by omega) (by omega), Lib.wrap_id (x := u * 131) (by omega) (by omega), Lib.wrap_id (x := v * 1117) (by omega) (by omega),
          Lib.wrap_id (x := p * 29) (by omega) (by omega), Lib.wrap_id (x := q * 53) (by omega) (by omega), Lib.wrap_id (x := u * 131 + v * 1117) (by omega) (by omega), Lib.wrap_id (x := u * 131 + v * 1117 + p * 29) (by omega) (by omega), Lib.wrap_id (by omega) (by omega)]
      obtain ⟨X, hX⟩ : ∃ X, X = u * 131 + v * 1117 + p * 29 + q * 53 := ⟨_, rfl⟩
      have X0 : 0 ≤ X := by omega
      have X1 : X < 4611686018427387904 := by omega
      have x1 : wrap64 (Int.tdiv X 64) = X / 64 := by rw [Int.tdiv_eq_ediv_of_nonneg X0, Lib.wrap_id (by omega) (by omega)]
      have hx := xor_nonneg X (X / 64) X0 X1 (by omega) (by omega)
      refine go (Go.bits .xor .i64 X (X / 64) % n) ?_ (Int.emod_nonneg _ (by omega)) (Int.emod_lt_of_pos _ (by omega))
      unfold spec_l20Rd_pick.f
      rw [if_neg (by omega), spec_l20Rd_pick.j0, if_neg (by rw [e3]; decide), e1, e2, if_neg hp, if_neg (by omega), w1, w2, q1, q2, if_pos m1, if_pos m2, if_pos m3, if_pos m4, if_neg (by omega), d1, ← hu, ← hv, ← hq, x0, ← hX, x1, Int.tmod_eq_emod_of_nonneg hx]
theorem open_eq (l : List Int) (hb : Lib.Bytes l) (hl : l.length ≤ 9223372036854775807) : ∃ b, spec_l20Open.f l = some (b, 0) ∧ Lib.Bytes b ∧ b.length ≤ 2000 := by
  unfold spec_l20Open.f
  by_cases c : (l.length : Int) > 2000
  · exact ⟨l.take 2000, by rw [if_pos c, if_pos (by omega)], fun x hx => hb x (List.mem_of_mem_take hx), by simp; omega⟩
  · exact ⟨l, by rw [if_neg c], hb, by omega⟩
theorem in_ev (b : List Int) (hb : Lib.Bytes b) (hl : b.length ≤ 2000) (p : Int) (h0 : 0 ≤ p) (h1 : p ≤ 999000) :
    ∃ a q, Ev (fun k => spec_l20In.f k b p) (a, q, p + 3) ∧ 1 ≤ a ∧ a ≤ 4 ∧ 1 ≤ q ∧ q ≤ 999 := by
  obtain ⟨v1, ⟨K1, e1⟩, a1, b1⟩ := pick_ev b hb hl p 4 h0 (by omega) (by omega)
  obtain ⟨v2, ⟨K2, e2⟩, a2, b2⟩ := pick_ev b hb hl (p + 1) 40 (by omega) (by omega) (by omega)
  obtain ⟨v3, ⟨K3, e3⟩, a3, b3⟩ := pick_ev b hb hl (p + 1 + 1) 5 (by omega) (by omega) (by omega)
  have hr : 1 ≤ rd [7, 20, 300, 999, wrap64 (1 + v2)] v3 ∧ rd [7, 20, 300, 999, wrap64 (1 + v2)] v3 ≤ 999 := by
    rw [Lib.wrap_id (x := 1 + v2) (by omega) (by omega)]
    rcases (by omega : v3 = 0 ∨ v3 = 1 ∨ v3 = 2 ∨ v3 = 3 ∨ v3 = 4) with rfl | rfl | rfl | rfl | rfl <;> simp [rd] <;> omega
  refine ⟨1 + v1, rd [7, 20, 300, 999, wrap64 (1 + v2)] v3, ⟨K1 + K2 + K3, fun k hk => ?_⟩, by omega, by omega, hr.1, hr.2⟩
  dsimp only at e1 e2 e3 ⊢
  unfold spec_l20In.f
  rw [e1 k (by omega)]; simp only [Option.bind_some]
  rw [e2 k (by omega)]; simp only [Option.bind_some]
  rw [e3 k (by omega)]; simp only [Option.bind_some]
  rw [if_pos a3, if_pos (by simpa using b3), Lib.wrap_id (x := 1 + v1) (by omega) (by omega), show p + 1 + 1 + 1 = p + 3 by omega]
theorem out_ev (b : List Int) (hb : Lib.Bytes b) (hl : b.length ≤ 2000) (p : Int) (h0 : 0 ≤ p) (h1 : p ≤ 999000) :
    ∃ a q, Ev (fun k => spec_l20Out.f k b p) (a, q, p + 2) ∧ 100 ≤ a ∧ a ≤ 102 ∧ 1 ≤ q ∧ q ≤ 80 := by
  obtain ⟨v1, ⟨K1, e1⟩, a1, b1⟩ := pick_ev b hb hl p 3 h0 (by omega) (by omega)
  obtain ⟨v2, ⟨K2, e2⟩, a2, b2⟩ := pick_ev b hb hl (p + 1) 4 (by omega) (by omega) (by omega)
  have hr : 1 ≤ rd [21, 21, 80, 7] v2 ∧ rd [21, 21, 80, 7] v2 ≤ 80 := by
    rcases (by omega : v2 = 0 ∨ v2 = 1 ∨ v2 = 2 ∨ v2 = 3) with rfl | rfl | rfl | rfl <;> simp [rd]
  refine ⟨100 + v1, rd [21, 21, 80, 7] v2, ⟨K1 + K2, fun k hk => ?_⟩, by omega, by omega, hr.1, hr.2⟩
  dsimp only at e1 e2 ⊢
  unfold spec_l20Out.f
  rw [e1 k (by omega)]; simp only [Option.bind_some]
  rw [e2 k (by omega)]; simp only [Option.bind_some]
  rw [if_pos a2, if_pos (by simpa using b2), Lib.wrap_id (x := 100 + v1) (by omega) (by omega), show p + 1 + 1 = p + 2 by omega]
def dig (d : Int) : UInt8 := UInt8.ofNat (48 + d).toNat
/-- The digits of a number of at most three. -/
def dec3 (n : Int) : ByteArray := if n > 99 then ⟨#[dig (n / 100), dig (n / 10 % 10), dig (n % 10)]⟩ else if n > 9 then ⟨#[dig (n / 10), dig (n % 10)]⟩ else ⟨#[dig n]⟩
theorem dec3_size (n : Int) : 1 ≤ (dec3 n).size ∧ (dec3 n).size ≤ 3 := by
  unfold dec3
  split
  · exact ⟨by show 1 ≤ 3; omega, by show 3 ≤ 3; omega⟩
  · split
    · exact ⟨by show 1 ≤ 2; omega, by show 2 ≤ 3; omega⟩
    · exact ⟨by show 1 ≤ 1; omega, by show 1 ≤ 3; omega⟩
theorem nums1 (x : Int) (h0 : 0 ≤ x) (h1 : x ≤ 9) : strOfNums [wrap64 (48 + x) % 256] = ⟨#[dig x]⟩ := by
  rw [Lib.wrap_id (by omega) (by omega), show (48 + x) % 256 = 48 + x by omega]; rfl
theorem plain_last (k : Nat) (n : Int) (t : ByteArray) (h0 : 0 ≤ n) (h1 : n ≤ 9) (ht : t.size ≤ 1000000) : spec_l1Plain.l0 (k + 1) n t = some ((⟨#[dig n]⟩ : ByteArray) ++ t) := by
  rw [spec_l1Plain.l0, if_neg (by omega)]
  simp only [Option.bind_some]
  rw [nums1 n h0 h1, if_pos (by show 1 + t.size ≤ _; omega)]
theorem plain_step (k : Nat) (n : Int) (t : ByteArray) (h0 : 9 < n) (h1 : n ≤ 1000000) (ht : t.size ≤ 1000000) : spec_l1Plain.l0 (k + 1) n t = spec_l1Plain.l0 k (n / 10) ((⟨#[dig (n % 10)]⟩ : ByteArray) ++ t) := by
  rw [spec_l1Plain.l0, if_pos (by omega)]
  simp only [Option.bind_some]
  have e : Int.tmod n 10 = n % 10 := Int.tmod_eq_emod_of_nonneg (by omega)
  have e2 : Int.tdiv n 10 = n / 10 := Int.tdiv_eq_ediv_of_nonneg (by omega)
  rw [e, e2, nums1 (n % 10) (by omega) (by omega), if_pos (by show 1 + t.size ≤ _; omega), Lib.wrap_id (by omega) (by omega)]
theorem app1 (a : UInt8) (l : List UInt8) : (⟨#[a]⟩ : ByteArray) ++ (⟨l.toArray⟩ : ByteArray) = ⟨(a :: l).toArray⟩ := by
  apply ByteArray.ext
  simp [ByteArray.data_append]
theorem plain_3 (n : Int) (h0 : 0 ≤ n) (h1 : n ≤ 999) : spec_l1Plain.f 3 n = some (dec3 n) := by
  have z : (⟨#[]⟩ : ByteArray) = ⟨([] : List UInt8).toArray⟩ := rfl
  unfold spec_l1Plain.f dec3
  by_cases c : n > 99
  · rw [if_pos c, plain_step 2 n _ (by omega) (by omega) (by show 0 ≤ 1000000; omega), plain_step 1 (n / 10) _ (by omega) (by omega) (by show 1 ≤ 1000000; omega), plain_last 0 (n / 10 / 10) _ (by omega) (by omega) (by show 2 ≤ 1000000; omega), z, app1, app1, app1, show n / 10 / 10 = n / 100 by omega]
  · rw [if_neg c]
    by_cases c2 : n > 9
    · rw [if_pos c2, plain_step 2 n _ (by omega) (by omega) (by show 0 ≤ 1000000; omega), plain_last 1 (n / 10) _ (by omega) (by omega) (by show 1 ≤ 1000000; omega), z, app1, app1]
    · rw [if_neg c2, plain_last 2 n _ (by omega) (by omega) (by show 0 ≤ 1000000; omega), z, app1]
theorem plain_ev (n : Int) (h0 : 0 ≤ n) (h1 : n ≤ 999) : Ev (fun k => spec_l1Plain.f k n) (dec3 n) := Ev.of (k := 3) (spec_l1Plain.mono n) (plain_3 n h0 h1)
def endT (a p : Int) : ByteArray := dec3 a ++ (⟨#[32]⟩ : ByteArray) ++ dec3 p
theorem endT_size (a p : Int) : 3 ≤ (endT a p).size ∧ (endT a p).size ≤ 7 := by
  have h1 := dec3_size a
  have h2 := dec3_size p
  have h3 : (⟨#[32]⟩ : ByteArray).size = 1 := rfl
  unfold endT
  rw [ByteArray.size_append, ByteArray.size_append]
  omega
theorem endtext_ev (a p : Int) (h : endOkP a p) : Ev (fun k => spec_EndText.f k a p) (endT a p) := by
  obtain ⟨K1, e1⟩ := plain_ev a (by unfold endOkP at h; omega) (by unfold endOkP at h; omega)
  obtain ⟨K2, e2⟩ := plain_ev p (by unfold endOkP at h; omega) (by unfold endOkP at h; omega)
  have h1 := dec3_size a
  have h2 := dec3_size p
  refine ⟨K1 + K2, fun k hk => ?_⟩
  dsimp only at e1 e2 ⊢
  unfold spec_EndText.f
  rw [spec_end]; simp only [Option.bind_some, decide_eq_true_eq]
  rw [if_pos h, e1 k (by omega)]; simp only [Option.bind_some]
  rw [if_pos (by omega), e2 k (by omega)]; simp only [Option.bind_some]
  rw [if_pos (by rw [ByteArray.size_append]; show (dec3 a).size + 1 + _ ≤ _; omega)]
  rfl
theorem endtext_no (a p : Int) (h : ¬ endOkP a p) (k : Nat) : spec_EndText.f k a p = some ⟨#[]⟩ := by
  unfold spec_EndText.f
  rw [spec_end]; simp only [Option.bind_some, decide_eq_true_eq]
  rw [if_neg h]
def portT (a p : Int) : ByteArray := (⟨#[112, 111, 114, 116, 32]⟩ : ByteArray) ++ endT a p
theorem portT_size (a p : Int) : 8 ≤ (portT a p).size ∧ (portT a p).size ≤ 12 := by
  have h1 := endT_size a p
  have h3 : (⟨#[112, 111, 114, 116, 32]⟩ : ByteArray).size = 5 := rfl
  unfold portT
  rw [ByteArray.size_append]
  omega
theorem linport_ev (a p : Int) (h : endOkP a p) : Ev (fun k => spec_LinPort.f k a p) (portT a p) := by
  obtain ⟨K1, e1⟩ := endtext_ev a p h
  have h1 := endT_size a p
  refine ⟨K1, fun k hk => ?_⟩
  dsimp only at e1 ⊢
  unfold spec_LinPort.f
  rw [spec_end]; simp only [Option.bind_some, decide_eq_true_eq]
  rw [if_pos h, e1 k (by omega)]; simp only [Option.bind_some]
  rw [if_pos (by omega)]
  rfl
theorem linport_no (a p : Int) (h : ¬ endOkP a p) (k : Nat) : spec_LinPort.f k a p = some ⟨#[]⟩ := by
  unfold spec_LinPort.f
  rw [spec_end]; simp only [Option.bind_some, decide_eq_true_eq]
  rw [if_neg h]
def lines1 : List ByteArray := [(⟨#[]⟩ : ByteArray), (⟨#[108, 105, 115, 116]⟩ : ByteArray), (⟨#[117, 115, 101, 114, 32, 97]⟩ : ByteArray), (⟨#[112, 111, 114, 116, 32, 53, 48, 32, 53, 48, 48]⟩ : ByteArray), (⟨#[112, 111, 114, 116, 32, 49, 48, 48, 32, 57]⟩ : ByteArray), (⟨#[112, 111, 114, 116, 32, 48, 49, 32, 50]⟩ : ByteArray), (⟨#[112, 111, 114, 116, 32, 49]⟩ : ByteArray), (⟨#[97, 98, 99, 100, 101, 102, 103, 104, 105, 106, 32, 107, 108, 109, 110, 111]⟩ : ByteArray), (⟨#[112, 111, 114, 116]⟩ : ByteArray), (⟨#[112, 111, 114, 116, 32, 49, 32, 50, 32, 51]⟩ : ByteArray)]
def lines2 : List ByteArray := [(⟨#[97]⟩ : ByteArray), (⟨#[98, 98]⟩ : ByteArray), (⟨#[103, 101, 116, 32, 102, 105, 108, 101, 49]⟩ : ByteArray), (⟨#[113, 117, 105, 116]⟩ : ByteArray)]
/-- A drawn line: it is short; and, where it is asked, what its bytes are. -/
theorem line_ev (b : List Int) (hb : Lib.Bytes b) (hl : b.length ≤ 2000) (p : Int) (h0 : 0 ≤ p) (h1 : p ≤ 990000) :
    ∃ t p', Ev (fun k => spec_l20Line.f k b p) (t, p') ∧ t.size ≤ 16 ∧ p < p' ∧ p' ≤ p + 4 := by
  obtain ⟨v1, ⟨K1, e1⟩, a1, b1⟩ := pick_ev b hb hl p 3 h0 (by omega) (by omega)
  dsimp only at e1
  by_cases c1 : v1 = 0
  · obtain ⟨a, q, ⟨K2, e2⟩, g1, g2, g3, g4⟩ := in_ev b hb hl (p + 1) (by omega) (by omega)
    obtain ⟨K3, e3⟩ := linport_ev a q (by unfold endOkP; omega)
    dsimp only at e2 e3
    refine ⟨portT a q, p + 1 + 3, ⟨K1 + K2 + K3, fun k hk => ?_⟩, by have := portT_size a q; omega, by omega, by omega⟩
    dsimp only
    unfold spec_l20Line.f
    rw [e1 k (by omega)]; simp only [Option.bind_some]
    rw [if_pos c1, e2 k (by omega)]; simp only [Option.bind_some]
    rw [e3 k (by omega)]; rfl
  · by_cases c2 : v1 = 1
    · obtain ⟨v2, ⟨K2, e2⟩, a2, b2⟩ := pick_ev b hb hl (p + 1) 10 (by omega) (by omega) (by omega)
      dsimp only at e2
      refine ⟨rdOf ByteArray.empty lines1 v2, p + 1 + 1, ⟨K1 + K2, fun k hk => ?_⟩, ?_, by omega, by omega⟩
      · dsimp only
        unfold spec_l20Line.f
        rw [e1 k (by omega)]; simp only [Option.bind_some]
        rw [if_neg c1, if_pos c2, e2 k (by omega)]; simp only [Option.bind_some]
        rw [if_pos a2, if_pos (by simpa using b2)]; rfl
      · rcases (by omega : v2 = 0 ∨ v2 = 1 ∨ v2 = 2 ∨ v2 = 3 ∨ v2 = 4 ∨ v2 = 5 ∨ v2 = 6 ∨ v2 = 7 ∨ v2 = 8 ∨ v2 = 9) with rfl | rfl | rfl | rfl | rfl | rfl | rfl | rfl | rfl | rfl <;> decide
    · obtain ⟨v2, ⟨K2, e2⟩, a2, b2⟩ := pick_ev b hb hl (p + 1) 4 (by omega) (by omega) (by omega)
      dsimp only at e2
      refine ⟨rdOf ByteArray.empty lines2 v2, p + 1 + 1, ⟨K1 + K2, fun k hk => ?_⟩, ?_, by omega, by omega⟩
      · dsimp only
        unfold spec_l20Line.f
        rw [e1 k (by omega)]; simp only [Option.bind_some]
        rw [if_neg c1, if_neg c2, e2 k (by omega)]; simp only [Option.bind_some]
        rw [if_pos a2, if_pos (by simpa using b2)]; rfl
      · rcases (by omega : v2 = 0 ∨ v2 = 1 ∨ v2 = 2 ∨ v2 = 3) with rfl | rfl | rfl | rfl <;> decide
theorem odd_ev (b : List Int) (hb : Lib.Bytes b) (hl : b.length ≤ 2000) (p n : Int) (h0 : 0 ≤ p) (h1 : p ≤ 1000000) (hn : 1 ≤ n) (hn2 : n ≤ 1000000) :
    ∃ v p', Ev (fun k => spec_l20Rd_odd.f k b p n) (v, p') ∧ p ≤ p' ∧ p' ≤ p + 1 ∧ (9000 ≤ n → v = false ∧ p' = p) := by
  by_cases c : n < 9000
  · obtain ⟨v, ⟨K, e⟩, _, _⟩ := pick_ev b hb hl p n h0 h1 hn
    dsimp only at e
    refine ⟨v == wrap64 (n - 1), p + 1, ⟨K, fun k hk => ?_⟩, by omega, by omega, fun h => by omega⟩
    dsimp only
    unfold spec_l20Rd_odd.f
    rw [if_pos c, e k hk]; rfl
  · refine ⟨false, p, ⟨0, fun k hk => ?_⟩, by omega, by omega, fun _ => ⟨rfl, rfl⟩⟩
    dsimp only
    unfold spec_l20Rd_odd.f
    rw [if_neg c]
theorem end_ev (b : List Int) (hb : Lib.Bytes b) (hl : b.length ≤ 2000) (p n : Int) (h0 : 0 ≤ p) (h1 : p ≤ 900000) (hn : 1 ≤ n) (hn2 : n ≤ 1000000) :
    ∃ a q p', Ev (fun k => spec_l20End.f k b p n) (a, q, p') ∧ p ≤ p' ∧ p' ≤ p + 10 ∧ -1 ≤ a ∧ a ≤ 110 ∧ -1 ≤ q ∧ q ≤ 1000 ∧ (9000 ≤ n → endOkP a q) := by
  obtain ⟨v0, p0, ⟨K0, e0⟩, g0, g1, g2⟩ := odd_ev b hb hl p n h0 (by omega) hn hn2
  dsimp only at e0
  cases v0 with
  | true =>
    obtain ⟨v1, ⟨K1, e1⟩, a1, b1⟩ := pick_ev b hb hl p0 6 (by omega) (by omega) (by omega)
    dsimp only at e1
    obtain ⟨xs, hxs⟩ : ∃ xs : List (S24), xs = [(⟨0, 0⟩ : S24), (⟨10, 5⟩ : S24), (⟨1, 0⟩ : S24), (⟨1, 1000⟩ : S24), (⟨110, 3⟩ : S24), (⟨(-1), (-1)⟩ : S24)] := ⟨_, rfl⟩
    have hr : -1 ≤ (rd_T24 xs v1).f0 ∧ (rd_T24 xs v1).f0 ≤ 110 ∧ -1 ≤ (rd_T24 xs v1).f1 ∧ (rd_T24 xs v1).f1 ≤ 1000 := by
      rw [hxs]
      rcases (by omega : v1 = 0 ∨ v1 = 1 ∨ v1 = 2 ∨ v1 = 3 ∨ v1 = 4 ∨ v1 = 5) with rfl | rfl | rfl | rfl | rfl | rfl <;> decide
    refine ⟨(rd_T24 xs v1).f0, (rd_T24 xs v1).f1, p0 + 1, ⟨K0 + K1, fun k hk => ?_⟩, by omega, by omega, hr.1, hr.2.1, hr.2.2.1, hr.2.2.2, fun h => by have := (g2 h).1; cases this⟩
    dsimp only
    unfold spec_l20End.f
    rw [e0 k (by omega)]; simp only [Option.bind_some, if_true]
    rw [e1 k (by omega)]; simp only [Option.bind_some]
    rw [if_pos a1, if_pos (by simpa using b1), hxs]
  | false =>
    obtain ⟨a1, q1, ⟨K1, e1⟩, i1, i2, i3, i4⟩ := in_ev b hb hl p0 (by omega) (by omega)
    obtain ⟨a2, q2, ⟨K2, e2⟩, j1, j2, j3, j4⟩ := out_ev b hb hl (p0 + 3) (by omega) (by omega)
    obtain ⟨v3, ⟨K3, e3⟩, a3, b3⟩ := pick_ev b hb hl (p0 + 3 + 2) 7 (by omega) (by omega) (by omega)
    obtain ⟨v4, ⟨K4, e4⟩, a4, b4⟩ := pick_ev b hb hl (p0 + 3 + 2 + 1) 3 (by omega) (by omega) (by omega)
    dsimp only at e1 e2 e3 e4
    obtain ⟨xs, hxs⟩ : ∃ xs : List (S24), xs = [(⟨a1, q1⟩ : S24), (⟨a2, q2⟩ : S24), (⟨50, wrap64 (500 + v3)⟩ : S24)] := ⟨_, rfl⟩
    have hr : endOkP (rd_T24 xs v4).f0 (rd_T24 xs v4).f1 := by
      rw [hxs, Lib.wrap_id (x := 500 + v3) (by omega) (by omega)]
      rcases (by omega : v4 = 0 ∨ v4 = 1 ∨ v4 = 2) with rfl | rfl | rfl <;> simp [rd_T24, endOkP] <;> omega
    have hr2 := hr
    unfold endOkP at hr2
    refine ⟨(rd_T24 xs v4).f0, (rd_T24 xs v4).f1, p0 + 3 + 2 + 1 + 1, ⟨K0 + K1 + K2 + K3 + K4, fun k hk => ?_⟩, by omega, by omega, by omega, by omega, by omega, by omega, fun _ => hr⟩
    dsimp only
    unfold spec_l20End.f
    rw [e0 k (by omega)]; simp only [Option.bind_some]
    rw [if_neg (by decide), e1 k (by omega)]; simp only [Option.bind_some]
    rw [e2 k (by omega)]; simp only [Option.bind_some]
    rw [e3 k (by omega)]; simp only [Option.bind_some]
    rw [e4 k (by omega)]; simp only [Option.bind_some]
    rw [if_pos a4, if_pos (by simpa using b4), hxs]
theorem stream_0 (b : List Int) (hb : Lib.Bytes b) (hl : b.length ≤ 2000) (z : Int) (hz : ¬ z > 0) (t : ByteArray) (p : Int) (ht : t.size ≤ 120) (h0 : 0 ≤ p) (h1 : p ≤ 980000) :
    ∃ t' p', Ev (fun k => spec_l20Stream.l0 k t z b p) (t', p') ∧ t'.size ≤ 120 ∧ p < p' ∧ p' ≤ p + 5 := by
  obtain ⟨v1, ⟨K1, e1⟩, a1, b1⟩ := pick_ev b hb hl p 3 h0 (by omega) (by omega)
  dsimp only at e1
  by_cases c : v1 = 0
  · obtain ⟨t2, p2, ⟨K2, e2⟩, s2, g1, g2⟩ := line_ev b hb hl (p + 1) (by omega) (by omega)
    dsimp only at e2
    have hw_ : wrap64 ((t.size : Int) + (t2.size : Int)) = (t.size : Int) + (t2.size : Int) := Lib.wrap_id (by omega) (by omega)
    by_cases c2 : (t.size : Int) + (t2.size : Int) ≤ 120
    · refine ⟨t ++ t2, p2, ⟨K1 + K2 + 1, fun k hk => ?_⟩, by rw [ByteArray.size_append]; omega, by omega, by omega⟩
      obtain ⟨k, rfl⟩ : ∃ m, k = m + 1 := ⟨k - 1, by omega⟩
      suffices h_ : ∀ R, some (t ++ t2, p2) = R → spec_l20Stream.l0 (k + 1) t z b p = R from h_ _ rfl
      intro R hR
      rw [spec_l20Stream.l0, if_neg hz, e1 k (by omega)]; simp only [Option.bind_some]
      rw [if_pos c, e2 k (by omega), Option.bind_some]
      rw [show wrap64 ((t.size : Int) + (((t2, p2) : ByteArray × Int).1.size : Int)) = (t.size : Int) + (t2.size : Int) from hw_, if_pos c2, if_pos (show t.size + t2.size ≤ 9223372036854775807 by omega)]; exact hR
    · refine ⟨t, p2, ⟨K1 + K2 + 1, fun k hk => ?_⟩, ht, by omega, by omega⟩
      obtain ⟨k, rfl⟩ : ∃ m, k = m + 1 := ⟨k - 1, by omega⟩
      suffices h_ : ∀ R, some (t, p2) = R → spec_l20Stream.l0 (k + 1) t z b p = R from h_ _ rfl
      intro R hR
      rw [spec_l20Stream.l0, if_neg hz, e1 k (by omega)]; simp only [Option.bind_some]
      rw [if_pos c, e2 k (by omega), Option.bind_some]
      rw [show wrap64 ((t.size : Int) + (((t2, p2) : ByteArray × Int).1.size : Int)) = (t.size : Int) + (t2.size : Int) from hw_, if_neg c2]; exact hR
  · refine ⟨t, p + 1, ⟨K1 + 1, fun k hk => ?_⟩, ht, by omega, by omega⟩
    obtain ⟨k, rfl⟩ : ∃ m, k = m + 1 := ⟨k - 1, by omega⟩
    dsimp only
    rw [spec_l20Stream.l0, if_neg hz, e1 k (by omega)]; simp only [Option.bind_some]
    rw [if_neg c]
theorem stream_l (b : List Int) (hb : Lib.Bytes b) (hl : b.length ≤ 2000) (n : Nat) : ∀ (t : ByteArray) (p : Int), t.size ≤ 120 → n ≤ 8 → 0 ≤ p → p ≤ 980000 - 4 * (n : Int) →
    ∃ t' p', Ev (fun k => spec_l20Stream.l0 k t (n : Int) b p) (t', p') ∧ t'.size ≤ 120 ∧ p < p' ∧ p' ≤ p + 4 * (n : Int) + 5 := by
  induction n with
  | zero =>
    intro t p ht _ h0 h1
    obtain ⟨t', p', e, r1, r2, r3⟩ := stream_0 b hb hl ((0 : Nat) : Int) (by omega) t p ht h0 (by omega)
    exact ⟨t', p', e, r1, r2, by omega⟩
  | succ n ih =>
    intro t p ht hn h0 h1
    obtain ⟨t2, p2, ⟨K2, e2⟩, s2, g1, g2⟩ := line_ev b hb hl p h0 (by omega)
    dsimp only at e2
    have hz : ((t ++ t2) ++ (⟨#[59]⟩ : ByteArray)).size = t.size + t2.size + 1 := by rw [ByteArray.size_append, ByteArray.size_append]; rfl
    have hw : wrap64 (((n + 1 : Nat) : Int) - 1) = (n : Int) := by rw [Lib.wrap_id (by omega) (by omega)]; omega
    by_cases c : (((t ++ t2) ++ (⟨#[59]⟩ : ByteArray)).size : Int) ≤ 120
    · obtain ⟨t', p', ⟨K3, e3⟩, r1, r2, r3⟩ := ih ((t ++ t2) ++ (⟨#[59]⟩ : ByteArray)) p2 (by omega) (by omega) (by omega) (by omega)
      dsimp only at e3
      refine ⟨t', p', ⟨K2 + K3 + 1, fun k hk => ?_⟩, r1, by omega, by omega⟩
      obtain ⟨k, rfl⟩ : ∃ m, k = m + 1 := ⟨k - 1, by omega⟩
      dsimp only
      rw [spec_l20Stream.l0, if_pos (by omega), e2 k (by omega)]; simp only [Option.bind_some]
      rw [if_pos (by omega), if_pos (by rw [ByteArray.size_append]; omega), if_pos c, hw]
      exact e3 k (by omega)
    · obtain ⟨t', p', ⟨K3, e3⟩, r1, r2, r3⟩ := ih t p2 ht (by omega) (by omega) (by omega)
      dsimp only at e3
      refine ⟨t', p', ⟨K2 + K3 + 1, fun k hk => ?_⟩, r1, by omega, by omega⟩
      obtain ⟨k, rfl⟩ : ∃ m, k = m + 1 := ⟨k - 1, by omega⟩
      dsimp only
      rw [spec_l20Stream.l0, if_pos (by omega), e2 k (by omega)]; simp only [Option.bind_some]
      rw [if_pos (by omega), if_pos (by rw [ByteArray.size_append]; omega), if_neg c, hw]
      exact e3 k (by omega)
theorem stream_ev (b : List Int) (hb : Lib.Bytes b) (hl : b.length ≤ 2000) (p : Int) (h0 : 0 ≤ p) (h1 : p ≤ 900000) :
    ∃ t p', Ev (fun k => spec_l20Stream.f k b p) (t, p') ∧ t.size ≤ 120 ∧ p < p' ∧ p' ≤ p + 40 := by
  obtain ⟨v1, ⟨K1, e1⟩, a1, b1⟩ := pick_ev b hb hl p 9 h0 (by omega) (by omega)
  obtain ⟨n, rfl⟩ := Int.eq_ofNat_of_zero_le a1
  obtain ⟨t', p', ⟨K2, e2⟩, r1, r2, r3⟩ := stream_l b hb hl n (⟨#[]⟩ : ByteArray) (p + 1) (by decide) (by omega) (by omega) (by omega)
  dsimp only at e1 e2
  refine ⟨t', p', ⟨K1 + K2, fun k hk => ?_⟩, r1, by omega, by omega⟩
  dsimp only
  unfold spec_l20Stream.f
  rw [e1 k (by omega)]; simp only [Option.bind_some]
  exact e2 k (by omega)
theorem data_ev (b : List Int) (hb : Lib.Bytes b) (hl : b.length ≤ 2000) (p : Int) (h0 : 0 ≤ p) (h1 : p ≤ 900000) :
    ∃ t p', Ev (fun k => spec_l20Data.f k b p) (t, p') ∧ t.size ≤ 12 ∧ p < p' ∧ p' ≤ p + 41 := by
  obtain ⟨t, p1, ⟨K1, e1⟩, s1, g1, g2⟩ := stream_ev b hb hl p h0 h1
  obtain ⟨v, ⟨K2, e2⟩, a2, b2⟩ := pick_ev b hb hl p1 13 (by omega) (by omega) (by omega)
  dsimp only at e1 e2
  have hm : 0 ≤ mn (t.size : Int) v ∧ mn (t.size : Int) v ≤ (t.size : Int) ∧ mn (t.size : Int) v ≤ v := by unfold mn; split <;> omega
  refine ⟨t.extract 0 (mn (t.size : Int) v).toNat, p1 + 1, ⟨K1 + K2, fun k hk => ?_⟩, by rw [ByteArray.size_extract]; omega, by omega, by omega⟩
  dsimp only
  unfold spec_l20Data.f
  rw [e1 k (by omega)]; simp only [Option.bind_some]
  rw [e2 k (by omega)]; simp only [Option.bind_some]
  rw [if_pos hm.1, if_pos hm.2.1]
def datas : List ByteArray := [(⟨#[116, 104, 105, 114, 116, 101, 101, 110, 32, 98, 121, 116, 101]⟩ : ByteArray), (⟨#[65]⟩ : ByteArray), (⟨#[10]⟩ : ByteArray)]
/-- A drawn segment: its numbers are small, its text is short. -/
theorem seg_ev (b : List Int) (hb : Lib.Bytes b) (hl : b.length ≤ 2000) (p n : Int) (h0 : 0 ≤ p) (h1 : p ≤ 800000) (hn : 1 ≤ n) (hn2 : n ≤ 1000000) :
    ∃ a1 q1 a2 q2 x y t p', Ev (fun k => spec_l20Seg.f k b p n) (a1, q1, a2, q2, x, y, t, p') ∧ t.size ≤ 13 ∧ p < p' ∧ p' ≤ p + 100 ∧ -1 ≤ x ∧ x ≤ 241 := by
  obtain ⟨a1, q1, p1, ⟨K1, e1⟩, g1, g2, _⟩ := end_ev b hb hl p 40 h0 (by omega) (by omega) (by omega)
  obtain ⟨a2, q2, p2, ⟨K2, e2⟩, g3, g4, _⟩ := end_ev b hb hl p1 40 (by omega) (by omega) (by omega) (by omega)
  obtain ⟨x, ⟨K3, e3⟩, x0, x1⟩ := pick_ev b hb hl p2 60 (by omega) (by omega) (by omega)
  obtain ⟨y, ⟨K4, e4⟩, y0, y1⟩ := pick_ev b hb hl (p2 + 1) 60 (by omega) (by omega) (by omega)
  obtain ⟨t, p3, ⟨K5, e5⟩, s5, g5, g6⟩ := data_ev b hb hl (p2 + 1 + 1) (by omega) (by omega)
  obtain ⟨v, p4, ⟨K6, e6⟩, g7, g8, _⟩ := odd_ev b hb hl p3 n (by omega) (by omega) hn hn2
  dsimp only at e1 e2 e3 e4 e5 e6
  cases v with
  | false =>
    refine ⟨a1, q1, a2, q2, x, y, t, p4, ⟨K1 + K2 + K3 + K4 + K5 + K6, fun k hk => ?_⟩, by omega, by omega, by omega, by omega, by omega⟩
    dsimp only
    unfold spec_l20Seg.f
    rw [e1 k (by omega)]; simp only [Option.bind_some]
    rw [e2 k (by omega)]; simp only [Option.bind_some]
    rw [e3 k (by omega)]; simp only [Option.bind_some]
    rw [e4 k (by omega)]; simp only [Option.bind_some]
    rw [e5 k (by omega)]; simp only [Option.bind_some]
    rw [e6 k (by omega)]; simp only [Option.bind_some]
    rw [if_neg (by decide)]
  | true =>
    obtain ⟨u, ⟨K7, e7⟩, u0, u1⟩ := pick_ev b hb hl p4 4 (by omega) (by omega) (by omega)
    dsimp only at e7
    have head : ∀ k, K1 + K2 + K3 + K4 + K5 + K6 + K7 ≤ k → ∀ R, (if u = 0 then ((spec_l20End.f k b (p4 + 1) 1).bind fun bt => some (bt.1, bt.2.1, a2, q2, x, y, t, bt.2.2)) else
        (if u = 1 then ((spec_l20Rd_pick.f k b (p4 + 1) 3).bind fun bt => if 0 ≤ bt.1 then (if bt.1 < (([(-1), 241, 240] : List Int).length : Int) then some (a1, q1, a2, q2, rd [(-1), 241, 240] bt.1, y, t, bt.2) else none) else none) else
        (if u = 2 then ((spec_l20Rd_pick.f k b (p4 + 1) 2).bind fun bt => if 0 ≤ bt.1 then (if bt.1 < (([(-1), 241] : List Int).length : Int) then some (a1, q1, a2, q2, x, rd [(-1), 241] bt.1, t, bt.2) else none) else none) else
        ((spec_l20Rd_pick.f k b (p4 + 1) 3).bind fun bt => if 0 ≤ bt.1 then (if bt.1 < (datas.length : Int) then some (a1, q1, a2, q2, x, y, rdOf ByteArray.empty datas bt.1, bt.2) else none) else none)))) = R → spec_l20Seg.f k b p n = R := by
      intro k hk R hR
      rw [← hR]
      unfold spec_l20Seg.f
      rw [e1 k (by omega)]; simp only [Option.bind_some]
      rw [e2 k (by omega)]; simp only [Option.bind_some]
      rw [e3 k (by omega)]; simp only [Option.bind_some]
      rw [e4 k (by omega)]; simp only [Option.bind_some]
      rw [e5 k (by omega)]; simp only [Option.bind_some]
      rw [e6 k (by omega)]; simp only [Option.bind_some]
      rw [if_pos trivial, e7 k (by omega)]; simp only [Option.bind_some]
      rfl
    by_cases c0 : u = 0
    · obtain ⟨a3, q3, p5, ⟨K8, e8⟩, r1, r2, _⟩ := end_ev b hb hl (p4 + 1) 1 (by omega) (by omega) (by omega) (by omega)
      dsimp only at e8
      refine ⟨a3, q3, a2, q2, x, y, t, p5, ⟨K1 + K2 + K3 + K4 + K5 + K6 + K7 + K8, fun k hk => ?_⟩, by omega, by omega, by omega, by omega, by omega⟩
      exact head k (by omega) _ (by rw [if_pos c0, e8 k (by omega)]; rfl)
    · by_cases c1 : u = 1
      · obtain ⟨v8, ⟨K8, e8⟩, r1, r2⟩ := pick_ev b hb hl (p4 + 1) 3 (by omega) (by omega) (by omega)
        dsimp only at e8
        have hx : -1 ≤ rd [(-1), 241, 240] v8 ∧ rd [(-1), 241, 240] v8 ≤ 241 := by
          rcases (by omega : v8 = 0 ∨ v8 = 1 ∨ v8 = 2) with rfl | rfl | rfl <;> decide
        refine ⟨a1, q1, a2, q2, rd [(-1), 241, 240] v8, y, t, p4 + 1 + 1, ⟨K1 + K2 + K3 + K4 + K5 + K6 + K7 + K8, fun k hk => ?_⟩, by omega, by omega, by omega, hx.1, hx.2⟩
        exact head k (by omega) _ (by rw [if_neg c0, if_pos c1, e8 k (by omega)]; simp only [Option.bind_some]; rw [if_pos r1, if_pos (by simpa using r2)])
      · by_cases c2 : u = 2
        · obtain ⟨v8, ⟨K8, e8⟩, r1, r2⟩ := pick_ev b hb hl (p4 + 1) 2 (by omega) (by omega) (by omega)
          dsimp only at e8
          refine ⟨a1, q1, a2, q2, x, rd [(-1), 241] v8, t, p4 + 1 + 1, ⟨K1 + K2 + K3 + K4 + K5 + K6 + K7 + K8, fun k hk => ?_⟩, by omega, by omega, by omega, by omega, by omega⟩
          exact head k (by omega) _ (by rw [if_neg c0, if_neg c1, if_pos c2, e8 k (by omega)]; simp only [Option.bind_some]; rw [if_pos r1, if_pos (by simpa using r2)])
        · obtain ⟨v8, ⟨K8, e8⟩, r1, r2⟩ := pick_ev b hb hl (p4 + 1) 3 (by omega) (by omega) (by omega)
          dsimp only at e8
          have hx : (rdOf ByteArray.empty datas v8).size ≤ 13 := by
            rcases (by omega : v8 = 0 ∨ v8 = 1 ∨ v8 = 2) with rfl | rfl | rfl <;> decide
          refine ⟨a1, q1, a2, q2, x, y, rdOf ByteArray.empty datas v8, p4 + 1 + 1, ⟨K1 + K2 + K3 + K4 + K5 + K6 + K7 + K8, fun k hk => ?_⟩, hx, by omega, by omega, by omega, by omega⟩
          exact head k (by omega) _ (by rw [if_neg c0, if_neg c1, if_neg c2, e8 k (by omega)]; simp only [Option.bind_some]; rw [if_pos r1, if_pos (by simpa [datas] using r2)])
theorem drawsegbytes_ev (l : List Int) (hb : Lib.Bytes l) (hl : l.length ≤ 9223372036854775807) : ∃ a1 q1 a2 q2 x y t, Ev (fun k => spec_DrawSegBytes.f k l) (a1, q1, a2, q2, x, y, t) ∧ t.size ≤ 13 := by
  obtain ⟨b, h0, hb, hl⟩ := open_eq l hb hl
  obtain ⟨a1, q1, a2, q2, x, y, t, p', ⟨K1, e1⟩, ht, _⟩ := seg_ev b hb hl 0 6 (by omega) (by omega) (by omega) (by omega)
  dsimp only at e1
  refine ⟨a1, q1, a2, q2, x, y, t, ⟨K1, fun k hk => ?_⟩, ht⟩
  dsimp only
  unfold spec_DrawSegBytes.f
  rw [h0]; simp only [Option.bind_some]
  rw [e1 k hk]; rfl
theorem hab_l (l m : List Int) (hl : l.length ≤ 140737488351232) (hm : l.length = m.length) (d : Nat) : ∀ (k i : Nat), i ≤ l.length → l.length - i = d → d < k →
    laws_haBytes.l0 k l m (i : Int) = some (decide (l.drop i = m.drop i)) := by
  induction d with
  | zero =>
    intro k i hi hd hk
    obtain ⟨k, rfl⟩ : ∃ m, k = m + 1 := ⟨k - 1, by omega⟩
    simp only [laws_haBytes.l0]; rw [if_neg (by omega), List.drop_eq_nil_of_le (by omega), List.drop_eq_nil_of_le (by omega)]; simp
  | succ d ih =>
    intro k i hi hd hk
    obtain ⟨k, rfl⟩ : ∃ m, k = m + 1 := ⟨k - 1, by omega⟩
    simp only [laws_haBytes.l0]
    rw [if_pos (by omega), if_pos (by omega), if_pos (by omega), Lib.wrap_id (x := (i : Int) + 1) (by omega) (by omega)]
    have := ih k (i + 1) (by omega) (by omega) (by omega)
    rw [show (((i + 1 : Nat)) : Int) = (i : Int) + 1 by omega] at this
    rw [this, Lib.drop_cons l i (by omega), Lib.drop_cons m i (by omega)]
    by_cases h : rd l (i : Int) = rd m (i : Int)
    · rw [if_pos h]; simp [h]
    · rw [if_neg h]; simp [h]
theorem hab_ev (l m : List Int) (hl : l.length ≤ 140737488351232) : Ev (fun k => laws_haBytes.f k l m) (decide (l = m)) := by
  refine Ev.of (k := l.length + 1) (laws_haBytes.mono l m) ?_
  unfold laws_haBytes.f
  by_cases h : (l.length : Int) = (m.length : Int)
  · rw [if_pos h]
    have := hab_l l m hl (by omega) l.length (l.length + 1) 0 (by omega) (by omega) (by omega)
    simpa using this
  · rw [if_neg h]
    have : ¬ l = m := fun e => h (by rw [e])
    rw [decide_eq_false this]
theorem put_eq (l : List Int) (n : Int) (hl : l.length ≤ 1000000) (h0 : 0 ≤ n) (h1 : n ≤ 65535) : spec_l5Put.f l n = some (l ++ twoL n) := by
  unfold spec_l5Put.f
  simp only [Option.bind_some, List.nil_append]
  rw [if_pos (by simp; omega)]
  have e1 : Int.tdiv n 256 = n / 256 := Int.tdiv_eq_ediv_of_nonneg h0
  have e2 : Int.tmod n 256 = n % 256 := Int.tmod_eq_emod_of_nonneg h0
  rw [e1, e2, Lib.wrap_id (by omega) (by omega), show n / 256 % 256 = n / 256 by omega, show n % 256 % 256 = n % 256 by omega, if_pos (by simp; omega)]
  rfl
theorem body_ev {a p b q x y : Int} {s : ByteArray} (h : segOkB a p b q x y s = true) : Ev (fun k => spec_l5Body.f k a p b q x y s) (segBody a p b q x y s) := by
  have hb := segOk_bd h
  have step : ∀ (k i : Nat) (acc : List Int) (v : Int), i < 6 → rd [a, p, b, q, x, y] (i : Int) = v → acc.length ≤ 100 → 0 ≤ v → v ≤ 65535 →
      spec_l5Body.l0 (k + 1) acc [a, p, b, q, x, y] (i : Int) a p b q x y s = spec_l5Body.l0 k (acc ++ twoL v) [a, p, b, q, x, y] ((i + 1 : Nat) : Int) a p b q x y s := by
    intro k i acc v hi hv hacc h0 h1
    rw [spec_l5Body.l0, if_pos (by simp; omega), if_pos (by omega), hv, put_eq acc v (by omega) h0 h1]
    simp only [Option.bind_some]
    rw [Lib.wrap_id (by omega) (by omega)]; rfl
  refine Ev.of (k := 7) (spec_l5Body.mono a p b q x y s) ?_
  show spec_l5Body.f 7 a p b q x y s = _
  unfold spec_l5Body.f
  rw [show (0 : Int) = ((0 : Nat) : Int) from rfl, step 6 0 _ a (by omega) rfl (by simp) (by omega) (by omega), step 5 1 _ p (by omega) rfl (by simp [twoL]) (by omega) (by omega), step 4 2 _ b (by omega) rfl (by simp [twoL]) (by omega) (by omega),
    step 3 3 _ q (by omega) rfl (by simp [twoL]) (by omega) (by omega), step 2 4 _ x (by omega) rfl (by simp [twoL]) (by omega) (by omega), step 1 5 _ y (by omega) rfl (by simp [twoL]) (by omega) (by omega)]
  rw [spec_l5Body.l0, if_neg (by simp), if_pos (by simp [twoL])]
  simp only [Option.bind_some]
  rw [show (s.size : Int) % 256 = (s.size : Int) by omega, if_pos (by simp [twoL]; omega)]
  simp [segBody, segHead]
theorem spec_bytes_ev (a p b q x y : Int) (s : ByteArray) : Ev (fun k => spec_SegBytes.f k a p b q x y s) (segBytesV a p b q x y s) := by
  obtain ⟨K0, e0⟩ := spec_seg_ev a p b q x y s
  dsimp only at e0
  by_cases h : segOkB a p b q x y s = true
  · obtain ⟨K1, e1⟩ := body_ev h
    obtain ⟨K2, e2⟩ := spec_sum_ev (segBody a p b q x y s) (by rw [body_len]; have := segOk_bd h; omega) (body_bytes h)
    dsimp only at e1 e2
    have hs := sumF_bd (segBody a p b q x y s)
    refine ⟨K0 + K1 + K2, fun k hk => ?_⟩
    dsimp only
    unfold spec_SegBytes.f segBytesV
    rw [e0 k (by omega)]; simp only [Option.bind_some]
    rw [if_pos h, if_pos h, e1 k (by omega)]; simp only [Option.bind_some]
    rw [e2 k (by omega)]; simp only [Option.bind_some]
    rw [put_eq _ _ (by rw [body_len]; have := segOk_bd h; omega) hs.1 (by omega)]; rfl
  · refine ⟨K0, fun k hk => ?_⟩
    dsimp only
    unfold spec_SegBytes.f segBytesV
    rw [e0 k hk]; simp only [Option.bind_some]
    rw [if_neg h, if_neg h]
theorem impl_rd_ev (l : List Int) (hb : Lib.Bytes l) (hl : l.length ≤ 140737488351232) : Ev (fun k => impl_SegRead.f k l) (segRdV l) := by
  obtain ⟨K, h⟩ := spec_rd_ev l hb hl
  refine ⟨K, fun k hk => ?_⟩
  dsimp only
  unfold impl_SegRead.f
  rw [if_pos ⟨hb, hl⟩]
  exact h k hk
theorem step_inj {n m x : Int} (h0 : 0 ≤ n) (h1 : n ≤ 65520) (g0 : 0 ≤ m) (g1 : m ≤ 65520) (h : segStep n x = segStep m x) : n = m := by
  unfold segStep at h; omega
theorem step_ne {n x y : Int} (x0 : 0 ≤ x) (x1 : x ≤ 255) (y0 : 0 ≤ y) (y1 : y ≤ 255) (h : segStep n x = segStep n y) : x = y := by
  unfold segStep at h; omega
theorem fold_inj (l : List Int) : ∀ (n m : Int), 0 ≤ n → n ≤ 65520 → 0 ≤ m → m ≤ 65520 → l.foldl segStep n = l.foldl segStep m → n = m := by
  induction l with
  | nil => intro n m _ _ _ _ h; exact h
  | cons x l ih =>
    intro n m h0 h1 g0 g1 h
    simp only [List.foldl_cons] at h
    have a := step_bd n x
    have b := step_bd m x
    exact step_inj h0 h1 g0 g1 (ih _ _ a.1 a.2 b.1 b.2 h)
theorem sum_set (l : List Int) (hb : Lib.Bytes l) (v : Int) (v0 : 0 ≤ v) (v1 : v ≤ 255) : ∀ (i : Nat) (n : Int), i < l.length → 0 ≤ n → n ≤ 65520 → l.getD i 0 ≠ v → (l.set i v).foldl segStep n ≠ l.foldl segStep n := by
  induction l with
  | nil => intro i n hi; simp at hi
  | cons x l ih =>
    intro i n hi h0 h1 hv
    have hx := hb x (by simp)
    have hb' : Lib.Bytes l := fun z hz => hb z (by simp [hz])
    cases i with
    | zero =>
      simp only [List.set_cons_zero, List.foldl_cons]
      intro h
      have a := step_bd n x
      have b := step_bd n v
      have e := fold_inj l _ _ b.1 b.2 a.1 a.2 h
      exact hv (step_ne v0 v1 hx.1 (by omega) e).symm
    | succ i =>
      simp only [List.set_cons_succ, List.foldl_cons]
      have a := step_bd n x
      exact ih hb' i _ (by simpa using hi) a.1 a.2 (by simpa using hv)
theorem rd_left (l m : List Int) (i : Nat) (h : i < l.length) : rd (l ++ m) (i : Int) = rd l (i : Int) := by
  rw [Lib.rd_nat, Lib.rd_nat, List.getD_eq_getElem?_getD, List.getD_eq_getElem?_getD, List.getElem?_append_left h]
theorem rd_right (l m : List Int) (i : Nat) : rd (l ++ m) ((l.length + i : Nat) : Int) = rd m (i : Int) := by
  rw [Lib.rd_nat, Lib.rd_nat, List.getD_eq_getElem?_getD, List.getD_eq_getElem?_getD, List.getElem?_append_right (by omega), Nat.add_sub_cancel_left]
theorem rd_take (l : List Int) (n i : Nat) (h : i < n) : rd (l.take n) (i : Int) = rd l (i : Int) := by
  rw [Lib.rd_nat, Lib.rd_nat, List.getD_eq_getElem?_getD, List.getD_eq_getElem?_getD, List.getElem?_take, if_pos h]
theorem rd_set (l : List Int) (i j : Nat) (v : Int) (h : i < l.length) : rd (l.set i v) (j : Int) = if j = i then v else rd l (j : Int) := by
  rw [Lib.rd_nat, Lib.rd_nat, List.getD_eq_getElem?_getD, List.getD_eq_getElem?_getD, List.getElem?_set]
  by_cases e : j = i
  · subst e; rw [if_pos rfl, if_pos rfl, if_pos h]; rfl
  · rw [if_neg (fun h => e h.symm), if_neg e]
theorem strs_bytes (s : ByteArray) : strOfNums (bytesOf s) = s := by
  apply ByteArray.ext
  apply Array.toList_inj.1
  rw [strOfNums_data, bytesOf, List.map_map]
  refine (List.map_congr_left fun x _ => ?_).trans (List.map_id _)
  simp
/-- What is read has these bytes. -/
theorem rd_back (l : List Int) (hb : Lib.Bytes l) (h : rdOk l) : segBytesV (num2 l 0) (num2 l 2) (num2 l 4) (num2 l 6) (num2 l 8) (num2 l 10) (rdStr l) = l := by
  obtain ⟨h1, h2, h3, h4, h5⟩ := h
  obtain ⟨d, hd⟩ : ∃ d, l.length = 15 + d := ⟨l.length - 15, by omega⟩
  have e2 : l.length - 2 = 13 + d := by omega
  rw [e2] at h4
  have hdr : l.drop (13 + d) = [rd l ((13 + d : Nat) : Int), rd l ((13 + d + 1 : Nat) : Int)] := by
    rw [Lib.drop_cons l (13 + d) (by omega), Lib.drop_cons l (13 + d + 1) (by omega), List.drop_eq_nil_of_le (by omega)]
  have hbody := body_of l hb d (by omega) (by omega)
  unfold segBytesV
  rw [if_pos h5]
  unfold rdStr
  rw [e2, hbody, ← h4, two_num l hb, ← hdr, List.take_append_drop]
/-- A segment's bytes are read as it. -/
theorem bytes_read (a p b q x y : Int) (s : ByteArray) (h : segOkB a p b q x y s = true) : rdOk (segBytesV a p b q x y s) ∧ segRdV (segBytesV a p b q x y s) = (a, p, b, q, x, y, s, true) ∧ rd (segBytesV a p b q x y s) 12 = (s.size : Int) := by
  have hb := segOk_bd h
  have hs := sumF_bd (segBody a p b q x y s)
  have hL : segBytesV a p b q x y s = segBody a p b q x y s ++ twoL (sumF (segBody a p b q x y s)) := by unfold segBytesV; rw [if_pos h]
  have hC : segBytesV a p b q x y s = a / 256 :: a % 256 :: p / 256 :: p % 256 :: b / 256 :: b % 256 :: q / 256 :: q % 256 :: x / 256 :: x % 256 :: y / 256 :: y % 256 :: (s.size : Int) :: (bytesOf s ++ twoL (sumF (segBody a p b q x y s))) := by
    rw [hL]; simp [segBody, segHead, twoL]
  have hlen := bytes_len a p b q x y s
  rw [if_pos h] at hlen
  have n0 : num2 (segBytesV a p b q x y s) 0 = a := by rw [hC]; show a / 256 * 256 + a % 256 = a; omega
  have n2 : num2 (segBytesV a p b q x y s) 2 = p := by rw [hC]; show p / 256 * 256 + p % 256 = p; omega
  have n4 : num2 (segBytesV a p b q x y s) 4 = b := by rw [hC]; show b / 256 * 256 + b % 256 = b; omega
  have n6 : num2 (segBytesV a p b q x y s) 6 = q := by rw [hC]; show q / 256 * 256 + q % 256 = q; omega
  have n8 : num2 (segBytesV a p b q x y s) 8 = x := by rw [hC]; show x / 256 * 256 + x % 256 = x; omega
  have n10 : num2 (segBytesV a p b q x y s) 10 = y := by rw [hC]; show y / 256 * 256 + y % 256 = y; omega
  have r12 : rd (segBytesV a p b q x y s) 12 = (s.size : Int) := by rw [hC]; rfl
  have bl := body_len a p b q x y s
  have e2 : (segBytesV a p b q x y s).length - 2 = (segBody a p b q x y s).length := by omega
  have ht : (segBytesV a p b q x y s).take ((segBytesV a p b q x y s).length - 2) = segBody a p b q x y s := by rw [e2, hL, List.take_left']; rfl
  have hstr : rdStr (segBytesV a p b q x y s) = s := by
    unfold rdStr
    rw [ht]
    have : (segBody a p b q x y s).drop 13 = bytesOf s := by unfold segBody; exact List.drop_left' (head_len a p b q x y s)
    rw [this, strs_bytes]
  have hnum : num2 (segBytesV a p b q x y s) ((segBytesV a p b q x y s).length - 2) = sumF (segBody a p b q x y s) := by
    unfold num2
    rw [e2, hL]
    have r0 := rd_right (segBody a p b q x y s) (twoL (sumF (segBody a p b q x y s))) 0
    have r1 := rd_right (segBody a p b q x y s) (twoL (sumF (segBody a p b q x y s))) 1
    rw [Nat.add_zero] at r0
    rw [r0, r1]
    show sumF (segBody a p b q x y s) / 256 * 256 + sumF (segBody a p b q x y s) % 256 = _
    omega
  have hok : rdOk (segBytesV a p b q x y s) := by
    unfold rdOk
    rw [n0, n2, n4, n6, n8, n10, hstr, ht]
    exact ⟨by omega, by omega, by omega, hnum, h⟩
  refine ⟨hok, ?_, r12⟩
  unfold segRdV
  rw [if_pos hok, n0, n2, n4, n6, n8, n10, hstr]
theorem read_longer (l : List Int) (h : rdOk l) (v : Int) : ¬ rdOk (l ++ [v]) := fun h2 => by
  have a := h2.2.2.1
  have e := rd_left l [v] 12 (by have := h.1; omega)
  rw [show ((12 : Nat) : Int) = 12 from rfl] at e
  rw [e, h.2.2.1, List.length_append] at a
  simp at a
  omega
theorem read_shorter (l : List Int) (h : rdOk l) : ¬ rdOk (l.take (l.length - 1)) := fun h2 => by
  have a := h2.2.2.1
  have h1 := h.1
  have e := rd_take l (l.length - 1) 12 (by omega)
  rw [show ((12 : Nat) : Int) = 12 from rfl] at e
  rw [e, h.2.2.1, List.length_take] at a
  omega
theorem read_bent (l : List Int) (hb : Lib.Bytes l) (h : rdOk l) (i : Nat) (hi : i < l.length) (v : Int) (v0 : 0 ≤ v) (v1 : v ≤ 255) (hv : v ≠ rd l (i : Int)) : ¬ rdOk (l.set i v) := fun h2 => by
  obtain ⟨g1, g2, g3, g4, _⟩ := h
  obtain ⟨k1, k2, k3, k4, _⟩ := h2
  rw [List.length_set] at k3 k4
  have r12 := rd_set l i 12 v hi
  rw [show ((12 : Nat) : Int) = 12 from rfl] at r12
  rw [r12] at k3
  have i12 : ¬ 12 = i := fun e => by
    rw [if_pos e] at k3
    subst e
    rw [show ((12 : Nat) : Int) = 12 from rfl] at hv
    omega
  have r0 := rd_set l i (l.length - 2) v hi
  have r1 := rd_set l i (l.length - 2 + 1) v hi
  unfold num2 at k4 g4
  rw [r0, r1] at k4
  by_cases c : i < l.length - 2
  · rw [if_neg (by omega), if_neg (by omega), g4, List.take_set] at k4
    exact sum_set (l.take (l.length - 2)) (fun x hx => hb x (List.mem_of_mem_take hx)) v v0 v1 i 1 (by rw [List.length_take]; omega) (by omega) (by omega) (by rw [← Lib.rd_nat, rd_take _ _ _ c]; exact fun e => hv e.symm) k4.symm
  · have et : (l.set i v).take (l.length - 2) = l.take (l.length - 2) := by
      rw [List.take_set, List.set_eq_of_length_le (by rw [List.length_take]; omega)]
    rw [et, ← g4] at k4
    have b0 := Lib.bytes_rd hb (l.length - 2)
    have b1 := Lib.bytes_rd hb (l.length - 2 + 1)
    by_cases e : l.length - 2 = i
    · rw [if_pos e, if_neg (by omega)] at k4
      rw [← e] at hv
      omega
    · have e' : l.length - 2 + 1 = i := by omega
      rw [if_neg e, if_pos e'] at k4
      rw [← e'] at hv
      omega
theorem rdv_no {l : List Int} (h : ¬ rdOk l) : segRdV l = (0, 0, 0, 0, 0, 0, ⟨#[]⟩, false) := by unfold segRdV; rw [if_neg h]
theorem rdv_yes {l : List Int} (h : rdOk l) : segRdV l = (num2 l 0, num2 l 2, num2 l 4, num2 l 6, num2 l 8, num2 l 10, rdStr l, true) := by unfold segRdV; rw [if_pos h]
theorem xor_u8 (b m : Int) (b0 : 0 ≤ b) (b1 : b ≤ 255) (m0 : 1 ≤ m) (m1 : m ≤ 255) : 0 ≤ Go.bits .xor .u8 b m ∧ Go.bits .xor .u8 b m ≤ 255 ∧ Go.bits .xor .u8 b m ≠ b := by
  obtain ⟨i, rfl⟩ := Int.eq_ofNat_of_zero_le b0
  obtain ⟨j, rfl⟩ := Int.eq_ofNat_of_zero_le (show 0 ≤ m by omega)
  have hi : i % 2 ^ 8 = i := Nat.mod_eq_of_lt (by omega)
  have hj : j % 2 ^ 8 = j := Nat.mod_eq_of_lt (by omega)
  have hx : i ^^^ j < 2 ^ 8 := Nat.xor_lt_two_pow (by omega) (by omega)
  have hn : i ^^^ j ≠ i := fun h => by
    have h2 : i ^^^ (i ^^^ j) = j := by rw [← Nat.xor_assoc, Nat.xor_self, Nat.zero_xor]
    rw [h, Nat.xor_self] at h2
    omega
  have e : Go.bits .xor .u8 (i : Int) (j : Int) = IntKind.u8.wrap ((i ^^^ j : Nat) : Int) := by
    have hb : (BitVec.ofNat 8 i ^^^ BitVec.ofNat 8 j).toNat = i ^^^ j := by rw [BitVec.toNat_xor, BitVec.toNat_ofNat, BitVec.toNat_ofNat, hi, hj]
    simp only [bits, IntKind.bits, BitVec.ofInt_natCast]
    exact congrArg (fun z : Nat => IntKind.u8.wrap (z : Int)) hb
  have e2 : IntKind.u8.wrap ((i ^^^ j : Nat) : Int) = ((i ^^^ j : Nat) : Int) := by
    rw [IntKind.wrap_u8]; omega
  rw [e, e2]
  omega
theorem bytes_app {l m : List Int} (h1 : Lib.Bytes l) (h2 : Lib.Bytes m) : Lib.Bytes (l ++ m) := fun x hx => by
  rcases List.mem_append.1 hx with h | h
  · exact h1 x h
  · exact h2 x h
theorem bytes_one {v : Int} (h0 : 0 ≤ v) (h1 : v ≤ 255) : Lib.Bytes [v] := fun x hx => by
  rw [List.mem_singleton.1 hx]; exact ⟨h0, by omega⟩
theorem bytes_set {l : List Int} (h1 : Lib.Bytes l) (i : Nat) {v : Int} (h0 : 0 ≤ v) (h2 : v ≤ 255) : Lib.Bytes (l.set i v) := fun x hx => by
  rcases List.mem_or_eq_of_mem_set hx with h | rfl
  · exact h1 x h
  · exact ⟨h0, by omega⟩
theorem turn_ev (b : List Int) (hb : Lib.Bytes b) (hl : b.length ≤ 2000) (p : Int) (h0 : 0 ≤ p) (h1 : p ≤ 900000) (m : List Int) (hm : Lib.Bytes m) (hz : m.length ≤ 1000) :
    ∃ m' p', Ev (fun k => spec_l20Turn.f k b p m) (m', p') ∧ Lib.Bytes m' ∧ m'.length ≤ m.length + 1 ∧ p < p' ∧ p' ≤ p + 3 := by
  by_cases c : (m.length : Int) = 0
  · obtain ⟨v, ⟨K1, e1⟩, a1, b1⟩ := pick_ev b hb hl p 256 h0 (by omega) (by omega)
    dsimp only at e1
    refine ⟨[v % 256], p + 1, ⟨K1, fun k hk => ?_⟩, bytes_one (by omega) (by omega), by simp, by omega, by omega⟩
    dsimp only
    unfold spec_l20Turn.f
    rw [if_pos c, e1 k hk]; rfl
  · obtain ⟨v, ⟨K1, e1⟩, a1, b1⟩ := pick_ev b hb hl p (m.length : Int) h0 (by omega) (by omega)
    obtain ⟨u, ⟨K2, e2⟩, a2, b2⟩ := pick_ev b hb hl (p + 1) 3 (by omega) (by omega) (by omega)
    dsimp only at e1 e2
    obtain ⟨i, rfl⟩ := Int.eq_ofNat_of_zero_le a1
    have w1 : wrap64 ((i : Int) + 1) = ((i + 1 : Nat) : Int) := by rw [Lib.wrap_id (by omega) (by omega)]; rfl
    have lt : (m.take i).length = i := by rw [List.length_take]; omega
    by_cases c0 : u = 0
    · refine ⟨m.take i ++ m.drop (i + 1), p + 1 + 1, ⟨K1 + K2, fun k hk => ?_⟩, bytes_app (fun x hx => hm x (List.mem_of_mem_take hx)) (fun x hx => hm x (List.mem_of_mem_drop hx)), by simp; omega, by omega, by omega⟩
      dsimp only
      unfold spec_l20Turn.f
      rw [if_neg c, e1 k (by omega)]; simp only [Option.bind_some]
      rw [e2 k (by omega)]; simp only [Option.bind_some]
      rw [if_pos c0, if_pos (by omega), if_pos (by omega), Int.toNat_natCast, if_pos (by rw [lt]; simp; omega), w1, if_pos (by omega), if_pos (by omega), Int.toNat_natCast, if_pos (by simp; omega)]
      rfl
    · by_cases c1 : u = 1
      · obtain ⟨v9, ⟨K3, e3⟩, a3, b3⟩ := pick_ev b hb hl (p + 1 + 1) 9 (by omega) (by omega) (by omega)
        dsimp only at e3
        refine ⟨m.take i ++ [v9 % 256] ++ m.drop i, p + 1 + 1 + 1, ⟨K1 + K2 + K3, fun k hk => ?_⟩, bytes_app (bytes_app (fun x hx => hm x (List.mem_of_mem_take hx)) (bytes_one (by omega) (by omega))) (fun x hx => hm x (List.mem_of_mem_drop hx)), by simp; omega, by omega, by omega⟩
        dsimp only
        unfold spec_l20Turn.f
        rw [if_neg c, e1 k (by omega)]; simp only [Option.bind_some]
        rw [e2 k (by omega)]; simp only [Option.bind_some]
        rw [if_neg c0, if_pos c1, if_pos (by omega), if_pos (by omega), Int.toNat_natCast, if_pos (by rw [lt]; simp; omega), e3 k (by omega)]; simp only [Option.bind_some]
        rw [if_pos (by simp; omega), if_pos (by simp; omega)]
        rfl
      · obtain ⟨v9, ⟨K3, e3⟩, a3, b3⟩ := pick_ev b hb hl (p + 1 + 1) 255 (by omega) (by omega) (by omega)
        dsimp only at e3
        have hr := Lib.bytes_rd hm i
        have w2 : wrap64 (1 + v9) % 256 = 1 + v9 := by rw [Lib.wrap_id (by omega) (by omega)]; omega
        have hx := xor_u8 (rd m (i : Int)) (1 + v9) (by omega) (by omega) (by omega) (by omega)
        refine ⟨m.set i (Go.bits .xor .u8 (rd m (i : Int)) (1 + v9)), p + 1 + 1 + 1, ⟨K1 + K2 + K3, fun k hk => ?_⟩, bytes_set hm i hx.1 hx.2.1, by simp, by omega, by omega⟩
        dsimp only
        unfold spec_l20Turn.f
        rw [if_neg c, e1 k (by omega)]; simp only [Option.bind_some]
        rw [e2 k (by omega)]; simp only [Option.bind_some]
        rw [if_neg c0, if_neg c1, if_pos (by simp; omega), List.nil_append, if_pos (by omega), if_pos (by omega), e3 k (by omega)]; simp only [Option.bind_some]
        rw [w2, Int.toNat_natCast]
theorem drawsegread_ev (l : List Int) (hb : Lib.Bytes l) (hl : l.length ≤ 9223372036854775807) : ∃ m, Ev (fun k => spec_DrawSegRead.f k l) m ∧ Lib.Bytes m ∧ m.length ≤ 40 := by
  obtain ⟨b, h0, hb, hl⟩ := open_eq l hb hl
  obtain ⟨a1, q1, a2, q2, x, y, s, p2, ⟨K2, e2⟩, hs, g3, g4, _⟩ := seg_ev b hb hl 0 99999 (by omega) (by omega) (by omega) (by omega)
  obtain ⟨K1, e1⟩ := spec_bytes_ev a1 q1 a2 q2 x y s
  obtain ⟨u, ⟨K3, e3⟩, a3, b3⟩ := pick_ev b hb hl p2 4 (by omega) (by omega) (by omega)
  obtain ⟨B, hB⟩ : ∃ B, B = segBytesV a1 q1 a2 q2 x y s := ⟨_, rfl⟩
  have lB : B.length ≤ 28 := by rw [hB, bytes_len]; split <;> omega
  have bB : Lib.Bytes B := by
    rw [hB]; unfold segBytesV
    split
    · rename_i h
      have := sumF_bd (segBody a1 q1 a2 q2 x y s)
      exact bytes_app (body_bytes h) (two_bytes _ (by omega) (by omega))
    · exact fun x hx => by cases hx
  obtain ⟨m, p3, ⟨K4, e4⟩, bm, lm, g5, g6⟩ := turn_ev b hb hl (p2 + 1) (by omega) (by omega) B bB (by omega)
  dsimp only at e1 e2 e3 e4
  rw [← hB] at e1
  by_cases c0 : u = 0
  · refine ⟨m, ⟨K1 + K2 + K3 + K4, fun k hk => ?_⟩, bm, by omega⟩
    dsimp only
    unfold spec_DrawSegRead.f
    rw [h0]; simp only [Option.bind_some]
    rw [e2 k (by omega)]; simp only [Option.bind_some]
    rw [e1 k (by omega)]; simp only [Option.bind_some]
    rw [e3 k (by omega)]; simp only [Option.bind_some]
    rw [if_pos c0, e4 k (by omega)]; rfl
  · by_cases c1 : u = 1
    · by_cases c2 : (m.length : Int) > 2
      · have w1 : wrap64 ((m.length : Int) - 2) = ((m.length - 2 : Nat) : Int) := by rw [Lib.wrap_id (by omega) (by omega)]; omega
        have lt : (m.take (m.length - 2)).length = m.length - 2 := by rw [List.length_take]; omega
        have bt : Lib.Bytes (m.take (m.length - 2)) := fun x hx => bm x (List.mem_of_mem_take hx)
        obtain ⟨K5, e5⟩ := spec_sum_ev (m.take (m.length - 2)) (by omega) bt
        have hsm := sumF_bd (m.take (m.length - 2))
        dsimp only at e5
        refine ⟨m.take (m.length - 2) ++ twoL (sumF (m.take (m.length - 2))), ⟨K1 + K2 + K3 + K4 + K5, fun k hk => ?_⟩, bytes_app bt (two_bytes _ hsm.1 (by omega)), by rw [List.length_append, lt]; show m.length - 2 + 2 ≤ 40; omega⟩
        dsimp only
        unfold spec_DrawSegRead.f
        rw [h0]; simp only [Option.bind_some]
        rw [e2 k (by omega)]; simp only [Option.bind_some]
        rw [e1 k (by omega)]; simp only [Option.bind_some]
        rw [e3 k (by omega)]; simp only [Option.bind_some]
        rw [if_neg c0, if_pos c1, e4 k (by omega)]; simp only [Option.bind_some]
        rw [if_pos c2, w1, if_pos (by omega), if_pos (by omega), Int.toNat_natCast, e5 k (by omega)]; simp only [Option.bind_some]
        rw [put_eq _ _ (by omega) hsm.1 (by omega)]; rfl
      · refine ⟨m, ⟨K1 + K2 + K3 + K4, fun k hk => ?_⟩, bm, by omega⟩
        dsimp only
        unfold spec_DrawSegRead.f
        rw [h0]; simp only [Option.bind_some]
        rw [e2 k (by omega)]; simp only [Option.bind_some]
        rw [e1 k (by omega)]; simp only [Option.bind_some]
        rw [e3 k (by omega)]; simp only [Option.bind_some]
        rw [if_neg c0, if_pos c1, e4 k (by omega)]; simp only [Option.bind_some]
        rw [if_neg c2]
    · refine ⟨B, ⟨K1 + K2 + K3, fun k hk => ?_⟩, bB, by omega⟩
      dsimp only
      unfold spec_DrawSegRead.f
      rw [h0]; simp only [Option.bind_some]
      rw [e2 k (by omega)]; simp only [Option.bind_some]
      rw [e1 k (by omega)]; simp only [Option.bind_some]
      rw [e3 k (by omega)]; simp only [Option.bind_some]
      rw [if_neg c0, if_neg c1]
theorem drawsegsum_ev (l : List Int) (hb : Lib.Bytes l) (hl : l.length ≤ 9223372036854775807) : ∃ m, Ev (fun k => spec_DrawSegSum.f k l) m ∧ Lib.Bytes m ∧ m.length ≤ 40 := by
  obtain ⟨m, ⟨K, e⟩, h1, h2⟩ := drawsegread_ev l hb hl
  dsimp only at e
  refine ⟨m, ⟨K, fun k hk => ?_⟩, h1, h2⟩
  dsimp only
  unfold spec_DrawSegSum.f
  rw [e k hk]; rfl
def insB (a p : Int) : Bool := decide ((1 ≤ a ∧ a ≤ 9) ∧ 1 ≤ p ∧ p ≤ 999)
theorem spec_ins (a p : Int) : spec_EndInside.f a p = some (insB a p) := by
  simp only [spec_EndInside.f, spec_l1In.f, insB]
  by_cases h1 : a ≥ 1 <;> by_cases h2 : a ≤ 9 <;> by_cases h3 : p ≥ 1 <;> by_cases h4 : p ≤ 999 <;> simp [h1, h2, h3, h4] <;> omega
end Go.Proofs.YtdfoelhpeeanlaaDoor.QFnSegBytes
