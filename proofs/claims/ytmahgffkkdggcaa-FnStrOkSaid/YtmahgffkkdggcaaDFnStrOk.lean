/- What the reference's draws and functions that this law reaches come to: plain lemmas on the printed functions. -/
import Derived.Test.YtmahgffkkdggcaaQFnStrOkx4
import Derived.Test.YtmahgffkkdggcaaLib
import Derived.Laws.BitsLemmas
set_option linter.unusedVariables false
set_option linter.unusedSimpArgs false
namespace Go.Proofs.Ytmahgffkkdggcaa.QFnStrOk
open Go.RowKit Go.Proofs.YtmahgffkkdggcaaW.PrintWords Go.Proofs.YtmahgffkkdggcaaW.PrintLast Go.Proofs.YtmahgffkkdggcaaW.PrintMore
open Go.Proofs.Ytmahgffkkdggcaa
theorem xor_nonneg (a b : Int) (h0 : 0 ≤ a) (h1 : a < 4611686018427387904) (h2 : 0 ≤ b) (h3 : b < 4611686018427387904) : 0 ≤ Go.bits .xor .i64 a b := by
  obtain ⟨m, rfl⟩ := Int.eq_ofNat_of_zero_le h0
  obtain ⟨n, rfl⟩ := Int.eq_ofNat_of_zero_le h2
  have hm : m % 2 ^ 64 = m := Nat.mod_eq_of_lt (by omega)
  have hn : n % 2 ^ 64 = n := Nat.mod_eq_of_lt (by omega)
  have hx : m ^^^ n < 2 ^ 62 := Nat.xor_lt_two_pow (by omega) (by omega)
  have e : Go.bits .xor .i64 (m : Int) (n : Int) = IntKind.i64.wrap ((m ^^^ n : Nat) : Int) := by
    have hb : (BitVec.ofNat 64 m ^^^ BitVec.ofNat 64 n).toNat = m ^^^ n := by rw [BitVec.toNat_xor, BitVec.toNat_ofNat, BitVec.toNat_ofNat, hm, hn]
    simp only [bits, IntKind.bits, BitVec.ofInt_natCast]
    exact congrArg (fun z : Nat => IntKind.i64.wrap (z : Int)) hb
  rw [e, IntKind.wrap_i64]
  omega
theorem pick_ev (b : List Int) (hb : Lib.Bytes b) (hl : b.length ≤ 2000) (p n : Int) (h0 : 0 ≤ p) (h1 : p ≤ 1000000) (hn : 1 ≤ n) :
    ∃ v, Ev (fun k => spec_l20Rd_pick.f k b p n) (v, p + 1) ∧ 0 ≤ v ∧ v < n := by
  have go : ∀ v, spec_l20Rd_pick.f 1 b p n = some (v, p + 1) → 0 ≤ v → v < n → ∃ v, Ev (fun k => spec_l20Rd_pick.f k b p n) (v, p + 1) ∧ 0 ≤ v ∧ v < n :=
    fun v h a c => ⟨v, Ev.of (spec_l20Rd_pick.mono b p n) h, a, c⟩
  have e1 : wrap64 (p + 1) = p + 1 := Lib.wrap_id (by omega) (by omega)
  have e2 : wrap64 (p + 1 - 1) = p := by rw [Lib.wrap_id (by omega) (by omega)]; omega
  by_cases hz : b.length = 0
  · refine go 0 ?_ (by omega) (by omega)
    unfold spec_l20Rd_pick.f
    rw [if_neg (by omega), spec_l20Rd_pick.j0, if_pos (by simp [hz]), e1]
  · have e3 : ((b.length : Int) == 0) = false := by rw [beq_eq_false_iff_ne]; omega
    by_cases hp : p < (b.length : Int)
    · obtain ⟨i, rfl⟩ := Int.eq_ofNat_of_zero_le h0
      have hr := Lib.bytes_rd hb i
      refine go (rd b (i : Int) % n) ?_ (Int.emod_nonneg _ (by omega)) (Int.emod_lt_of_pos _ (by omega))
      unfold spec_l20Rd_pick.f
      rw [if_neg (by omega), spec_l20Rd_pick.j0, if_neg (by rw [e3]; decide), e1, e2, if_pos hp, if_pos (by omega), if_neg (by omega), Lib.wrap_id (x := rd b (i : Int)) (by omega) (by omega), Int.tmod_eq_emod_of_nonneg (by omega)]
    · have hL : (0 : Int) < (b.length : Int) := by omega
      have q1 : Int.tmod p (b.length : Int) = p % (b.length : Int) := Int.tmod_eq_emod_of_nonneg (by omega)
      have w1 : wrap64 (p * 7) = p * 7 := Lib.wrap_id (by omega) (by omega)
      have w2 : wrap64 (p * 7 + 3) = p * 7 + 3 := Lib.wrap_id (by omega) (by omega)
      have q2 : Int.tmod (p * 7 + 3) (b.length : Int) = (p * 7 + 3) % (b.length : Int) := Int.tmod_eq_emod_of_nonneg (by omega)
      have m1 := Int.emod_nonneg p (show (b.length : Int) ≠ 0 by omega)
      have m2 := Int.emod_lt_of_pos p hL
      have m3 := Int.emod_nonneg (p * 7 + 3) (show (b.length : Int) ≠ 0 by omega)
      have m4 := Int.emod_lt_of_pos (p * 7 + 3) hL
      obtain ⟨i, hi⟩ := Int.eq_ofNat_of_zero_le m1
      obtain ⟨j, hj⟩ := Int.eq_ofNat_of_zero_le m3
      have r1 := Lib.bytes_rd hb i
      have r2 := Lib.bytes_rd hb j
      rw [← hi] at r1
      rw [← hj] at r2
      have d1 : Int.tdiv p (b.length : Int) = p / (b.length : Int) := Int.tdiv_eq_ediv_of_nonneg h0
      have d2 : 0 ≤ p / (b.length : Int) := Int.ediv_nonneg h0 (by omega)
      have d3 : p / (b.length : Int) ≤ p := Int.ediv_le_self _ h0
      obtain ⟨u, hu⟩ : ∃ u, u = rd b (p % (b.length : Int)) := ⟨_, rfl⟩
      obtain ⟨v, hv⟩ : ∃ v, v = rd b ((p * 7 + 3) % (b.length : Int)) := ⟨_, rfl⟩
      obtain ⟨q, hq⟩ : ∃ q, q = p / (b.length : Int) := ⟨_, rfl⟩
      rw [← hu] at r1
      rw [← hv] at r2
      rw [← hq] at d2 d3
      have x0 : wrap64 (wrap64 (wrap64 (wrap64 (wrap64 u * 131) + wrap64 (wrap64 v * 1117)) + wrap64 (p * 29)) + wrap64 (wrap64 q * 53)) = u * 131 + v * 1117 + p * 29 + q * 53 := by
        rw [Lib.wrap_id (x := u) (by omega) (by omega), Lib.wrap_id (x := v) (by omega) (by omega), Lib.wrap_id (x := q) (by omega) (by omega), Lib.wrap_id (x := u * 131) (by omega) (by omega), Lib.wrap_id (x := v * 1117) (by omega) (by omega),
          Lib.wrap_id (x := p * 29) (by omega) (by omega), Lib.wrap_id (x := q * 53) (by omega) (by omega), Lib.wrap_id (x := u * 131 + v * 1117) (by omega) (by omega), Lib.wrap_id (x := u * 131 + v * 1117 + p * 29) (by omega) (by omega), Lib.wrap_id (by omega) (by omega)]
      obtain ⟨X, hX⟩ : ∃ X, X = u * 131 + v * 1117 + p * 29 + q * 53 := ⟨_, rfl⟩
      have X0 : 0 ≤ X := by omega
      have X1 : X < 4611686018427387904 := by omega
      have x1 : wrap64 (Int.tdiv X 64) = X / 64 := by rw [Int.tdiv_eq_ediv_of_nonneg X0, Lib.wrap_id (by omega) (by omega)]
      have hx := xor_nonneg X (X / 64) X0 X1 (by omega) (by omega)
      refine go (Go.bits .xor .i64 X (X / 64) % n) ?_ (Int.emod_nonneg _ (by omega)) (Int.emod_lt_of_pos _ (by omega))
      unfold spec_l20Rd_pick.f
      rw [if_neg (by omega), spec_l20Rd_pick.j0, if_neg (by rw [e3]; decide), e1, e2, if_neg hp, if_neg (by omega), w1, w2, q1, q2, if_pos m1, if_pos m2, if_pos m3, if_pos m4, if_neg (by omega), d1, ← hu, ← hv, ← hq, x0, ← hX, x1, Int.tmod_eq_emod_of_nonneg hx]
theorem open_eq (l : List Int) (hb : Lib.Bytes l) (hl : l.length ≤ 9223372036854775807) : ∃ b, spec_l20Open.f l = some (b, 0) ∧ Lib.Bytes b ∧ b.length ≤ 2000 := by
  unfold spec_l20Open.f
  by_cases c : (l.length : Int) > 2000
  · exact ⟨l.take 2000, by rw [if_pos c, if_pos (by omega)], fun x hx => hb x (List.mem_of_mem_take hx), by simp; omega⟩
  · exact ⟨l, by rw [if_neg c], hb, by omega⟩
theorem in_ev (b : List Int) (hb : Lib.Bytes b) (hl : b.length ≤ 2000) (p : Int) (h0 : 0 ≤ p) (h1 : p ≤ 999000) :
    ∃ a q, Ev (fun k => spec_l20In.f k b p) (a, q, p + 3) ∧ 1 ≤ a ∧ a ≤ 4 ∧ 1 ≤ q ∧ q ≤ 999 := by
  obtain ⟨v1, ⟨K1, e1⟩, a1, b1⟩ := pick_ev b hb hl p 4 h0 (by omega) (by omega)
  obtain ⟨v2, ⟨K2, e2⟩, a2, b2⟩ := pick_ev b hb hl (p + 1) 40 (by omega) (by omega) (by omega)
  obtain ⟨v3, ⟨K3, e3⟩, a3, b3⟩ := pick_ev b hb hl (p + 1 + 1) 5 (by omega) (by omega) (by omega)
  have hr : 1 ≤ rd [7, 20, 300, 999, wrap64 (1 + v2)] v3 ∧ rd [7, 20, 300, 999, wrap64 (1 + v2)] v3 ≤ 999 := by
    rw [Lib.wrap_id (x := 1 + v2) (by omega) (by omega)]
    rcases (by omega : v3 = 0 ∨ v3 = 1 ∨ v3 = 2 ∨ v3 = 3 ∨ v3 = 4) with rfl | rfl | rfl | rfl | rfl <;> simp [rd] <;> omega
  refine ⟨1 + v1, rd [7, 20, 300, 999, wrap64 (1 + v2)] v3, ⟨K1 + K2 + K3, fun k hk => ?_⟩, by omega, by omega, hr.1, hr.2⟩
  dsimp only at e1 e2 e3 ⊢
  unfold spec_l20In.f
  rw [e1 k (by omega)]; simp only [Option.bind_some]
  rw [e2 k (by omega)]; simp only [Option.bind_some]
  rw [e3 k (by omega)]; simp only [Option.bind_some]
  rw [if_pos a3, if_pos (by simpa using b3), Lib.wrap_id (x := 1 + v1) (by omega) (by omega), show p + 1 + 1 + 1 = p + 3 by omega]
def dig (d : Int) : UInt8 := UInt8.ofNat (48 + d).toNat
/-- The digits of a number of at most three. -/
def dec3 (n : Int) : ByteArray := if n > 99 then ⟨#[dig (n / 100), dig (n / 10 % 10), dig (n % 10)]⟩ else if n > 9 then ⟨#[dig (n / 10), dig (n % 10)]⟩ else ⟨#[dig n]⟩
theorem dec3_size (n : Int) : 1 ≤ (dec3 n).size ∧ (dec3 n).size ≤ 3 := by
  unfold dec3
  split
  · exact ⟨by show 1 ≤ 3; omega, by show 3 ≤ 3; omega⟩
  · split
    · exact ⟨by show 1 ≤ 2; omega, by show 2 ≤ 3; omega⟩
    · exact ⟨by show 1 ≤ 1; omega, by show 1 ≤ 3; omega⟩
theorem nums1 (x : Int) (h0 : 0 ≤ x) (h1 : x ≤ 9) : strOfNums [wrap64 (48 + x) % 256] = ⟨#[dig x]⟩ := by
  rw [Lib.wrap_id (by omega) (by omega), show (48 + x) % 256 = 48 + x by omega]; rfl
theorem plain_last (k : Nat) (n : Int) (t : ByteArray) (h0 : 0 ≤ n) (h1 : n ≤ 9) (ht : t.size ≤ 1000000) : spec_l1Plain.l0 (k + 1) n t = some ((⟨#[dig n]⟩ : ByteArray) ++ t) := by
  rw [spec_l1Plain.l0, if_neg (by omega)]
  simp only [Option.bind_some]
  rw [nums1 n h0 h1, if_pos (by show 1 + t.size ≤ _; omega)]
theorem plain_step (k : Nat) (n : Int) (t : ByteArray) (h0 : 9 < n) (h1 : n ≤ 1000000) (ht : t.size ≤ 1000000) : spec_l1Plain.l0 (k + 1) n t = spec_l1Plain.l0 k (n / 10) ((⟨#[dig (n % 10)]⟩ : ByteArray) ++ t) := by
  rw [spec_l1Plain.l0, if_pos (by omega)]
  simp only [Option.bind_some]
  have e : Int.tmod n 10 = n % 10 := Int.tmod_eq_emod_of_nonneg (by omega)
  have e2 : Int.tdiv n 10 = n / 10 := Int.tdiv_eq_ediv_of_nonneg (by omega)
  rw [e, e2, nums1 (n % 10) (by omega) (by omega), if_pos (by show 1 + t.size ≤ _; omega), Lib.wrap_id (by omega) (by omega)]
theorem app1 (a : UInt8) (l : List UInt8) : (⟨#[a]⟩ : ByteArray) ++ (⟨l.toArray⟩ : ByteArray) = ⟨(a :: l).toArray⟩ := by
  apply ByteArray.ext
  simp [ByteArray.data_append]
theorem plain_ev (n : Int) (h0 : 0 ≤ n) (h1 : n ≤ 999) : Ev (fun k => spec_l1Plain.f k n) (dec3 n) := by
  refine Ev.of (k := 3) (spec_l1Plain.mono n) ?_
  have z : (⟨#[]⟩ : ByteArray) = ⟨([] : List UInt8).toArray⟩ := rfl
  show spec_l1Plain.f 3 n = some (dec3 n)
  unfold spec_l1Plain.f dec3
  by_cases c : n > 99
  · rw [if_pos c, plain_step 2 n _ (by omega) (by omega) (by show 0 ≤ 1000000; omega), plain_step 1 (n / 10) _ (by omega) (by omega) (by show 1 ≤ 1000000; omega), plain_last 0 (n / 10 / 10) _ (by omega) (by omega) (by show 2 ≤ 1000000; omega), z, app1, app1, app1, show n / 10 / 10 = n / 100 by omega]
  · rw [if_neg c]
    by_cases c2 : n > 9
    · rw [if_pos c2, plain_step 2 n _ (by omega) (by omega) (by show 0 ≤ 1000000; omega), plain_last 1 (n / 10) _ (by omega) (by omega) (by show 1 ≤ 1000000; omega), z, app1, app1]
    · rw [if_neg c2, plain_last 2 n _ (by omega) (by omega) (by show 0 ≤ 1000000; omega), z, app1]
def endOkP (a p : Int) : Prop := ((1 ≤ a ∧ a ≤ 9) ∨ (100 ≤ a ∧ a ≤ 109) ∨ a = 50) ∧ 1 ≤ p ∧ p ≤ 999
instance (a p : Int) : Decidable (endOkP a p) := by unfold endOkP; infer_instance
theorem spec_end (a p : Int) : spec_EndOk.f a p = some (decide (endOkP a p)) := by
  simp only [spec_EndOk.f, spec_EndInside.f, spec_EndOutside.f, spec_l1In.f, endOkP]
  by_cases h1 : a ≥ 1 <;> by_cases h2 : a ≤ 9 <;> by_cases h3 : p ≥ 1 <;> by_cases h4 : p ≤ 999 <;> by_cases h5 : a ≥ 100 <;> by_cases h6 : a ≤ 109 <;> by_cases h7 : a = 50 <;> simp [h1, h2, h3, h4, h5, h6, h7] <;> omega
def endT (a p : Int) : ByteArray := dec3 a ++ (⟨#[32]⟩ : ByteArray) ++ dec3 p
theorem endT_size (a p : Int) : 3 ≤ (endT a p).size ∧ (endT a p).size ≤ 7 := by
  have h1 := dec3_size a
  have h2 := dec3_size p
  have h3 : (⟨#[32]⟩ : ByteArray).size = 1 := rfl
  unfold endT
  rw [ByteArray.size_append, ByteArray.size_append]
  omega
theorem endtext_ev (a p : Int) (h : endOkP a p) : Ev (fun k => spec_EndText.f k a p) (endT a p) := by
  obtain ⟨K1, e1⟩ := plain_ev a (by unfold endOkP at h; omega) (by unfold endOkP at h; omega)
  obtain ⟨K2, e2⟩ := plain_ev p (by unfold endOkP at h; omega) (by unfold endOkP at h; omega)
  have h1 := dec3_size a
  have h2 := dec3_size p
  refine ⟨K1 + K2, fun k hk => ?_⟩
  dsimp only at e1 e2 ⊢
  unfold spec_EndText.f
  rw [spec_end]; simp only [Option.bind_some, decide_eq_true_eq]
  rw [if_pos h, e1 k (by omega)]; simp only [Option.bind_some]
  rw [if_pos (by omega), e2 k (by omega)]; simp only [Option.bind_some]
  rw [if_pos (by rw [ByteArray.size_append]; show (dec3 a).size + 1 + _ ≤ _; omega)]
  rfl
theorem endtext_no (a p : Int) (h : ¬ endOkP a p) (k : Nat) : spec_EndText.f k a p = some ⟨#[]⟩ := by
  unfold spec_EndText.f
  rw [spec_end]; simp only [Option.bind_some, decide_eq_true_eq]
  rw [if_neg h]
def portT (a p : Int) : ByteArray := (⟨#[112, 111, 114, 116, 32]⟩ : ByteArray) ++ endT a p
theorem portT_size (a p : Int) : 8 ≤ (portT a p).size ∧ (portT a p).size ≤ 12 := by
  have h1 := endT_size a p
  have h3 : (⟨#[112, 111, 114, 116, 32]⟩ : ByteArray).size = 5 := rfl
  unfold portT
  rw [ByteArray.size_append]
  omega
theorem linport_ev (a p : Int) (h : endOkP a p) : Ev (fun k => spec_LinPort.f k a p) (portT a p) := by
  obtain ⟨K1, e1⟩ := endtext_ev a p h
  have h1 := endT_size a p
  refine ⟨K1, fun k hk => ?_⟩
  dsimp only at e1 ⊢
  unfold spec_LinPort.f
  rw [spec_end]; simp only [Option.bind_some, decide_eq_true_eq]
  rw [if_pos h, e1 k (by omega)]; simp only [Option.bind_some]
  rw [if_pos (by omega)]
  rfl
theorem linport_no (a p : Int) (h : ¬ endOkP a p) (k : Nat) : spec_LinPort.f k a p = some ⟨#[]⟩ := by
  unfold spec_LinPort.f
  rw [spec_end]; simp only [Option.bind_some, decide_eq_true_eq]
  rw [if_neg h]
def lines1 : List ByteArray := [(⟨#[]⟩ : ByteArray), (⟨#[108, 105, 115, 116]⟩ : ByteArray), (⟨#[117, 115, 101, 114, 32, 97]⟩ : ByteArray), (⟨#[112, 111, 114, 116, 32, 53, 48, 32, 53, 48, 48]⟩ : ByteArray), (⟨#[112, 111, 114, 116, 32, 49, 48, 48, 32, 57]⟩ : ByteArray), (⟨#[112, 111, 114, 116, 32, 48, 49, 32, 50]⟩ : ByteArray), (⟨#[112, 111, 114, 116, 32, 49]⟩ : ByteArray), (⟨#[97, 98, 99, 100, 101, 102, 103, 104, 105, 106, 32, 107, 108, 109, 110, 111]⟩ : ByteArray), (⟨#[112, 111, 114, 116]⟩ : ByteArray), (⟨#[112, 111, 114, 116, 32, 49, 32, 50, 32, 51]⟩ : ByteArray)]
def lines2 : List ByteArray := [(⟨#[97]⟩ : ByteArray), (⟨#[98, 98]⟩ : ByteArray), (⟨#[103, 101, 116, 32, 102, 105, 108, 101, 49]⟩ : ByteArray), (⟨#[113, 117, 105, 116]⟩ : ByteArray)]
/-- A drawn line: it is short; and, where it is asked, what its bytes are. -/
theorem line_ev (b : List Int) (hb : Lib.Bytes b) (hl : b.length ≤ 2000) (p : Int) (h0 : 0 ≤ p) (h1 : p ≤ 990000) :
    ∃ t p', Ev (fun k => spec_l20Line.f k b p) (t, p') ∧ t.size ≤ 16 ∧ p < p' ∧ p' ≤ p + 4 := by
  obtain ⟨v1, ⟨K1, e1⟩, a1, b1⟩ := pick_ev b hb hl p 3 h0 (by omega) (by omega)
  dsimp only at e1
  by_cases c1 : v1 = 0
  · obtain ⟨a, q, ⟨K2, e2⟩, g1, g2, g3, g4⟩ := in_ev b hb hl (p + 1) (by omega) (by omega)
    obtain ⟨K3, e3⟩ := linport_ev a q (by unfold endOkP; omega)
    dsimp only at e2 e3
    refine ⟨portT a q, p + 1 + 3, ⟨K1 + K2 + K3, fun k hk => ?_⟩, by have := portT_size a q; omega, by omega, by omega⟩
    dsimp only
    unfold spec_l20Line.f
    rw [e1 k (by omega)]; simp only [Option.bind_some]
    rw [if_pos c1, e2 k (by omega)]; simp only [Option.bind_some]
    rw [e3 k (by omega)]; rfl
  · by_cases c2 : v1 = 1
    · obtain ⟨v2, ⟨K2, e2⟩, a2, b2⟩ := pick_ev b hb hl (p + 1) 10 (by omega) (by omega) (by omega)
      dsimp only at e2
      refine ⟨rdOf ByteArray.empty lines1 v2, p + 1 + 1, ⟨K1 + K2, fun k hk => ?_⟩, ?_, by omega, by omega⟩
      · dsimp only
        unfold spec_l20Line.f
        rw [e1 k (by omega)]; simp only [Option.bind_some]
        rw [if_neg c1, if_pos c2, e2 k (by omega)]; simp only [Option.bind_some]
        rw [if_pos a2, if_pos (by simpa using b2)]; rfl
      · rcases (by omega : v2 = 0 ∨ v2 = 1 ∨ v2 = 2 ∨ v2 = 3 ∨ v2 = 4 ∨ v2 = 5 ∨ v2 = 6 ∨ v2 = 7 ∨ v2 = 8 ∨ v2 = 9) with rfl | rfl | rfl | rfl | rfl | rfl | rfl | rfl | rfl | rfl <;> decide
    · obtain ⟨v2, ⟨K2, e2⟩, a2, b2⟩ := pick_ev b hb hl (p + 1) 4 (by omega) (by omega) (by omega)
      dsimp only at e2
      refine ⟨rdOf ByteArray.empty lines2 v2, p + 1 + 1, ⟨K1 + K2, fun k hk => ?_⟩, ?_, by omega, by omega⟩
      · dsimp only
        unfold spec_l20Line.f
        rw [e1 k (by omega)]; simp only [Option.bind_some]
        rw [if_neg c1, if_neg c2, e2 k (by omega)]; simp only [Option.bind_some]
        rw [if_pos a2, if_pos (by simpa using b2)]; rfl
      · rcases (by omega : v2 = 0 ∨ v2 = 1 ∨ v2 = 2 ∨ v2 = 3) with rfl | rfl | rfl | rfl <;> decide
theorem ext_size (s : ByteArray) (i j : Nat) : (s.extract i j).size = min j s.size - i := by rw [ByteArray.size_extract]
theorem nums_size1 (x : Int) : (strOfNums [x]).size = 1 := rfl
theorem bent_ev (b : List Int) (hb : Lib.Bytes b) (hl : b.length ≤ 2000) (p : Int) (h0 : 0 ≤ p) (h1 : p ≤ 990000) (s : ByteArray) (hs : s.size ≤ 1000000) :
    ∃ t, Ev (fun k => spec_l20Bent.f k b p s) (t, p + 4) ∧ t.size ≤ s.size + 1 := by
  obtain ⟨v1, ⟨K1, e1⟩, a1, b1⟩ := pick_ev b hb hl p ((s.size : Int) + 1) h0 (by omega) (by omega)
  obtain ⟨v2, ⟨K2, e2⟩, a2, b2⟩ := pick_ev b hb hl (p + 1) 256 (by omega) (by omega) (by omega)
  obtain ⟨v3, ⟨K3, e3⟩, a3, b3⟩ := pick_ev b hb hl (p + 1 + 1) 8 (by omega) (by omega) (by omega)
  obtain ⟨v4, ⟨K4, e4⟩, a4, b4⟩ := pick_ev b hb hl (p + 1 + 1 + 1) 3 (by omega) (by omega) (by omega)
  dsimp only at e1 e2 e3 e4
  have w0 : wrap64 ((s.size : Int) + 1) = (s.size : Int) + 1 := Lib.wrap_id (by omega) (by omega)
  have w1 : wrap64 (v1 + 1) = v1 + 1 := Lib.wrap_id (by omega) (by omega)
  have hp : p + 1 + 1 + 1 + 1 = p + 4 := by omega
  obtain ⟨c, hc⟩ : ∃ c, c = strOfNums [rd [32, 48, 49, 57, 59, 97, 112, v2] v3 % 256] := ⟨_, rfl⟩
  have hc1 : c.size = 1 := by rw [hc]; rfl
  by_cases c0 : v4 = 0
  · refine ⟨s.extract 0 v1.toNat ++ c ++ s.extract v1.toNat s.size, ⟨K1 + K2 + K3 + K4, fun k hk => ?_⟩, ?_⟩
    · dsimp only
      unfold spec_l20Bent.f
      rw [w0, e1 k (by omega)]; simp only [Option.bind_some]
      rw [e2 k (by omega)]; simp only [Option.bind_some]
      rw [e3 k (by omega)]; simp only [Option.bind_some]
      rw [if_pos a3, if_pos (by simpa using b3), e4 k (by omega)]; simp only [Option.bind_some]
      rw [if_pos c0, if_pos a1, if_pos (by omega), ← hc]
      rw [if_pos (by rw [ext_size, hc1]; omega), if_pos (by rw [ByteArray.size_append, ext_size, ext_size, hc1]; omega), hp]
    · rw [ByteArray.size_append, ByteArray.size_append, ext_size, ext_size, hc1]; omega
  · by_cases c1 : v4 = 1
    · by_cases c2 : v1 < (s.size : Int)
      · refine ⟨s.extract 0 v1.toNat ++ s.extract (v1 + 1).toNat s.size, ⟨K1 + K2 + K3 + K4, fun k hk => ?_⟩, ?_⟩
        · dsimp only
          unfold spec_l20Bent.f
          rw [w0, e1 k (by omega)]; simp only [Option.bind_some]
          rw [e2 k (by omega)]; simp only [Option.bind_some]
          rw [e3 k (by omega)]; simp only [Option.bind_some]
          rw [if_pos a3, if_pos (by simpa using b3), e4 k (by omega)]; simp only [Option.bind_some]
          rw [if_neg c0, if_pos c1, if_pos c2, if_pos a1, if_pos (by omega), w1, if_pos (by omega), if_pos (by omega)]
          rw [if_pos (by rw [ext_size, ext_size]; omega), hp]
        · rw [ByteArray.size_append, ext_size, ext_size]; omega
      · refine ⟨s, ⟨K1 + K2 + K3 + K4, fun k hk => ?_⟩, by omega⟩
        dsimp only
        unfold spec_l20Bent.f
        rw [w0, e1 k (by omega)]; simp only [Option.bind_some]
        rw [e2 k (by omega)]; simp only [Option.bind_some]
        rw [e3 k (by omega)]; simp only [Option.bind_some]
        rw [if_pos a3, if_pos (by simpa using b3), e4 k (by omega)]; simp only [Option.bind_some]
        rw [if_neg c0, if_pos c1, if_neg c2, hp]
    · by_cases c2 : v1 < (s.size : Int)
      · refine ⟨s.extract 0 v1.toNat ++ c ++ s.extract (v1 + 1).toNat s.size, ⟨K1 + K2 + K3 + K4, fun k hk => ?_⟩, ?_⟩
        · dsimp only
          unfold spec_l20Bent.f
          rw [w0, e1 k (by omega)]; simp only [Option.bind_some]
          rw [e2 k (by omega)]; simp only [Option.bind_some]
          rw [e3 k (by omega)]; simp only [Option.bind_some]
          rw [if_pos a3, if_pos (by simpa using b3), e4 k (by omega)]; simp only [Option.bind_some]
          rw [if_neg c0, if_neg c1, if_pos c2, if_pos a1, if_pos (by omega), ← hc]
          rw [if_pos (by rw [ext_size, hc1]; omega), w1, if_pos (by omega), if_pos (by omega), if_pos (by rw [ByteArray.size_append, ext_size, ext_size, hc1]; omega), hp]
        · rw [ByteArray.size_append, ByteArray.size_append, ext_size, ext_size, hc1]; omega
      · refine ⟨s, ⟨K1 + K2 + K3 + K4, fun k hk => ?_⟩, by omega⟩
        dsimp only
        unfold spec_l20Bent.f
        rw [w0, e1 k (by omega)]; simp only [Option.bind_some]
        rw [e2 k (by omega)]; simp only [Option.bind_some]
        rw [e3 k (by omega)]; simp only [Option.bind_some]
        rw [if_pos a3, if_pos (by simpa using b3), e4 k (by omega)]; simp only [Option.bind_some]
        rw [if_neg c0, if_neg c1, if_neg c2, hp]
theorem odd_ev (b : List Int) (hb : Lib.Bytes b) (hl : b.length ≤ 2000) (p n : Int) (h0 : 0 ≤ p) (h1 : p ≤ 1000000) (hn : 1 ≤ n) (hn2 : n ≤ 1000000) :
    ∃ v p', Ev (fun k => spec_l20Rd_odd.f k b p n) (v, p') ∧ p ≤ p' ∧ p' ≤ p + 1 ∧ (9000 ≤ n → v = false ∧ p' = p) := by
  by_cases c : n < 9000
  · obtain ⟨v, ⟨K, e⟩, _, _⟩ := pick_ev b hb hl p n h0 h1 hn
    dsimp only at e
    refine ⟨v == wrap64 (n - 1), p + 1, ⟨K, fun k hk => ?_⟩, by omega, by omega, fun h => by omega⟩
    dsimp only
    unfold spec_l20Rd_odd.f
    rw [if_pos c, e k hk]; rfl
  · refine ⟨false, p, ⟨0, fun k hk => ?_⟩, by omega, by omega, fun _ => ⟨rfl, rfl⟩⟩
    dsimp only
    unfold spec_l20Rd_odd.f
    rw [if_neg c]
theorem stream_0 (b : List Int) (hb : Lib.Bytes b) (hl : b.length ≤ 2000) (z : Int) (hz : ¬ z > 0) (t : ByteArray) (p : Int) (ht : t.size ≤ 120) (h0 : 0 ≤ p) (h1 : p ≤ 980000) :
    ∃ t' p', Ev (fun k => spec_l20Stream.l0 k t z b p) (t', p') ∧ t'.size ≤ 120 ∧ p < p' ∧ p' ≤ p + 5 := by
  obtain ⟨v1, ⟨K1, e1⟩, a1, b1⟩ := pick_ev b hb hl p 3 h0 (by omega) (by omega)
  dsimp only at e1
  by_cases c : v1 = 0
  · obtain ⟨t2, p2, ⟨K2, e2⟩, s2, g1, g2⟩ := line_ev b hb hl (p + 1) (by omega) (by omega)
    dsimp only at e2
    have hw_ : wrap64 ((t.size : Int) + (t2.size : Int)) = (t.size : Int) + (t2.size : Int) := Lib.wrap_id (by omega) (by omega)
    by_cases c2 : (t.size : Int) + (t2.size : Int) ≤ 120
    · refine ⟨t ++ t2, p2, ⟨K1 + K2 + 1, fun k hk => ?_⟩, by rw [ByteArray.size_append]; omega, by omega, by omega⟩
      obtain ⟨k, rfl⟩ : ∃ m, k = m + 1 := ⟨k - 1, by omega⟩
      suffices h_ : ∀ R, some (t ++ t2, p2) = R → spec_l20Stream.l0 (k + 1) t z b p = R from h_ _ rfl
      intro R hR
      rw [spec_l20Stream.l0, if_neg hz, e1 k (by omega)]; simp only [Option.bind_some]
      rw [if_pos c, e2 k (by omega), Option.bind_some]
      rw [show wrap64 ((t.size : Int) + (((t2, p2) : ByteArray × Int).1.size : Int)) = (t.size : Int) + (t2.size : Int) from hw_, if_pos c2, if_pos (show t.size + t2.size ≤ 9223372036854775807 by omega)]; exact hR
    · refine ⟨t, p2, ⟨K1 + K2 + 1, fun k hk => ?_⟩, ht, by omega, by omega⟩
      obtain ⟨k, rfl⟩ : ∃ m, k = m + 1 := ⟨k - 1, by omega⟩
      suffices h_ : ∀ R, some (t, p2) = R → spec_l20Stream.l0 (k + 1) t z b p = R from h_ _ rfl
      intro R hR
      rw [spec_l20Stream.l0, if_neg hz, e1 k (by omega)]; simp only [Option.bind_some]
      rw [if_pos c, e2 k (by omega), Option.bind_some]
      rw [show wrap64 ((t.size : Int) + (((t2, p2) : ByteArray × Int).1.size : Int)) = (t.size : Int) + (t2.size : Int) from hw_, if_neg c2]; exact hR
  · refine ⟨t, p + 1, ⟨K1 + 1, fun k hk => ?_⟩, ht, by omega, by omega⟩
    obtain ⟨k, rfl⟩ : ∃ m, k = m + 1 := ⟨k - 1, by omega⟩
    dsimp only
    rw [spec_l20Stream.l0, if_neg hz, e1 k (by omega)]; simp only [Option.bind_some]
    rw [if_neg c]
theorem stream_l (b : List Int) (hb : Lib.Bytes b) (hl : b.length ≤ 2000) (n : Nat) : ∀ (t : ByteArray) (p : Int), t.size ≤ 120 → n ≤ 8 → 0 ≤ p → p ≤ 980000 - 4 * (n : Int) →
    ∃ t' p', Ev (fun k => spec_l20Stream.l0 k t (n : Int) b p) (t', p') ∧ t'.size ≤ 120 ∧ p < p' ∧ p' ≤ p + 4 * (n : Int) + 5 := by
  induction n with
  | zero =>
    intro t p ht _ h0 h1
    obtain ⟨t', p', e, r1, r2, r3⟩ := stream_0 b hb hl ((0 : Nat) : Int) (by omega) t p ht h0 (by omega)
    exact ⟨t', p', e, r1, r2, by omega⟩
  | succ n ih =>
    intro t p ht hn h0 h1
    obtain ⟨t2, p2, ⟨K2, e2⟩, s2, g1, g2⟩ := line_ev b hb hl p h0 (by omega)
    dsimp only at e2
    have hz : ((t ++ t2) ++ (⟨#[59]⟩ : ByteArray)).size = t.size + t2.size + 1 := by rw [ByteArray.size_append, ByteArray.size_append]; rfl
    have hw : wrap64 (((n + 1 : Nat) : Int) - 1) = (n : Int) := by rw [Lib.wrap_id (by omega) (by omega)]; omega
    by_cases c : (((t ++ t2) ++ (⟨#[59]⟩ : ByteArray)).size : Int) ≤ 120
    · obtain ⟨t', p', ⟨K3, e3⟩, r1, r2, r3⟩ := ih ((t ++ t2) ++ (⟨#[59]⟩ : ByteArray)) p2 (by omega) (by omega) (by omega) (by omega)
      dsimp only at e3
      refine ⟨t', p', ⟨K2 + K3 + 1, fun k hk => ?_⟩, r1, by omega, by omega⟩
      obtain ⟨k, rfl⟩ : ∃ m, k = m + 1 := ⟨k - 1, by omega⟩
      dsimp only
      rw [spec_l20Stream.l0, if_pos (by omega), e2 k (by omega)]; simp only [Option.bind_some]
      rw [if_pos (by omega), if_pos (by rw [ByteArray.size_append]; omega), if_pos c, hw]
      exact e3 k (by omega)
    · obtain ⟨t', p', ⟨K3, e3⟩, r1, r2, r3⟩ := ih t p2 ht (by omega) (by omega) (by omega)
      dsimp only at e3
      refine ⟨t', p', ⟨K2 + K3 + 1, fun k hk => ?_⟩, r1, by omega, by omega⟩
      obtain ⟨k, rfl⟩ : ∃ m, k = m + 1 := ⟨k - 1, by omega⟩
      dsimp only
      rw [spec_l20Stream.l0, if_pos (by omega), e2 k (by omega)]; simp only [Option.bind_some]
      rw [if_pos (by omega), if_pos (by rw [ByteArray.size_append]; omega), if_neg c, hw]
      exact e3 k (by omega)
theorem stream_ev (b : List Int) (hb : Lib.Bytes b) (hl : b.length ≤ 2000) (p : Int) (h0 : 0 ≤ p) (h1 : p ≤ 900000) :
    ∃ t p', Ev (fun k => spec_l20Stream.f k b p) (t, p') ∧ t.size ≤ 120 ∧ p < p' ∧ p' ≤ p + 40 := by
  obtain ⟨v1, ⟨K1, e1⟩, a1, b1⟩ := pick_ev b hb hl p 9 h0 (by omega) (by omega)
  obtain ⟨n, rfl⟩ := Int.eq_ofNat_of_zero_le a1
  obtain ⟨t', p', ⟨K2, e2⟩, r1, r2, r3⟩ := stream_l b hb hl n (⟨#[]⟩ : ByteArray) (p + 1) (by decide) (by omega) (by omega) (by omega)
  dsimp only at e1 e2
  refine ⟨t', p', ⟨K1 + K2, fun k hk => ?_⟩, r1, by omega, by omega⟩
  dsimp only
  unfold spec_l20Stream.f
  rw [e1 k (by omega)]; simp only [Option.bind_some]
  exact e2 k (by omega)
theorem streamor_l (b : List Int) (p : Int) : ∀ (n : Nat) (x : ByteArray), x.size ≤ 130 → 121 - x.size ≤ n → ∃ t, (∀ k, n + 1 ≤ k → spec_l20StreamOr.l0 k x b p = some (t, p)) ∧ t.size ≤ 130 := by
  intro n
  induction n with
  | zero =>
    intro x h1 h2
    refine ⟨x, fun k hk => ?_, h1⟩
    obtain ⟨k, rfl⟩ : ∃ k', k = k' + 1 := ⟨k - 1, by omega⟩
    rw [spec_l20StreamOr.l0, if_neg (by omega)]
  | succ n ih =>
    intro x h1 h2
    by_cases c : (x.size : Int) ≤ 120
    · have hz : (x ++ (⟨#[108, 105, 115, 116, 59]⟩ : ByteArray)).size = x.size + 5 := ByteArray.size_append
      obtain ⟨t, ht, hs⟩ := ih (x ++ (⟨#[108, 105, 115, 116, 59]⟩ : ByteArray)) (by omega) (by omega)
      refine ⟨t, fun k hk => ?_, hs⟩
      obtain ⟨k, rfl⟩ : ∃ k', k = k' + 1 := ⟨k - 1, by omega⟩
      rw [spec_l20StreamOr.l0, if_pos c, if_pos (by omega)]
      exact ht k (by omega)
    · refine ⟨x, fun k hk => ?_, h1⟩
      obtain ⟨k, rfl⟩ : ∃ k', k = k' + 1 := ⟨k - 1, by omega⟩
      rw [spec_l20StreamOr.l0, if_neg c]
theorem streamor_ev (b : List Int) (hb : Lib.Bytes b) (hl : b.length ≤ 2000) (p n : Int) (h0 : 0 ≤ p) (h1 : p ≤ 800000) (hn : 1 ≤ n) (hn2 : n ≤ 1000000) :
    ∃ t p', Ev (fun k => spec_l20StreamOr.f k b p n) (t, p') ∧ t.size ≤ 140 ∧ p ≤ p' ∧ p' ≤ p + 100 := by
  obtain ⟨s, p1, ⟨K1, e1⟩, hs, g1, g2⟩ := stream_ev b hb hl p h0 (by omega)
  obtain ⟨v, p2, ⟨K2, e2⟩, g3, g4, _⟩ := odd_ev b hb hl p1 n (by omega) (by omega) hn hn2
  dsimp only at e1 e2
  cases v with
  | false =>
    refine ⟨s, p2, ⟨K1 + K2, fun k hk => ?_⟩, by omega, by omega, by omega⟩
    dsimp only
    unfold spec_l20StreamOr.f
    rw [e1 k (by omega), Option.bind_some]; dsimp only
    rw [e2 k (by omega), Option.bind_some]; dsimp only
    rw [if_neg (by decide)]
  | true =>
    obtain ⟨u, ⟨K3, e3⟩, a3, b3⟩ := pick_ev b hb hl p2 3 (by omega) (by omega) (by omega)
    dsimp only at e3
    have go : ∀ t p' K4, t.size ≤ 140 → p ≤ p' → p' ≤ p + 100 → (∀ k, K4 ≤ k → (if u = 0 then ((spec_l20Bent.f k b (p2 + 1) s).bind fun bt200 => (some (bt200.1, bt200.2))) else (if u = 1 then (if s.size + 18 ≤ 9223372036854775807 then (some (s ++ (⟨#[97, 98, 99, 100, 101, 102, 103, 104, 105, 106, 32, 107, 108, 109, 110, 111, 112, 59]⟩ : ByteArray), p2 + 1)) else (none)) else (spec_l20StreamOr.l0 k s b (p2 + 1)))) = some (t, p')) →
        ∃ t p', Ev (fun k => spec_l20StreamOr.f k b p n) (t, p') ∧ t.size ≤ 140 ∧ p ≤ p' ∧ p' ≤ p + 100 := fun t p' K4 ht q1 q2 h =>
      ⟨t, p', ⟨K1 + K2 + K3 + K4, fun k hk => by
        dsimp only
        unfold spec_l20StreamOr.f
        rw [e1 k (by omega), Option.bind_some]; dsimp only
        rw [e2 k (by omega), Option.bind_some]; dsimp only
        rw [if_pos rfl, e3 k (by omega), Option.bind_some]
        exact h k (by omega)⟩, ht, q1, q2⟩
    by_cases c0 : u = 0
    · obtain ⟨t, ⟨K4, e4⟩, ht⟩ := bent_ev b hb hl (p2 + 1) (by omega) (by omega) s (by omega)
      dsimp only at e4
      exact go t (p2 + 1 + 4) K4 (by omega) (by omega) (by omega) (fun k hk => by rw [if_pos c0, e4 k hk]; rfl)
    · by_cases c1 : u = 1
      · exact go (s ++ (⟨#[97, 98, 99, 100, 101, 102, 103, 104, 105, 106, 32, 107, 108, 109, 110, 111, 112, 59]⟩ : ByteArray)) (p2 + 1) 0 (by rw [ByteArray.size_append]; show s.size + 18 ≤ 140; omega) (by omega) (by omega) (fun k hk => by rw [if_neg c0, if_pos c1, if_pos (by omega)])
      · obtain ⟨t, h4, ht⟩ := streamor_l b (p2 + 1) 121 s (by omega) (by omega)
        exact go t (p2 + 1) 122 (by omega) (by omega) (by omega) (fun k hk => by rw [if_neg c0, if_neg c1, h4 k (by omega)])
theorem drawstrok_ev (l : List Int) (hb : Lib.Bytes l) (hl : l.length ≤ 9223372036854775807) : ∃ t, Ev (fun k => spec_DrawStrOk.f k l) t ∧ t.size ≤ 140 := by
  obtain ⟨b, h0, hb, hl⟩ := open_eq l hb hl
  obtain ⟨t, p1, ⟨K1, e1⟩, ht, _, _⟩ := streamor_ev b hb hl 0 2 (by omega) (by omega) (by omega) (by omega)
  dsimp only at e1
  refine ⟨t, ⟨K1, fun k hk => ?_⟩, ht⟩
  dsimp only
  unfold spec_DrawStrOk.f
  rw [h0, Option.bind_some]; dsimp only
  rw [e1 k hk]; rfl
theorem lns_len (s : ByteArray) : ∀ (n fr i : Nat), (Str.lns s n fr i).1.length ≤ n := by
  intro n
  induction n with
  | zero => intro fr i; exact Nat.le_refl _
  | succ n ih =>
    intro fr i
    rw [Str.lns]
    split
    · have := ih (i + 1) (i + 1); simp only [List.length_cons]; omega
    · have := ih fr (i + 1); omega
theorem lines_l (s : ByteArray) (hs : s.size ≤ 1000000000) : ∀ (n i fr : Nat) (xs : List ByteArray) (k : Nat), i + n = s.size → fr ≤ i → xs.length ≤ i → n + 1 ≤ k →
    spec_StrLines.l0 k s xs (fr : Int) (i : Int) = some (xs ++ (Str.lns s n fr i).1, s.extract (Str.lns s n fr i).2 s.size) := by
  intro n
  induction n with
  | zero =>
    intro i fr xs k hi hf hx hk
    obtain ⟨k, rfl⟩ : ∃ k', k = k' + 1 := ⟨k - 1, by omega⟩
    rw [spec_StrLines.l0, if_neg (by omega), if_pos (by omega), if_pos (by omega), Int.toNat_natCast]
    show _ = some (xs ++ [], s.extract fr s.size)
    rw [List.append_nil]
  | succ n ih =>
    intro i fr xs k hi hf hx hk
    obtain ⟨k, rfl⟩ : ∃ k', k = k' + 1 := ⟨k - 1, by omega⟩
    rw [spec_StrLines.l0, if_pos (by omega), if_pos (by omega), Str.lns]
    by_cases hb : bt s (i : Int) = 59
    · rw [if_pos hb, if_pos hb, if_pos (by omega), if_pos (by omega), if_pos (by omega), if_pos (by omega), w_upL i (by omega), Int.toNat_natCast, Int.toNat_natCast,
        ih (i + 1) (i + 1) _ k (by omega) (Nat.le_refl _) (by simp; omega) (by omega), List.append_assoc]; rfl
    · rw [if_neg hb, if_neg hb, w_upL i (by omega), ih (i + 1) fr xs k (by omega) (by omega) (by omega) (by omega)]
theorem lines_ev (s : ByteArray) (hs : s.size ≤ 1000000000) (k : Nat) (hk : s.size + 1 ≤ k) : spec_StrLines.f k s = some (Str.linesV s, s.extract (Str.restP s) s.size) := by
  unfold spec_StrLines.f
  have := lines_l s hs s.size 0 0 [] k (Nat.zero_add _) (Nat.le_refl _) (Nat.zero_le _) hk
  rw [List.nil_append] at this
  exact this
theorem implines_ev (s : ByteArray) (hs : s.size ≤ 1000000000) (k : Nat) (hk : s.size + 1 ≤ k) : impl_StrLines.f k s = some (Str.linesV s, s.extract (Str.restP s) s.size) := by
  unfold impl_StrLines.f
  rw [if_pos (by omega), if_pos (by omega), lines_ev s hs k hk]; rfl
theorem lines_len (s : ByteArray) : (Str.linesV s).length ≤ s.size := lns_len s s.size 0 0
def strOkB (s : ByteArray) : Bool := decide (s.size ≤ 120) && ((Str.linesV s ++ [s.extract (Str.restP s) s.size]).all linOkB)
theorem w_upK (n : Nat) (h : n ≤ 4611686018427387904) : wrap64 ((n : Int) + 1) = ((n + 1 : Nat) : Int) := by
  rw [Lib.wrap_id (by omega) (by omega)]; omega
theorem rdOf_drop (L : List ByteArray) (i : Nat) (h : i < L.length) : L.drop i = rdOf ByteArray.empty L (i : Int) :: L.drop (i + 1) := by
  rw [List.drop_eq_getElem_cons h]
  congr 1
  unfold rdOf
  rw [Int.toNat_natCast, List.getD_eq_getElem?_getD, List.getElem?_eq_getElem h]; rfl
theorem spec_strok_l (L : List ByteArray) (hL : L.length ≤ 1000000000) (r : ByteArray) : ∀ (n i : Nat), i + n = L.length → ∃ K, ∀ k, K ≤ k → spec_StrOk.l0 k L r (i : Int) = some ((L.drop i).all linOkB && linOkB r) := by
  intro n
  induction n with
  | zero =>
    intro i hi
    obtain ⟨K, hK⟩ := spec_lin_ev r
    dsimp only at hK
    refine ⟨K + 1, fun k hk => ?_⟩
    obtain ⟨k, rfl⟩ : ∃ k', k = k' + 1 := ⟨k - 1, by omega⟩
    rw [spec_StrOk.l0, if_neg (by omega), hK k (by omega), List.drop_of_length_le (by omega)]; rfl
  | succ n ih =>
    intro i hi
    obtain ⟨K1, h1⟩ := ih (i + 1) (by omega)
    obtain ⟨K2, h2⟩ := spec_lin_ev (rdOf ByteArray.empty L (i : Int))
    dsimp only at h2
    refine ⟨K1 + K2 + 1, fun k hk => ?_⟩
    obtain ⟨k, rfl⟩ : ∃ k', k = k' + 1 := ⟨k - 1, by omega⟩
    rw [spec_StrOk.l0, if_pos (by omega), if_pos (by omega), h2 k (by omega), Option.bind_some, rdOf_drop L i (by omega), List.all_cons]
    cases hb : linOkB (rdOf ByteArray.empty L (i : Int)) with
    | true => rw [if_pos rfl, w_upK i (by omega), h1 k (by omega), Bool.true_and]
    | false => rw [if_neg (by decide), Bool.false_and, Bool.false_and]
theorem impl_strok_l (s : ByteArray) (M : List ByteArray) (hM : M.length ≤ 1000000001) (hx : ∀ x ∈ M, x.size ≤ 1000000000) : ∀ (n i : Nat), i + n = M.length → ∃ K, ∀ k, K ≤ k → impl_StrOk.l0 k s M (M.length : Int) (i : Int) = some ((M.drop i).all linOkB && decide (s.size ≤ 120)) := by
  intro n
  induction n with
  | zero =>
    intro i hi
    refine ⟨1, fun k hk => ?_⟩
    obtain ⟨k, rfl⟩ : ∃ k', k = k' + 1 := ⟨k - 1, by omega⟩
    rw [impl_StrOk.l0, if_neg (by omega), List.drop_of_length_le (by omega), List.all_nil, Bool.true_and]
    congr 1
    exact decide_eq_decide.2 (by omega)
  | succ n ih =>
    intro i hi
    obtain ⟨K1, h1⟩ := ih (i + 1) (by omega)
    have hd := rdOf_drop M i (by omega)
    obtain ⟨K2, h2⟩ := impl_lin_ev (rdOf ByteArray.empty M (i : Int)) (by
      have := hx (rdOf ByteArray.empty M (i : Int)) (List.mem_of_mem_drop (i := i) (by rw [hd]; exact List.mem_cons_self))
      omega)
    dsimp only at h2
    refine ⟨K1 + K2 + 1, fun k hk => ?_⟩
    obtain ⟨k, rfl⟩ : ∃ k', k = k' + 1 := ⟨k - 1, by omega⟩
    rw [impl_StrOk.l0, if_pos (by omega), if_pos (by omega), if_pos (by omega), h2 k (by omega), Option.bind_some, hd, List.all_cons]
    cases hb : linOkB (rdOf ByteArray.empty M (i : Int)) with
    | true => rw [if_pos rfl, w_upK i (by omega), h1 k (by omega), Bool.true_and]
    | false => rw [if_neg (by decide), Bool.false_and, Bool.false_and]
theorem lns_mem' (s : ByteArray) : ∀ (n fr i : Nat) (x : ByteArray), x ∈ (Str.lns s n fr i).1 → x.size ≤ s.size := by
  intro n
  induction n with
  | zero => intro fr i x h; cases h
  | succ n ih =>
    intro fr i x h
    rw [Str.lns] at h
    split at h
    · rcases List.mem_cons.1 h with h | h
      · rw [h, ByteArray.size_extract]; omega
      · exact ih _ _ x h
    · exact ih _ _ x h
theorem spec_strok_ev (s : ByteArray) (hs : s.size ≤ 1000000000) : Ev (fun k => spec_StrOk.f k s) (strOkB s) := by
  by_cases c : (s.size : Int) > 120
  · refine ⟨0, fun k _ => ?_⟩
    dsimp only
    unfold spec_StrOk.f strOkB
    rw [if_pos c, decide_eq_false (by omega), Bool.false_and]
  · have hl := lines_len s
    obtain ⟨K, hK⟩ := spec_strok_l (Str.linesV s) (by omega) (s.extract (Str.restP s) s.size) (Str.linesV s).length 0 (Nat.zero_add _)
    refine ⟨K + s.size + 1, fun k hk => ?_⟩
    dsimp only
    unfold spec_StrOk.f strOkB
    rw [if_neg c, lines_ev s hs k (by omega), Option.bind_some]; dsimp only
    have e := hK k (by omega)
    rw [List.drop_zero] at e
    rw [decide_eq_true (by omega), Bool.true_and, List.all_append, List.all_cons, List.all_nil, Bool.and_true]
    exact e
theorem impl_strok_ev (s : ByteArray) (hs : s.size ≤ 1000000000) : Ev (fun k => impl_StrOk.f k s) (strOkB s) := by
  have hl := lines_len s
  obtain ⟨M, hM⟩ : ∃ M, M = Str.linesV s ++ [s.extract (Str.restP s) s.size] := ⟨_, rfl⟩
  have hlen : M.length = (Str.linesV s).length + 1 := by rw [hM]; simp
  obtain ⟨K, hK⟩ := impl_strok_l s M (by omega) (fun x hx => by
    rw [hM] at hx
    rcases List.mem_append.1 hx with h | h
    · have := lns_mem' s s.size 0 0 x h; omega
    · rw [List.mem_singleton.1 h, ByteArray.size_extract]; omega) M.length 0 (Nat.zero_add _)
  refine ⟨K + s.size + 1, fun k hk => ?_⟩
  dsimp only
  unfold impl_StrOk.f strOkB
  rw [implines_ev s hs k (by omega), Option.bind_some]; dsimp only
  have e := hK k (by omega)
  rw [List.drop_zero] at e
  rw [if_pos (by omega), Option.bind_some, ← hM, Bool.and_comm]
  exact e
end Go.Proofs.Ytmahgffkkdggcaa.QFnStrOk
