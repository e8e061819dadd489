/- What the reference's draws and functions that this law reaches come to: plain lemmas on the printed functions. -/
import Derived.Test.YtmahgffkkdggcaaQFnPosTherex15
import Derived.Test.YtmahgffkkdggcaaLib
import Derived.Laws.BitsLemmas
set_option linter.unusedVariables false
set_option linter.unusedSimpArgs false
namespace Go.Proofs.Ytmahgffkkdggcaa.QFnPosThere
open Go.RowKit Go.Proofs.YtmahgffkkdggcaaW.PrintWords Go.Proofs.YtmahgffkkdggcaaW.PrintLast Go.Proofs.YtmahgffkkdggcaaW.PrintMore
open Go.Proofs.Ytmahgffkkdggcaa
theorem xor_nonneg (a b : Int) (h0 : 0 ≤ a) (h1 : a < 4611686018427387904) (h2 : 0 ≤ b) (h3 : b < 4611686018427387904) : 0 ≤ Go.bits .xor .i64 a b := by
 obtain ⟨m, rfl⟩ := Int.eq_ofNat_of_zero_le h0
 obtain ⟨n, rfl⟩ := Int.eq_ofNat_of_zero_le h2
 have hm : m % 2 ^ 64 = m := Nat.mod_eq_of_lt (by omega)
 have hn : n % 2 ^ 64 = n := Nat.mod_eq_of_lt (by omega)
 have hx : m ^^^ n < 2 ^ 62 := Nat.xor_lt_two_pow (by omega) (by omega)
 have e : Go.bits .xor .i64 (m : Int) (n : Int) = IntKind.i64.wrap ((m ^^^ n : Nat) : Int) := by
  have hb : (BitVec.ofNat 64 m ^^^ BitVec.ofNat 64 n).toNat = m ^^^ n := by rw [BitVec.toNat_xor, BitVec.toNat_ofNat, BitVec.toNat_ofNat, hm, hn]
  simp only [bits, IntKind.bits, BitVec.ofInt_natCast]
  exact congrArg (fun z : Nat => IntKind.i64.wrap (z : Int)) hb
 rw [e, IntKind.wrap_i64]
 omega
theorem pick_ev (b : List Int) (hb : Lib.Bytes b) (hl : b.length ≤ 2000) (p n : Int) (h0 : 0 ≤ p) (h1 : p ≤ 1000000) (hn : 1 ≤ n) :
  ∃ v, Ev (fun k => spec_l20Rd_pick.f k b p n) (v, p + 1) ∧ 0 ≤ v ∧ v < n := by
 have go : ∀ v, spec_l20Rd_pick.f 1 b p n = some (v, p + 1) → 0 ≤ v → v < n → ∃ v, Ev (fun k => spec_l20Rd_pick.f k b p n) (v, p + 1) ∧ 0 ≤ v ∧ v < n :=
  fun v h a c => ⟨v, Ev.of (spec_l20Rd_pick.mono b p n) h, a, c⟩
 have e1 : wrap64 (p + 1) = p + 1 := Lib.wrap_id (by omega) (by omega)
 have e2 : wrap64 (p + 1 - 1) = p := by rw [Lib.wrap_id (by omega) (by omega)]; omega
 by_cases hz : b.length = 0
 ·refine go 0 ?_ (by omega) (by omega)
  unfold spec_l20Rd_pick.f
  rw [if_neg (by omega), spec_l20Rd_pick.j0, if_pos (by simp [hz]), e1]
 ·have e3 : ((b.length : Int) == 0) = false := by rw [beq_eq_false_iff_ne]; omega
  by_cases hp : p < (b.length : Int)
  ·obtain ⟨i, rfl⟩ := Int.eq_ofNat_of_zero_le h0
   have hr := Lib.bytes_rd hb i
   refine go (rd b (i : Int) % n) ?_ (Int.emod_nonneg _ (by omega)) (Int.emod_lt_of_pos _ (by omega))
   unfold spec_l20Rd_pick.f
   rw [if_neg (by omega), spec_l20Rd_pick.j0, if_neg (by rw [e3]; decide), e1, e2, if_pos hp, if_pos (by omega), if_neg (by omega), Lib.wrap_id (x := rd b (i : Int)) (by omega) (by omega), Int.tmod_eq_emod_of_nonneg (by omega)]
  ·have hL : (0 : Int) < (b.length : Int) := by omega
   have q1 : Int.tmod p (b.length : Int) = p % (b.length : Int) := Int.tmod_eq_emod_of_nonneg (by omega)
   have w1 : wrap64 (p * 7) = p * 7 := Lib.wrap_id (by omega) (by omega)
   have w2 : wrap64 (p * 7 + 3) = p * 7 + 3 := Lib.wrap_id (by omega) (by omega)
   have q2 : Int.tmod (p * 7 + 3) (b.length : Int) = (p * 7 + 3) % (b.length : Int) := Int.tmod_eq_emod_of_nonneg (by omega)
   have m1 := Int.emod_nonneg p (show (b.length : Int) ≠ 0 by omega)
   have m2 := Int.emod_lt_of_pos p hL
   have m3 := Int.emod_nonneg (p * 7 + 3) (show (b.length : Int) ≠ 0 by omega)
   have m4 := Int.emod_lt_of_pos (p * 7 + 3) hL
   obtain ⟨i, hi⟩ := Int.eq_ofNat_of_zero_le m1
   obtain ⟨j, hj⟩ := Int.eq_ofNat_of_zero_le m3
   have r1 := Lib.bytes_rd hb i
   have r2 := Lib.bytes_rd hb j
   rw [← hi] at r1
   rw [← hj] at r2
   have d1 : Int.tdiv p (b.length : Int) = p / (b.length : Int) := Int.tdiv_eq_ediv_of_nonneg h0
   have d2 : 0 ≤ p / (b.length : Int) := Int.ediv_nonneg h0 (by omega)
   have d3 : p / (b.length : Int) ≤ p := Int.ediv_le_self _ h0
   obtain ⟨u, hu⟩ : ∃ u, u = rd b (p % (b.length : Int)) := ⟨_, rfl⟩
   obtain ⟨v, hv⟩ : ∃ v, v = rd b ((p * 7 + 3) % (b.length : Int)) := ⟨_, rfl⟩
   obtain ⟨q, hq⟩ : ∃ q, q = p / (b.length : Int) := ⟨_, rfl⟩
   rw [← hu] at r1
   rw [← hv] at r2
   rw [← hq] at d2 d3
   have x0 : wrap64 (wrap64 (wrap64 (wrap64 (wrap64 u * 131) + wrap64 (wrap64 v * 1117)) + wrap64 (p * 29)) + wrap64 (wrap64 q * 53)) = u * 131 + v * 1117 + p * 29 + q * 53 := by
    rw [Lib.wrap_id (x := u) (by omega) (by omega), Lib.wrap_id (x := v) (by omega) (by omega), Lib.wrap_id (x := q) (by omega) (by omega), Lib.wrap_id (x := u * 131) (by omega) (by omega), Lib.wrap_id (x := v * 1117) (by omega) (by omega),
     Lib.wrap_id (x := p * 29) (by omega) (by omega), Lib.wrap_id (x := q * 53) (by omega) (by omega), Lib.wrap_id (x := u * 131 + v * 1117) (by omega) (by omega), Lib.wrap_id (x := u * 131 + v * 1117 + p * 29) (by omega) (by omega), Lib.wrap_id (by omega) (by omega)]
   obtain ⟨X, hX⟩ : ∃ X, X = u * 131 + v * 1117 + p * 29 + q * 53 := ⟨_, rfl⟩
   have X0 : 0 ≤ X := by omega
   have X1 : X < 4611686018427387904 := by omega
   have x1 : wrap64 (Int.tdiv X 64) = X / 64 := by rw [Int.tdiv_eq_ediv_of_nonneg X0, Lib.wrap_id (by omega) (by omega)]
   have hx := xor_nonneg X (X / 64) X0 X1 (by omega) (by omega)
   refine go (Go.bits .xor .i64 X (X / 64) % n) ?_ (Int.emod_nonneg _ (by omega)) (Int.emod_lt_of_pos _ (by omega))
   unfold spec_l20Rd_pick.f
   rw [if_neg (by omega), spec_l20Rd_pick.j0, if_neg (by rw [e3]; decide), e1, e2, if_neg hp, if_neg (by omega), w1, w2, q1, q2, if_pos m1, if_pos m2, if_pos m3, if_pos m4, if_neg (by omega), d1, ← hu, ← hv, ← hq, x0, ← hX, x1, Int.tmod_eq_emod_of_nonneg hx]
theorem open_eq (l : List Int) (hb : Lib.Bytes l) (hl : l.length ≤ 9223372036854775807) : ∃ b, spec_l20Open.f l = some (b, 0) ∧ Lib.Bytes b ∧ b.length ≤ 2000 := by
 unfold spec_l20Open.f
 by_cases c : (l.length : Int) > 2000
 ·exact ⟨l.take 2000, by rw [if_pos c, if_pos (by omega)], fun x hx => hb x (List.mem_of_mem_take hx), by simp; omega⟩
 ·exact ⟨l, by rw [if_neg c], hb, by omega⟩
theorem in_ev (b : List Int) (hb : Lib.Bytes b) (hl : b.length ≤ 2000) (p : Int) (h0 : 0 ≤ p) (h1 : p ≤ 999000) :
  ∃ a q, Ev (fun k => spec_l20In.f k b p) (a, q, p + 3) ∧ 1 ≤ a ∧ a ≤ 4 ∧ 1 ≤ q ∧ q ≤ 999 := by
 obtain ⟨v1, ⟨K1, e1⟩, a1, b1⟩ := pick_ev b hb hl p 4 h0 (by omega) (by omega)
 obtain ⟨v2, ⟨K2, e2⟩, a2, b2⟩ := pick_ev b hb hl (p + 1) 40 (by omega) (by omega) (by omega)
 obtain ⟨v3, ⟨K3, e3⟩, a3, b3⟩ := pick_ev b hb hl (p + 1 + 1) 5 (by omega) (by omega) (by omega)
 have hr : 1 ≤ rd [7, 20, 300, 999, wrap64 (1 + v2)] v3 ∧ rd [7, 20, 300, 999, wrap64 (1 + v2)] v3 ≤ 999 := by
  rw [Lib.wrap_id (x := 1 + v2) (by omega) (by omega)]
  rcases (by omega : v3 = 0 ∨ v3 = 1 ∨ v3 = 2 ∨ v3 = 3 ∨ v3 = 4) with rfl | rfl | rfl | rfl | rfl <;> simp [rd] <;> omega
 refine ⟨1 + v1, rd [7, 20, 300, 999, wrap64 (1 + v2)] v3, ⟨K1 + K2 + K3, fun k hk => ?_⟩, by omega, by omega, hr.1, hr.2⟩
 dsimp only at e1 e2 e3 ⊢
 unfold spec_l20In.f
 rw [e1 k (by omega)]; simp only [Option.bind_some]
 rw [e2 k (by omega)]; simp only [Option.bind_some]
 rw [e3 k (by omega)]; simp only [Option.bind_some]
 rw [if_pos a3, if_pos (by simpa using b3), Lib.wrap_id (x := 1 + v1) (by omega) (by omega), show p + 1 + 1 + 1 = p + 3 by omega]
theorem out_ev (b : List Int) (hb : Lib.Bytes b) (hl : b.length ≤ 2000) (p : Int) (h0 : 0 ≤ p) (h1 : p ≤ 999000) :
  ∃ a q, Ev (fun k => spec_l20Out.f k b p) (a, q, p + 2) ∧ 100 ≤ a ∧ a ≤ 102 ∧ 1 ≤ q ∧ q ≤ 80 := by
 obtain ⟨v1, ⟨K1, e1⟩, a1, b1⟩ := pick_ev b hb hl p 3 h0 (by omega) (by omega)
 obtain ⟨v2, ⟨K2, e2⟩, a2, b2⟩ := pick_ev b hb hl (p + 1) 4 (by omega) (by omega) (by omega)
 have hr : 1 ≤ rd [21, 21, 80, 7] v2 ∧ rd [21, 21, 80, 7] v2 ≤ 80 := by
  rcases (by omega : v2 = 0 ∨ v2 = 1 ∨ v2 = 2 ∨ v2 = 3) with rfl | rfl | rfl | rfl <;> simp [rd]
 refine ⟨100 + v1, rd [21, 21, 80, 7] v2, ⟨K1 + K2, fun k hk => ?_⟩, by omega, by omega, hr.1, hr.2⟩
 dsimp only at e1 e2 ⊢
 unfold spec_l20Out.f
 rw [e1 k (by omega)]; simp only [Option.bind_some]
 rw [e2 k (by omega)]; simp only [Option.bind_some]
 rw [if_pos a2, if_pos (by simpa using b2), Lib.wrap_id (x := 100 + v1) (by omega) (by omega), show p + 1 + 1 = p + 2 by omega]
def dig (d : Int) : UInt8 := UInt8.ofNat (48 + d).toNat
/-- The digits of a number of at most three. -/
def dec3 (n : Int) : ByteArray := if n > 99 then ⟨#[dig (n / 100), dig (n / 10 % 10), dig (n % 10)]⟩ else if n > 9 then ⟨#[dig (n / 10), dig (n % 10)]⟩ else ⟨#[dig n]⟩
theorem dec3_size (n : Int) : 1 ≤ (dec3 n).size ∧ (dec3 n).size ≤ 3 := by
 unfold dec3
 split
 ·exact ⟨by show 1 ≤ 3; omega, by show 3 ≤ 3; omega⟩
 ·split
  ·exact ⟨by show 1 ≤ 2; omega, by show 2 ≤ 3; omega⟩
  ·exact ⟨by show 1 ≤ 1; omega, by show 1 ≤ 3; omega⟩
theorem nums1 (x : Int) (h0 : 0 ≤ x) (h1 : x ≤ 9) : strOfNums [wrap64 (48 + x) % 256] = ⟨#[dig x]⟩ := by
 rw [Lib.wrap_id (by omega) (by omega), show (48 + x) % 256 = 48 + x by omega]; rfl
theorem plain_last (k : Nat) (n : Int) (t : ByteArray) (h0 : 0 ≤ n) (h1 : n ≤ 9) (ht : t.size ≤ 1000000) : spec_l1Plain.l0 (k + 1) n t = some ((⟨#[dig n]⟩ : ByteArray) ++ t) := by
 rw [spec_l1Plain.l0, if_neg (by omega)]
 simp only [Option.bind_some]
 rw [nums1 n h0 h1, if_pos (by show 1 + t.size ≤ _; omega)]
theorem plain_step (k : Nat) (n : Int) (t : ByteArray) (h0 : 9 < n) (h1 : n ≤ 1000000) (ht : t.size ≤ 1000000) : spec_l1Plain.l0 (k + 1) n t = spec_l1Plain.l0 k (n / 10) ((⟨#[dig (n % 10)]⟩ : ByteArray) ++ t) := by
 rw [spec_l1Plain.l0, if_pos (by omega)]
 simp only [Option.bind_some]
 have e : Int.tmod n 10 = n % 10 := Int.tmod_eq_emod_of_nonneg (by omega)
 have e2 : Int.tdiv n 10 = n / 10 := Int.tdiv_eq_ediv_of_nonneg (by omega)
 rw [e, e2, nums1 (n % 10) (by omega) (by omega), if_pos (by show 1 + t.size ≤ _; omega), Lib.wrap_id (by omega) (by omega)]
theorem app1 (a : UInt8) (l : List UInt8) : (⟨#[a]⟩ : ByteArray) ++ (⟨l.toArray⟩ : ByteArray) = ⟨(a :: l).toArray⟩ := by
 apply ByteArray.ext
 simp [ByteArray.data_append]
theorem plain_3 (n : Int) (h0 : 0 ≤ n) (h1 : n ≤ 999) : spec_l1Plain.f 3 n = some (dec3 n) := by
 have z : (⟨#[]⟩ : ByteArray) = ⟨([] : List UInt8).toArray⟩ := rfl
 unfold spec_l1Plain.f dec3
 by_cases c : n > 99
 ·rw [if_pos c, plain_step 2 n _ (by omega) (by omega) (by show 0 ≤ 1000000; omega), plain_step 1 (n / 10) _ (by omega) (by omega) (by show 1 ≤ 1000000; omega), plain_last 0 (n / 10 / 10) _ (by omega) (by omega) (by show 2 ≤ 1000000; omega), z, app1, app1, app1, show n / 10 / 10 = n / 100 by omega]
 ·rw [if_neg c]
  by_cases c2 : n > 9
  ·rw [if_pos c2, plain_step 2 n _ (by omega) (by omega) (by show 0 ≤ 1000000; omega), plain_last 1 (n / 10) _ (by omega) (by omega) (by show 1 ≤ 1000000; omega), z, app1, app1]
  ·rw [if_neg c2, plain_last 2 n _ (by omega) (by omega) (by show 0 ≤ 1000000; omega), z, app1]
theorem plain_ev (n : Int) (h0 : 0 ≤ n) (h1 : n ≤ 999) : Ev (fun k => spec_l1Plain.f k n) (dec3 n) := Ev.of (k := 3) (spec_l1Plain.mono n) (plain_3 n h0 h1)
def endOkP (a p : Int) : Prop := ((1 ≤ a ∧ a ≤ 9) ∨ (100 ≤ a ∧ a ≤ 109) ∨ a = 50) ∧ 1 ≤ p ∧ p ≤ 999
instance (a p : Int) : Decidable (endOkP a p) := by unfold endOkP; infer_instance
theorem spec_end (a p : Int) : spec_EndOk.f a p = some (decide (endOkP a p)) := by
 simp only [spec_EndOk.f, spec_EndInside.f, spec_EndOutside.f, spec_l1In.f, endOkP]
 by_cases h1 : a ≥ 1 <;> by_cases h2 : a ≤ 9 <;> by_cases h3 : p ≥ 1 <;> by_cases h4 : p ≤ 999 <;> by_cases h5 : a ≥ 100 <;> by_cases h6 : a ≤ 109 <;> by_cases h7 : a = 50 <;> simp [h1, h2, h3, h4, h5, h6, h7] <;> omega
def endT (a p : Int) : ByteArray := dec3 a ++ (⟨#[32]⟩ : ByteArray) ++ dec3 p
theorem endT_size (a p : Int) : 3 ≤ (endT a p).size ∧ (endT a p).size ≤ 7 := by
 have h1 := dec3_size a
 have h2 := dec3_size p
 have h3 : (⟨#[32]⟩ : ByteArray).size = 1 := rfl
 unfold endT
 rw [ByteArray.size_append, ByteArray.size_append]
 omega
theorem endtext_ev (a p : Int) (h : endOkP a p) : Ev (fun k => spec_EndText.f k a p) (endT a p) := by
 obtain ⟨K1, e1⟩ := plain_ev a (by unfold endOkP at h; omega) (by unfold endOkP at h; omega)
 obtain ⟨K2, e2⟩ := plain_ev p (by unfold endOkP at h; omega) (by unfold endOkP at h; omega)
 have h1 := dec3_size a
 have h2 := dec3_size p
 refine ⟨K1 + K2, fun k hk => ?_⟩
 dsimp only at e1 e2 ⊢
 unfold spec_EndText.f
 rw [spec_end]; simp only [Option.bind_some, decide_eq_true_eq]
 rw [if_pos h, e1 k (by omega)]; simp only [Option.bind_some]
 rw [if_pos (by omega), e2 k (by omega)]; simp only [Option.bind_some]
 rw [if_pos (by rw [ByteArray.size_append]; show (dec3 a).size + 1 + _ ≤ _; omega)]
 rfl
def portT (a p : Int) : ByteArray := (⟨#[112, 111, 114, 116, 32]⟩ : ByteArray) ++ endT a p
theorem portT_size (a p : Int) : 8 ≤ (portT a p).size ∧ (portT a p).size ≤ 12 := by
 have h1 := endT_size a p
 have h3 : (⟨#[112, 111, 114, 116, 32]⟩ : ByteArray).size = 5 := rfl
 unfold portT
 rw [ByteArray.size_append]
 omega
theorem linport_ev (a p : Int) (h : endOkP a p) : Ev (fun k => spec_LinPort.f k a p) (portT a p) := by
 obtain ⟨K1, e1⟩ := endtext_ev a p h
 have h1 := endT_size a p
 refine ⟨K1, fun k hk => ?_⟩
 dsimp only at e1 ⊢
 unfold spec_LinPort.f
 rw [spec_end]; simp only [Option.bind_some, decide_eq_true_eq]
 rw [if_pos h, e1 k (by omega)]; simp only [Option.bind_some]
 rw [if_pos (by omega)]
 rfl
theorem linport_no (a p : Int) (h : ¬ endOkP a p) (k : Nat) : spec_LinPort.f k a p = some ⟨#[]⟩ := by
 unfold spec_LinPort.f
 rw [spec_end]; simp only [Option.bind_some, decide_eq_true_eq]
 rw [if_neg h]
def lines1 : List ByteArray := [(⟨#[]⟩ : ByteArray), (⟨#[108, 105, 115, 116]⟩ : ByteArray), (⟨#[117, 115, 101, 114, 32, 97]⟩ : ByteArray), (⟨#[112, 111, 114, 116, 32, 53, 48, 32, 53, 48, 48]⟩ : ByteArray), (⟨#[112, 111, 114, 116, 32, 49, 48, 48, 32, 57]⟩ : ByteArray), (⟨#[112, 111, 114, 116, 32, 48, 49, 32, 50]⟩ : ByteArray), (⟨#[112, 111, 114, 116, 32, 49]⟩ : ByteArray), (⟨#[97, 98, 99, 100, 101, 102, 103, 104, 105, 106, 32, 107, 108, 109, 110, 111]⟩ : ByteArray), (⟨#[112, 111, 114, 116]⟩ : ByteArray), (⟨#[112, 111, 114, 116, 32, 49, 32, 50, 32, 51]⟩ : ByteArray)]
def lines2 : List ByteArray := [(⟨#[97]⟩ : ByteArray), (⟨#[98, 98]⟩ : ByteArray), (⟨#[103, 101, 116, 32, 102, 105, 108, 101, 49]⟩ : ByteArray), (⟨#[113, 117, 105, 116]⟩ : ByteArray)]
/-- A drawn line: it is short; and, where it is asked, what its bytes are. -/
theorem line_ev (b : List Int) (hb : Lib.Bytes b) (hl : b.length ≤ 2000) (p : Int) (h0 : 0 ≤ p) (h1 : p ≤ 990000) :
  ∃ t p', Ev (fun k => spec_l20Line.f k b p) (t, p') ∧ t.size ≤ 16 ∧ p < p' ∧ p' ≤ p + 4 := by
 obtain ⟨v1, ⟨K1, e1⟩, a1, b1⟩ := pick_ev b hb hl p 3 h0 (by omega) (by omega)
 dsimp only at e1
 by_cases c1 : v1 = 0
 ·obtain ⟨a, q, ⟨K2, e2⟩, g1, g2, g3, g4⟩ := in_ev b hb hl (p + 1) (by omega) (by omega)
  obtain ⟨K3, e3⟩ := linport_ev a q (by unfold endOkP; omega)
  dsimp only at e2 e3
  refine ⟨portT a q, p + 1 + 3, ⟨K1 + K2 + K3, fun k hk => ?_⟩, by have := portT_size a q; omega, by omega, by omega⟩
  dsimp only
  unfold spec_l20Line.f
  rw [e1 k (by omega)]; simp only [Option.bind_some]
  rw [if_pos c1, e2 k (by omega)]; simp only [Option.bind_some]
  rw [e3 k (by omega)]; rfl
 ·by_cases c2 : v1 = 1
  ·obtain ⟨v2, ⟨K2, e2⟩, a2, b2⟩ := pick_ev b hb hl (p + 1) 10 (by omega) (by omega) (by omega)
   dsimp only at e2
   refine ⟨rdOf ByteArray.empty lines1 v2, p + 1 + 1, ⟨K1 + K2, fun k hk => ?_⟩, ?_, by omega, by omega⟩
   ·dsimp only
    unfold spec_l20Line.f
    rw [e1 k (by omega)]; simp only [Option.bind_some]
    rw [if_neg c1, if_pos c2, e2 k (by omega)]; simp only [Option.bind_some]
    rw [if_pos a2, if_pos (by simpa using b2)]; rfl
   ·rcases (by omega : v2 = 0 ∨ v2 = 1 ∨ v2 = 2 ∨ v2 = 3 ∨ v2 = 4 ∨ v2 = 5 ∨ v2 = 6 ∨ v2 = 7 ∨ v2 = 8 ∨ v2 = 9) with rfl | rfl | rfl | rfl | rfl | rfl | rfl | rfl | rfl | rfl <;> decide
  ·obtain ⟨v2, ⟨K2, e2⟩, a2, b2⟩ := pick_ev b hb hl (p + 1) 4 (by omega) (by omega) (by omega)
   dsimp only at e2
   refine ⟨rdOf ByteArray.empty lines2 v2, p + 1 + 1, ⟨K1 + K2, fun k hk => ?_⟩, ?_, by omega, by omega⟩
   ·dsimp only
    unfold spec_l20Line.f
    rw [e1 k (by omega)]; simp only [Option.bind_some]
    rw [if_neg c1, if_neg c2, e2 k (by omega)]; simp only [Option.bind_some]
    rw [if_pos a2, if_pos (by simpa using b2)]; rfl
   ·rcases (by omega : v2 = 0 ∨ v2 = 1 ∨ v2 = 2 ∨ v2 = 3) with rfl | rfl | rfl | rfl <;> decide
theorem ext_size (s : ByteArray) (i j : Nat) : (s.extract i j).size = min j s.size - i := by rw [ByteArray.size_extract]
theorem bent_ev (b : List Int) (hb : Lib.Bytes b) (hl : b.length ≤ 2000) (p : Int) (h0 : 0 ≤ p) (h1 : p ≤ 990000) (s : ByteArray) (hs : s.size ≤ 1000000) :
  ∃ t, Ev (fun k => spec_l20Bent.f k b p s) (t, p + 4) ∧ t.size ≤ s.size + 1 := by
 obtain ⟨v1, ⟨K1, e1⟩, a1, b1⟩ := pick_ev b hb hl p ((s.size : Int) + 1) h0 (by omega) (by omega)
 obtain ⟨v2, ⟨K2, e2⟩, a2, b2⟩ := pick_ev b hb hl (p + 1) 256 (by omega) (by omega) (by omega)
 obtain ⟨v3, ⟨K3, e3⟩, a3, b3⟩ := pick_ev b hb hl (p + 1 + 1) 8 (by omega) (by omega) (by omega)
 obtain ⟨v4, ⟨K4, e4⟩, a4, b4⟩ := pick_ev b hb hl (p + 1 + 1 + 1) 3 (by omega) (by omega) (by omega)
 dsimp only at e1 e2 e3 e4
 have w0 : wrap64 ((s.size : Int) + 1) = (s.size : Int) + 1 := Lib.wrap_id (by omega) (by omega)
 have w1 : wrap64 (v1 + 1) = v1 + 1 := Lib.wrap_id (by omega) (by omega)
 have hp : p + 1 + 1 + 1 + 1 = p + 4 := by omega
 obtain ⟨c, hc⟩ : ∃ c, c = strOfNums [rd [32, 48, 49, 57, 59, 97, 112, v2] v3 % 256] := ⟨_, rfl⟩
 have hc1 : c.size = 1 := by rw [hc]; rfl
 by_cases c0 : v4 = 0
 ·refine ⟨s.extract 0 v1.toNat ++ c ++ s.extract v1.toNat s.size, ⟨K1 + K2 + K3 + K4, fun k hk => ?_⟩, ?_⟩
  ·dsimp only
   unfold spec_l20Bent.f
   rw [w0, e1 k (by omega)]; simp only [Option.bind_some]
   rw [e2 k (by omega)]; simp only [Option.bind_some]
   rw [e3 k (by omega)]; simp only [Option.bind_some]
   rw [if_pos a3, if_pos (by simpa using b3), e4 k (by omega)]; simp only [Option.bind_some]
   rw [if_pos c0, if_pos a1, if_pos (by omega), ← hc]
   rw [if_pos (by rw [ext_size, hc1]; omega), if_pos (by rw [ByteArray.size_append, ext_size, ext_size, hc1]; omega), hp]
  ·rw [ByteArray.size_append, ByteArray.size_append, ext_size, ext_size, hc1]; omega
 ·by_cases c1 : v4 = 1
  ·by_cases c2 : v1 < (s.size : Int)
   ·refine ⟨s.extract 0 v1.toNat ++ s.extract (v1 + 1).toNat s.size, ⟨K1 + K2 + K3 + K4, fun k hk => ?_⟩, ?_⟩
    ·dsimp only
     unfold spec_l20Bent.f
     rw [w0, e1 k (by omega)]; simp only [Option.bind_some]
     rw [e2 k (by omega)]; simp only [Option.bind_some]
     rw [e3 k (by omega)]; simp only [Option.bind_some]
     rw [if_pos a3, if_pos (by simpa using b3), e4 k (by omega)]; simp only [Option.bind_some]
     rw [if_neg c0, if_pos c1, if_pos c2, if_pos a1, if_pos (by omega), w1, if_pos (by omega), if_pos (by omega)]
     rw [if_pos (by rw [ext_size, ext_size]; omega), hp]
    ·rw [ByteArray.size_append, ext_size, ext_size]; omega
   ·refine ⟨s, ⟨K1 + K2 + K3 + K4, fun k hk => ?_⟩, by omega⟩
    dsimp only
    unfold spec_l20Bent.f
    rw [w0, e1 k (by omega)]; simp only [Option.bind_some]
    rw [e2 k (by omega)]; simp only [Option.bind_some]
    rw [e3 k (by omega)]; simp only [Option.bind_some]
    rw [if_pos a3, if_pos (by simpa using b3), e4 k (by omega)]; simp only [Option.bind_some]
    rw [if_neg c0, if_pos c1, if_neg c2, hp]
  ·by_cases c2 : v1 < (s.size : Int)
   ·refine ⟨s.extract 0 v1.toNat ++ c ++ s.extract (v1 + 1).toNat s.size, ⟨K1 + K2 + K3 + K4, fun k hk => ?_⟩, ?_⟩
    ·dsimp only
     unfold spec_l20Bent.f
     rw [w0, e1 k (by omega)]; simp only [Option.bind_some]
     rw [e2 k (by omega)]; simp only [Option.bind_some]
     rw [e3 k (by omega)]; simp only [Option.bind_some]
     rw [if_pos a3, if_pos (by simpa using b3), e4 k (by omega)]; simp only [Option.bind_some]
     rw [if_neg c0, if_neg c1, if_pos c2, if_pos a1, if_pos (by omega), ← hc]
     rw [if_pos (by rw [ext_size, hc1]; omega), w1, if_pos (by omega), if_pos (by omega), if_pos (by rw [ByteArray.size_append, ext_size, ext_size, hc1]; omega), hp]
    ·rw [ByteArray.size_append, ByteArray.size_append, ext_size, ext_size, hc1]; omega
   ·refine ⟨s, ⟨K1 + K2 + K3 + K4, fun k hk => ?_⟩, by omega⟩
    dsimp only
    unfold spec_l20Bent.f
    rw [w0, e1 k (by omega)]; simp only [Option.bind_some]
    rw [e2 k (by omega)]; simp only [Option.bind_some]
    rw [e3 k (by omega)]; simp only [Option.bind_some]
    rw [if_pos a3, if_pos (by simpa using b3), e4 k (by omega)]; simp only [Option.bind_some]
    rw [if_neg c0, if_neg c1, if_neg c2, hp]
theorem odd_ev (b : List Int) (hb : Lib.Bytes b) (hl : b.length ≤ 2000) (p n : Int) (h0 : 0 ≤ p) (h1 : p ≤ 1000000) (hn : 1 ≤ n) (hn2 : n ≤ 1000000) :
  ∃ v p', Ev (fun k => spec_l20Rd_odd.f k b p n) (v, p') ∧ p ≤ p' ∧ p' ≤ p + 1 ∧ (9000 ≤ n → v = false ∧ p' = p) := by
 by_cases c : n < 9000
 ·obtain ⟨v, ⟨K, e⟩, _, _⟩ := pick_ev b hb hl p n h0 h1 hn
  dsimp only at e
  refine ⟨v == wrap64 (n - 1), p + 1, ⟨K, fun k hk => ?_⟩, by omega, by omega, fun h => by omega⟩
  dsimp only
  unfold spec_l20Rd_odd.f
  rw [if_pos c, e k hk]; rfl
 ·refine ⟨false, p, ⟨0, fun k hk => ?_⟩, by omega, by omega, fun _ => ⟨rfl, rfl⟩⟩
  dsimp only
  unfold spec_l20Rd_odd.f
  rw [if_neg c]
theorem stream_0 (b : List Int) (hb : Lib.Bytes b) (hl : b.length ≤ 2000) (z : Int) (hz : ¬ z > 0) (t : ByteArray) (p : Int) (ht : t.size ≤ 120) (h0 : 0 ≤ p) (h1 : p ≤ 980000) :
  ∃ t' p', Ev (fun k => spec_l20Stream.l0 k t z b p) (t', p') ∧ t'.size ≤ 120 ∧ p < p' ∧ p' ≤ p + 5 := by
 obtain ⟨v1, ⟨K1, e1⟩, a1, b1⟩ := pick_ev b hb hl p 3 h0 (by omega) (by omega)
 dsimp only at e1
 by_cases c : v1 = 0
 ·obtain ⟨t2, p2, ⟨K2, e2⟩, s2, g1, g2⟩ := line_ev b hb hl (p + 1) (by omega) (by omega)
  dsimp only at e2
  have hw_ : wrap64 ((t.size : Int) + (t2.size : Int)) = (t.size : Int) + (t2.size : Int) := Lib.wrap_id (by omega) (by omega)
  by_cases c2 : (t.size : Int) + (t2.size : Int) ≤ 120
  ·refine ⟨t ++ t2, p2, ⟨K1 + K2 + 1, fun k hk => ?_⟩, by rw [ByteArray.size_append]; omega, by omega, by omega⟩
   obtain ⟨k, rfl⟩ : ∃ m, k = m + 1 := ⟨k - 1, by omega⟩
   suffices h_ : ∀ R, some (t ++ t2, p2) = R → spec_l20Stream.l0 (k + 1) t z b p = R from h_ _ rfl
   intro R hR
   rw [spec_l20Stream.l0, if_neg hz, e1 k (by omega)]; simp only [Option.bind_some]
   rw [if_pos c, e2 k (by omega), Option.bind_some]
   rw [show wrap64 ((t.size : Int) + (((t2, p2) : ByteArray × Int).1.size : Int)) = (t.size : Int) + (t2.size : Int) from hw_, if_pos c2, if_pos (show t.size + t2.size ≤ 9223372036854775807 by omega)]; exact hR
  ·refine ⟨t, p2, ⟨K1 + K2 + 1, fun k hk => ?_⟩, ht, by omega, by omega⟩
   obtain ⟨k, rfl⟩ : ∃ m, k = m + 1 := ⟨k - 1, by omega⟩
   suffices h_ : ∀ R, some (t, p2) = R → spec_l20Stream.l0 (k + 1) t z b p = R from h_ _ rfl
   intro R hR
   rw [spec_l20Stream.l0, if_neg hz, e1 k (by omega)]; simp only [Option.bind_some]
   rw [if_pos c, e2 k (by omega), Option.bind_some]
   rw [show wrap64 ((t.size : Int) + (((t2, p2) : ByteArray × Int).1.size : Int)) = (t.size : Int) + (t2.size : Int) from hw_, if_neg c2]; exact hR
 ·refine ⟨t, p + 1, ⟨K1 + 1, fun k hk => ?_⟩, ht, by omega, by omega⟩
  obtain ⟨k, rfl⟩ : ∃ m, k = m + 1 := ⟨k - 1, by omega⟩
  dsimp only
  rw [spec_l20Stream.l0, if_neg hz, e1 k (by omega)]; simp only [Option.bind_some]
  rw [if_neg c]
theorem stream_l (b : List Int) (hb : Lib.Bytes b) (hl : b.length ≤ 2000) (n : Nat) : ∀ (t : ByteArray) (p : Int), t.size ≤ 120 → n ≤ 8 → 0 ≤ p → p ≤ 980000 - 4 * (n : Int) →
  ∃ t' p', Ev (fun k => spec_l20Stream.l0 k t (n : Int) b p) (t', p') ∧ t'.size ≤ 120 ∧ p < p' ∧ p' ≤ p + 4 * (n : Int) + 5 := by
 induction n with
 | zero =>
  intro t p ht _ h0 h1
  obtain ⟨t', p', e, r1, r2, r3⟩ := stream_0 b hb hl ((0 : Nat) : Int) (by omega) t p ht h0 (by omega)
  exact ⟨t', p', e, r1, r2, by omega⟩
 | succ n ih =>
  intro t p ht hn h0 h1
  obtain ⟨t2, p2, ⟨K2, e2⟩, s2, g1, g2⟩ := line_ev b hb hl p h0 (by omega)
  dsimp only at e2
  have hz : ((t ++ t2) ++ (⟨#[59]⟩ : ByteArray)).size = t.size + t2.size + 1 := by rw [ByteArray.size_append, ByteArray.size_append]; rfl
  have hw : wrap64 (((n + 1 : Nat) : Int) - 1) = (n : Int) := by rw [Lib.wrap_id (by omega) (by omega)]; omega
  by_cases c : (((t ++ t2) ++ (⟨#[59]⟩ : ByteArray)).size : Int) ≤ 120
  ·obtain ⟨t', p', ⟨K3, e3⟩, r1, r2, r3⟩ := ih ((t ++ t2) ++ (⟨#[59]⟩ : ByteArray)) p2 (by omega) (by omega) (by omega) (by omega)
   dsimp only at e3
   refine ⟨t', p', ⟨K2 + K3 + 1, fun k hk => ?_⟩, r1, by omega, by omega⟩
   obtain ⟨k, rfl⟩ : ∃ m, k = m + 1 := ⟨k - 1, by omega⟩
   dsimp only
   rw [spec_l20Stream.l0, if_pos (by omega), e2 k (by omega)]; simp only [Option.bind_some]
   rw [if_pos (by omega), if_pos (by rw [ByteArray.size_append]; omega), if_pos c, hw]
   exact e3 k (by omega)
  ·obtain ⟨t', p', ⟨K3, e3⟩, r1, r2, r3⟩ := ih t p2 ht (by omega) (by omega) (by omega)
   dsimp only at e3
   refine ⟨t', p', ⟨K2 + K3 + 1, fun k hk => ?_⟩, r1, by omega, by omega⟩
   obtain ⟨k, rfl⟩ : ∃ m, k = m + 1 := ⟨k - 1, by omega⟩
   dsimp only
   rw [spec_l20Stream.l0, if_pos (by omega), e2 k (by omega)]; simp only [Option.bind_some]
   rw [if_pos (by omega), if_pos (by rw [ByteArray.size_append]; omega), if_neg c, hw]
   exact e3 k (by omega)
theorem stream_ev (b : List Int) (hb : Lib.Bytes b) (hl : b.length ≤ 2000) (p : Int) (h0 : 0 ≤ p) (h1 : p ≤ 900000) :
  ∃ t p', Ev (fun k => spec_l20Stream.f k b p) (t, p') ∧ t.size ≤ 120 ∧ p < p' ∧ p' ≤ p + 40 := by
 obtain ⟨v1, ⟨K1, e1⟩, a1, b1⟩ := pick_ev b hb hl p 9 h0 (by omega) (by omega)
 obtain ⟨n, rfl⟩ := Int.eq_ofNat_of_zero_le a1
 obtain ⟨t', p', ⟨K2, e2⟩, r1, r2, r3⟩ := stream_l b hb hl n (⟨#[]⟩ : ByteArray) (p + 1) (by decide) (by omega) (by omega) (by omega)
 dsimp only at e1 e2
 refine ⟨t', p', ⟨K1 + K2, fun k hk => ?_⟩, r1, by omega, by omega⟩
 dsimp only
 unfold spec_l20Stream.f
 rw [e1 k (by omega)]; simp only [Option.bind_some]
 exact e2 k (by omega)
theorem streamor_l (b : List Int) (p : Int) : ∀ (n : Nat) (x : ByteArray), x.size ≤ 130 → 121 - x.size ≤ n → ∃ t, (∀ k, n + 1 ≤ k → spec_l20StreamOr.l0 k x b p = some (t, p)) ∧ t.size ≤ 130 := by
 intro n
 induction n with
 | zero =>
  intro x h1 h2
  refine ⟨x, fun k hk => ?_, h1⟩
  obtain ⟨k, rfl⟩ : ∃ k', k = k' + 1 := ⟨k - 1, by omega⟩
  rw [spec_l20StreamOr.l0, if_neg (by omega)]
 | succ n ih =>
  intro x h1 h2
  by_cases c : (x.size : Int) ≤ 120
  ·have hz : (x ++ (⟨#[108, 105, 115, 116, 59]⟩ : ByteArray)).size = x.size + 5 := ByteArray.size_append
   obtain ⟨t, ht, hs⟩ := ih (x ++ (⟨#[108, 105, 115, 116, 59]⟩ : ByteArray)) (by omega) (by omega)
   refine ⟨t, fun k hk => ?_, hs⟩
   obtain ⟨k, rfl⟩ : ∃ k', k = k' + 1 := ⟨k - 1, by omega⟩
   rw [spec_l20StreamOr.l0, if_pos c, if_pos (by omega)]
   exact ht k (by omega)
  ·refine ⟨x, fun k hk => ?_, h1⟩
   obtain ⟨k, rfl⟩ : ∃ k', k = k' + 1 := ⟨k - 1, by omega⟩
   rw [spec_l20StreamOr.l0, if_neg c]
theorem streamor_ev (b : List Int) (hb : Lib.Bytes b) (hl : b.length ≤ 2000) (p n : Int) (h0 : 0 ≤ p) (h1 : p ≤ 800000) (hn : 1 ≤ n) (hn2 : n ≤ 1000000) :
  ∃ t p', Ev (fun k => spec_l20StreamOr.f k b p n) (t, p') ∧ t.size ≤ 140 ∧ p ≤ p' ∧ p' ≤ p + 100 := by
 obtain ⟨s, p1, ⟨K1, e1⟩, hs, g1, g2⟩ := stream_ev b hb hl p h0 (by omega)
 obtain ⟨v, p2, ⟨K2, e2⟩, g3, g4, _⟩ := odd_ev b hb hl p1 n (by omega) (by omega) hn hn2
 dsimp only at e1 e2
 cases v with
 | false =>
  refine ⟨s, p2, ⟨K1 + K2, fun k hk => ?_⟩, by omega, by omega, by omega⟩
  dsimp only
  unfold spec_l20StreamOr.f
  rw [e1 k (by omega), Option.bind_some]; dsimp only
  rw [e2 k (by omega), Option.bind_some]; dsimp only
  rw [if_neg (by decide)]
 | true =>
  obtain ⟨u, ⟨K3, e3⟩, a3, b3⟩ := pick_ev b hb hl p2 3 (by omega) (by omega) (by omega)
  dsimp only at e3
  have go : ∀ t p' K4, t.size ≤ 140 → p ≤ p' → p' ≤ p + 100 → (∀ k, K4 ≤ k → (if u = 0 then ((spec_l20Bent.f k b (p2 + 1) s).bind fun bt200 => (some (bt200.1, bt200.2))) else (if u = 1 then (if s.size + 18 ≤ 9223372036854775807 then (some (s ++ (⟨#[97, 98, 99, 100, 101, 102, 103, 104, 105, 106, 32, 107, 108, 109, 110, 111, 112, 59]⟩ : ByteArray), p2 + 1)) else (none)) else (spec_l20StreamOr.l0 k s b (p2 + 1)))) = some (t, p')) →
    ∃ t p', Ev (fun k => spec_l20StreamOr.f k b p n) (t, p') ∧ t.size ≤ 140 ∧ p ≤ p' ∧ p' ≤ p + 100 := fun t p' K4 ht q1 q2 h =>
   ⟨t, p', ⟨K1 + K2 + K3 + K4, fun k hk => by
    dsimp only
    unfold spec_l20StreamOr.f
    rw [e1 k (by omega), Option.bind_some]; dsimp only
    rw [e2 k (by omega), Option.bind_some]; dsimp only
    rw [if_pos rfl, e3 k (by omega), Option.bind_some]
    exact h k (by omega)⟩, ht, q1, q2⟩
  by_cases c0 : u = 0
  ·obtain ⟨t, ⟨K4, e4⟩, ht⟩ := bent_ev b hb hl (p2 + 1) (by omega) (by omega) s (by omega)
   dsimp only at e4
   exact go t (p2 + 1 + 4) K4 (by omega) (by omega) (by omega) (fun k hk => by rw [if_pos c0, e4 k hk]; rfl)
  ·by_cases c1 : u = 1
   ·exact go (s ++ (⟨#[97, 98, 99, 100, 101, 102, 103, 104, 105, 106, 32, 107, 108, 109, 110, 111, 112, 59]⟩ : ByteArray)) (p2 + 1) 0 (by rw [ByteArray.size_append]; show s.size + 18 ≤ 140; omega) (by omega) (by omega) (fun k hk => by rw [if_neg c0, if_pos c1, if_pos (by omega)])
   ·obtain ⟨t, h4, ht⟩ := streamor_l b (p2 + 1) 121 s (by omega) (by omega)
    exact go t (p2 + 1) 122 (by omega) (by omega) (by omega) (fun k hk => by rw [if_neg c0, if_neg c1, h4 k (by omega)])
theorem lns_len (s : ByteArray) : ∀ (n fr i : Nat), (Str.lns s n fr i).1.length ≤ n := by
 intro n
 induction n with
 | zero => intro fr i; exact Nat.le_refl _
 | succ n ih =>
  intro fr i
  rw [Str.lns]
  split
  ·have := ih (i + 1) (i + 1); simp only [List.length_cons]; omega
  ·have := ih fr (i + 1); omega
theorem lines_l (s : ByteArray) (hs : s.size ≤ 1000000000) : ∀ (n i fr : Nat) (xs : List ByteArray) (k : Nat), i + n = s.size → fr ≤ i → xs.length ≤ i → n + 1 ≤ k →
  spec_StrLines.l0 k s xs (fr : Int) (i : Int) = some (xs ++ (Str.lns s n fr i).1, s.extract (Str.lns s n fr i).2 s.size) := by
 intro n
 induction n with
 | zero =>
  intro i fr xs k hi hf hx hk
  obtain ⟨k, rfl⟩ : ∃ k', k = k' + 1 := ⟨k - 1, by omega⟩
  rw [spec_StrLines.l0, if_neg (by omega), if_pos (by omega), if_pos (by omega), Int.toNat_natCast]
  show _ = some (xs ++ [], s.extract fr s.size)
  rw [List.append_nil]
 | succ n ih =>
  intro i fr xs k hi hf hx hk
  obtain ⟨k, rfl⟩ : ∃ k', k = k' + 1 := ⟨k - 1, by omega⟩
  rw [spec_StrLines.l0, if_pos (by omega), if_pos (by omega), Str.lns]
  by_cases hb : bt s (i : Int) = 59
  ·rw [if_pos hb, if_pos hb, if_pos (by omega), if_pos (by omega), if_pos (by omega), if_pos (by omega), w_upL i (by omega), Int.toNat_natCast, Int.toNat_natCast,
    ih (i + 1) (i + 1) _ k (by omega) (Nat.le_refl _) (by simp; omega) (by omega), List.append_assoc]; rfl
  ·rw [if_neg hb, if_neg hb, w_upL i (by omega), ih (i + 1) fr xs k (by omega) (by omega) (by omega) (by omega)]
theorem lines_ev (s : ByteArray) (hs : s.size ≤ 1000000000) (k : Nat) (hk : s.size + 1 ≤ k) : spec_StrLines.f k s = some (Str.linesV s, s.extract (Str.restP s) s.size) := by
 unfold spec_StrLines.f
 have := lines_l s hs s.size 0 0 [] k (Nat.zero_add _) (Nat.le_refl _) (Nat.zero_le _) hk
 rw [List.nil_append] at this
 exact this
theorem implines_ev (s : ByteArray) (hs : s.size ≤ 1000000000) (k : Nat) (hk : s.size + 1 ≤ k) : impl_StrLines.f k s = some (Str.linesV s, s.extract (Str.restP s) s.size) := by
 unfold impl_StrLines.f
 rw [if_pos (by omega), if_pos (by omega), lines_ev s hs k hk]; rfl
theorem lines_len (s : ByteArray) : (Str.linesV s).length ≤ s.size := lns_len s s.size 0 0
def strOkB (s : ByteArray) : Bool := decide (s.size ≤ 120) && ((Str.linesV s ++ [s.extract (Str.restP s) s.size]).all linOkB)
theorem w_upK (n : Nat) (h : n ≤ 4611686018427387904) : wrap64 ((n : Int) + 1) = ((n + 1 : Nat) : Int) := by
 rw [Lib.wrap_id (by omega) (by omega)]; omega
theorem rdOf_drop (L : List ByteArray) (i : Nat) (h : i < L.length) : L.drop i = rdOf ByteArray.empty L (i : Int) :: L.drop (i + 1) := by
 rw [List.drop_eq_getElem_cons h]
 congr 1
 unfold rdOf
 rw [Int.toNat_natCast, List.getD_eq_getElem?_getD, List.getElem?_eq_getElem h]; rfl
theorem spec_strok_l (L : List ByteArray) (hL : L.length ≤ 1000000000) (r : ByteArray) : ∀ (n i : Nat), i + n = L.length → ∃ K, ∀ k, K ≤ k → spec_StrOk.l0 k L r (i : Int) = some ((L.drop i).all linOkB && linOkB r) := by
 intro n
 induction n with
 | zero =>
  intro i hi
  obtain ⟨K, hK⟩ := spec_lin_ev r
  dsimp only at hK
  refine ⟨K + 1, fun k hk => ?_⟩
  obtain ⟨k, rfl⟩ : ∃ k', k = k' + 1 := ⟨k - 1, by omega⟩
  rw [spec_StrOk.l0, if_neg (by omega), hK k (by omega), List.drop_of_length_le (by omega)]; rfl
 | succ n ih =>
  intro i hi
  obtain ⟨K1, h1⟩ := ih (i + 1) (by omega)
  obtain ⟨K2, h2⟩ := spec_lin_ev (rdOf ByteArray.empty L (i : Int))
  dsimp only at h2
  refine ⟨K1 + K2 + 1, fun k hk => ?_⟩
  obtain ⟨k, rfl⟩ : ∃ k', k = k' + 1 := ⟨k - 1, by omega⟩
  rw [spec_StrOk.l0, if_pos (by omega), if_pos (by omega), h2 k (by omega), Option.bind_some, rdOf_drop L i (by omega), List.all_cons]
  cases hb : linOkB (rdOf ByteArray.empty L (i : Int)) with
  | true => rw [if_pos rfl, w_upK i (by omega), h1 k (by omega), Bool.true_and]
  | false => rw [if_neg (by decide), Bool.false_and, Bool.false_and]
theorem lns_mem' (s : ByteArray) : ∀ (n fr i : Nat) (x : ByteArray), x ∈ (Str.lns s n fr i).1 → x.size ≤ s.size := by
 intro n
 induction n with
 | zero => intro fr i x h; cases h
 | succ n ih =>
  intro fr i x h
  rw [Str.lns] at h
  split at h
  ·rcases List.mem_cons.1 h with h | h
   ·rw [h, ByteArray.size_extract]; omega
   ·exact ih _ _ x h
  ·exact ih _ _ x h
theorem spec_strok_ev (s : ByteArray) (hs : s.size ≤ 1000000000) : Ev (fun k => spec_StrOk.f k s) (strOkB s) := by
 by_cases c : (s.size : Int) > 120
 ·refine ⟨0, fun k _ => ?_⟩
  dsimp only
  unfold spec_StrOk.f strOkB
  rw [if_pos c, decide_eq_false (by omega), Bool.false_and]
 ·have hl := lines_len s
  obtain ⟨K, hK⟩ := spec_strok_l (Str.linesV s) (by omega) (s.extract (Str.restP s) s.size) (Str.linesV s).length 0 (Nat.zero_add _)
  refine ⟨K + s.size + 1, fun k hk => ?_⟩
  dsimp only
  unfold spec_StrOk.f strOkB
  rw [if_neg c, lines_ev s hs k (by omega), Option.bind_some]; dsimp only
  have e := hK k (by omega)
  rw [List.drop_zero] at e
  rw [decide_eq_true (by omega), Bool.true_and, List.all_append, List.all_cons, List.all_nil, Bool.and_true]
  exact e
def nxP (a : Int) (x : ByteArray) : Int := wrap64 ((wrap64 (a + (x.size : Int))) + 1)
/-- The spans of two lists of lines. -/
def prs : List ByteArray → List ByteArray → Int → Int → List S43
 | x :: L, y :: M, a, b => ⟨a, nxP a x, b, nxP b y, (x.toList == y.toList)⟩ :: prs L M (nxP a x) (nxP b y)
 | _, _, _, _ => []
theorem beq_comm' (x y : List UInt8) : (x == y) = (y == x) := by
 rw [Bool.eq_iff_iff, beq_iff_eq, beq_iff_eq]; exact eq_comm
theorem w_upQ (n : Nat) (h : n ≤ 4611686018427387904) : wrap64 ((n : Int) + 1) = ((n + 1 : Nat) : Int) := by
 rw [Lib.wrap_id (by omega) (by omega)]; omega
theorem rdOf_dropQ (L : List ByteArray) (i : Nat) (h : i < L.length) : L.drop i = rdOf ByteArray.empty L (i : Int) :: L.drop (i + 1) := by
 rw [List.drop_eq_getElem_cons h]
 congr 1
 unfold rdOf
 rw [Int.toNat_natCast, List.getD_eq_getElem?_getD, List.getElem?_eq_getElem h]; rfl
theorem prs_end (L M : List ByteArray) (a b : Int) (h : L = [] ∨ M = []) : prs L M a b = [] := by
 rcases h with rfl | rfl
 ·rfl
 ·cases L <;> rfl
theorem prs_len : ∀ (L M : List ByteArray) (a b : Int), (prs L M a b).length = min L.length M.length
 | [], M, a, b => by simp [prs]
 | x :: L, [], a, b => by simp [prs]
 | x :: L, y :: M, a, b => by rw [prs, List.length_cons, prs_len L M, List.length_cons, List.length_cons]; omega
theorem spec_pairs_l (L M : List ByteArray) (hL : L.length ≤ 2000000000) : ∀ (n i k : Nat) (acc : List S43) (a b : Int), i + n = L.length → acc.length ≤ i → n + 1 ≤ k →
  spec_l4Pairs.l0 k L M acc a b (i : Int) = some (acc ++ prs (L.drop i) (M.drop i) a b) := by
 intro n
 induction n with
 | zero =>
  intro i k acc a b hi ha hk
  obtain ⟨k, rfl⟩ : ∃ k', k = k' + 1 := ⟨k - 1, by omega⟩
  rw [spec_l4Pairs.l0, if_neg (by omega), List.drop_of_length_le (by omega), prs_end _ _ _ _ (.inl rfl), List.append_nil]
 | succ n ih =>
  intro i k acc a b hi ha hk
  obtain ⟨k, rfl⟩ : ∃ k', k = k' + 1 := ⟨k - 1, by omega⟩
  rw [spec_l4Pairs.l0, if_pos (by omega)]
  by_cases h : (i : Int) < (M.length : Int)
  ·rw [if_pos h, if_pos (by omega), if_pos (by omega), w_upQ i (by omega), ih (i + 1) k _ _ _ (by omega) (by simp; omega) (by omega), rdOf_dropQ L i (by omega), rdOf_dropQ M i (by omega), prs, List.append_assoc, beq_comm']; rfl
  ·rw [if_neg h, List.drop_of_length_le (show M.length ≤ i by omega), prs_end _ _ _ _ (.inr rfl), List.append_nil]
theorem impl_pairs_l (L M : List ByteArray) (hL : L.length ≤ 2000000000) (m : Nat) (hm : m = min L.length M.length) : ∀ (n i k : Nat) (acc : List S43) (a b : Int), i + n = m → acc.length ≤ i → n + 1 ≤ k →
  impl_spansOf.l0 k L M acc a b (m : Int) (i : Int) = some (acc ++ prs (L.drop i) (M.drop i) a b) := by
 intro n
 induction n with
 | zero =>
  intro i k acc a b hi ha hk
  obtain ⟨k, rfl⟩ : ∃ k', k = k' + 1 := ⟨k - 1, by omega⟩
  rw [impl_spansOf.l0, if_neg (by omega)]
  by_cases h : L.length ≤ M.length
  ·rw [List.drop_of_length_le (show L.length ≤ i by omega), prs_end _ _ _ _ (.inl rfl), List.append_nil]
  ·rw [List.drop_of_length_le (show M.length ≤ i by omega), prs_end _ _ _ _ (.inr rfl), List.append_nil]
 | succ n ih =>
  intro i k acc a b hi ha hk
  obtain ⟨k, rfl⟩ : ∃ k', k = k' + 1 := ⟨k - 1, by omega⟩
  rw [impl_spansOf.l0, if_pos (by omega), if_pos (by omega), if_pos (by omega), if_pos (by omega), if_pos (by omega), w_upQ i (by omega), ih (i + 1) k _ _ _ (by omega) (by simp; omega) (by omega), rdOf_dropQ L i (by omega), rdOf_dropQ M i (by omega), prs, List.append_assoc]; rfl
def pairsV (s t : ByteArray) : List S43 := prs (Str.linesV s) (Str.linesV t) 0 0
theorem spec_both_ev (s t : ByteArray) (hs : s.size ≤ 1000000000) (ht : t.size ≤ 1000000000) (k : Nat) (hk : s.size + t.size + 2 ≤ k) : spec_l4Both.f k s t = some (pairsV s t) := by
 have h1 := lines_len s
 unfold spec_l4Both.f spec_l4Pairs.f
 rw [lines_ev s hs k (by omega), Option.bind_some, lines_ev t ht k (by omega), Option.bind_some]; dsimp only
 have e := spec_pairs_l (Str.linesV s) (Str.linesV t) (by omega) (Str.linesV s).length 0 k [] 0 0 (Nat.zero_add _) (Nat.zero_le _) (by omega)
 rw [List.drop_zero, List.drop_zero, List.nil_append] at e
 rw [show ((0 : Nat) : Int) = 0 from rfl] at e
 rw [e]; rfl
theorem impl_pairs_ev (s t : ByteArray) (hs : s.size ≤ 1000000000) (ht : t.size ≤ 1000000000) (k : Nat) (hk : s.size + t.size + 2 ≤ k) : impl_spansOf.f k s t = some (pairsV s t) := by
 have h1 := lines_len s
 have h2 := lines_len t
 unfold impl_spansOf.f
 rw [implines_ev s hs k (by omega), Option.bind_some, implines_ev t ht k (by omega), Option.bind_some]; dsimp only
 rw [if_pos (by omega)]
 have hm : mn ((Str.linesV s).length : Int) ((Str.linesV t).length : Int) = ((min (Str.linesV s).length (Str.linesV t).length : Nat) : Int) := by unfold mn; split <;> omega
 rw [hm]
 have e := impl_pairs_l (Str.linesV s) (Str.linesV t) (by omega) _ rfl (min (Str.linesV s).length (Str.linesV t).length) 0 k [] 0 0 (Nat.zero_add _) (Nat.zero_le _) (by omega)
 rw [List.drop_zero, List.drop_zero, List.nil_append] at e
 exact e
theorem pairs_len (s t : ByteArray) : (pairsV s t).length ≤ s.size := by
 unfold pairsV
 rw [prs_len]
 have := lines_len s
 omega
theorem impl_pos_ev (s t : ByteArray) (hs : s.size ≤ 1000000000) (ht : t.size ≤ 1000000000) (k : Nat) (hk : s.size + t.size + 2 ≤ k) : impl_PosPairs.f k s t = some (pairsV s t) := by
 unfold impl_PosPairs.f
 rw [impl_pairs_ev s t hs ht k hk]; rfl
theorem w_upB (n : Nat) (h : n ≤ 4611686018427387904) : wrap64 ((n : Int) + 1) = ((n + 1 : Nat) : Int) := by
 rw [Lib.wrap_id (by omega) (by omega)]; omega
/-- Up to where all is there, told of the spans from one on; x: if there are none. -/
def backV : List S43 → Int → Int → Int
 | [], _, x => x
 | p :: R, at_, _ => if at_ ≥ p.f3 then backV R at_ p.f1 else if p.f4 = true then (if at_ > p.f2 then wrap64 ((wrap64 (p.f0 + at_)) - p.f2) else p.f0) else p.f0
theorem dropS (L : List S43) (i : Nat) (h : i < L.length) : L.drop i = rd_T43 L (i : Int) :: L.drop (i + 1) := by
 rw [List.drop_eq_getElem_cons h]
 congr 1
 unfold rd_T43
 rw [Int.toNat_natCast, List.getD_eq_getElem?_getD, List.getElem?_eq_getElem h]; rfl
theorem back_val_l (p : List S43) (at_ : Int) (hp : p.length ≤ 4611686018427387904) : ∀ (n i k : Nat) (x : Int), i + n = p.length → n + 1 ≤ k → spec_l4Back.l0 k p at_ x (i : Int) = some (backV (p.drop i) at_ x) := by
 intro n
 induction n with
 | zero =>
  intro i k x hi hk
  obtain ⟨k, rfl⟩ : ∃ k', k = k' + 1 := ⟨k - 1, by omega⟩
  rw [spec_l4Back.l0, if_neg (by omega), List.drop_of_length_le (by omega)]; rfl
 | succ n ih =>
  intro i k x hi hk
  obtain ⟨k, rfl⟩ : ∃ k', k = k' + 1 := ⟨k - 1, by omega⟩
  rw [spec_l4Back.l0, if_pos (by omega), if_pos (by omega), dropS p i (by omega), backV]
  by_cases c : at_ ≥ (rd_T43 p (i : Int)).f3
  ·rw [if_pos c, if_pos c, w_upB i (by omega), ih (i + 1) k _ (by omega) (by omega)]
  ·rw [if_neg c, if_neg c]
   by_cases c1 : (rd_T43 p (i : Int)).f4 = true
   ·rw [if_pos c1, if_pos c1]
    by_cases c2 : at_ > (rd_T43 p (i : Int)).f2
    ·rw [if_pos c2, if_pos c2]
    ·rw [if_neg c2, if_neg c2]
   ·rw [if_neg c1, if_neg c1]
theorem back_val (p : List S43) (at_ : Int) (hp : p.length ≤ 4611686018427387904) (k : Nat) (hk : p.length + 1 ≤ k) : spec_l4Back.f k p at_ = some (backV p at_ 0) := by
 unfold spec_l4Back.f
 exact back_val_l p at_ hp p.length 0 k 0 (Nat.zero_add _) hk
/-- As many bytes as lines take, each with its sign. -/
def totl : List ByteArray → Int
 | [] => 0
 | x :: L => (x.size : Int) + 1 + totl L
theorem totl_nn : ∀ L, 0 ≤ totl L
 | [] => Int.le_refl _
 | x :: L => by rw [totl]; have := totl_nn L; omega
def endA : List ByteArray → List ByteArray → Int → Int
 | x :: L, _ :: M, a => endA L M (a + (x.size : Int) + 1)
 | _, _, a => a
def endB : List ByteArray → List ByteArray → Int → Int
 | _ :: L, y :: M, b => endB L M (b + (y.size : Int) + 1)
 | _, _, b => b
theorem endB_le : ∀ (L M : List ByteArray) (b : Int), endB L M b ≤ b + totl M
 | [], M, b => by have := totl_nn M; show b ≤ _; omega
 | _ :: _, [], b => by show b ≤ b + 0; omega
 | _ :: L, y :: M, b => by rw [endB, totl]; have := endB_le L M (b + (y.size : Int) + 1); omega
theorem nx_eq (a : Int) (x : ByteArray) (h0 : 0 ≤ a) (h1 : a + (x.size : Int) + 1 ≤ 1000000000000000) : nxP a x = a + (x.size : Int) + 1 := by
 unfold nxP
 rw [Lib.wrap_id (x := a + (x.size : Int)) (by omega) (by omega), Lib.wrap_id (by omega) (by omega)]
theorem same_size {x y : ByteArray} (h : (x.toList == y.toList) = true) : x.size = y.size := by
 have h2 := beq_iff_eq.1 h
 rw [ByteArray.toList_eq, ByteArray.toList_eq] at h2
 have h3 := congrArg List.length h2
 simpa using h3
/-- What one span gives, behind its beginning, and not behind its end. -/
theorem back_in (x y : ByteArray) (a b at_ : Int) (a0 : 0 ≤ a) (b0 : 0 ≤ b) (a1 : a + (x.size : Int) + 1 ≤ 1000000000000000) (b1 : b + (y.size : Int) + 1 ≤ 1000000000000000) (hlt : at_ < b + (y.size : Int) + 1) (v : Int)
  (hv : v = if (x.toList == y.toList) = true then (if at_ > b then wrap64 ((wrap64 (a + at_)) - b) else a) else a) : a ≤ v ∧ v ≤ a + (x.size : Int) ∧ (at_ ≤ b → v = a) ∧ ((x.toList == y.toList) = true → at_ > b → v = a + at_ - b) ∧ (¬ (x.toList == y.toList) = true → v = a) := by
 subst hv
 by_cases c : (x.toList == y.toList) = true
 ·have hs := same_size c
  rw [if_pos c]
  by_cases c2 : at_ > b
  ·rw [if_pos c2, Lib.wrap_id (x := a + at_) (by omega) (by omega), Lib.wrap_id (by omega) (by omega)]
   exact ⟨by omega, by omega, fun h => by omega, fun _ _ => by omega, fun h => absurd c h⟩
  ·rw [if_neg c2]
   exact ⟨by omega, by omega, fun _ => rfl, fun _ h => absurd h c2, fun _ => rfl⟩
 ·rw [if_neg c]
  exact ⟨by omega, by omega, fun _ => rfl, fun h => absurd h c, fun _ => rfl⟩
theorem back_all : ∀ (L M : List ByteArray) (a b : Int), 0 ≤ a → 0 ≤ b → a + totl L ≤ 1000000000000000 → b + totl M ≤ 1000000000000000 →
  (∀ at_, a ≤ backV (prs L M a b) at_ a ∧ backV (prs L M a b) at_ a ≤ endA L M a) ∧ (∀ at_, at_ ≤ b → backV (prs L M a b) at_ a = a) ∧ (∀ p q, p ≤ q → backV (prs L M a b) p a ≤ backV (prs L M a b) q a) ∧ (∀ at_, endB L M b ≤ at_ → backV (prs L M a b) at_ a = endA L M a)
 | [], M, a, b, _, _, _, _ => ⟨fun _ => ⟨Int.le_refl _, Int.le_refl _⟩, fun _ _ => rfl, fun _ _ _ => Int.le_refl _, fun _ _ => rfl⟩
 | _ :: _, [], a, b, _, _, _, _ => ⟨fun _ => ⟨Int.le_refl _, Int.le_refl _⟩, fun _ _ => rfl, fun _ _ _ => Int.le_refl _, fun _ _ => rfl⟩
 | x :: L, y :: M, a, b, a0, b0, a1, b1 => by
  rw [totl] at a1 b1
  have tL := totl_nn L
  have tM := totl_nn M
  obtain ⟨i1, i2, i3, i4⟩ := back_all L M (a + (x.size : Int) + 1) (b + (y.size : Int) + 1) (by omega) (by omega) (by omega) (by omega)
  have e : ∀ at_, backV (prs (x :: L) (y :: M) a b) at_ a = if at_ ≥ b + (y.size : Int) + 1 then backV (prs L M (a + (x.size : Int) + 1) (b + (y.size : Int) + 1)) at_ (a + (x.size : Int) + 1) else (if (x.toList == y.toList) = true then (if at_ > b then wrap64 ((wrap64 (a + at_)) - b) else a) else a) := fun at_ => by
   rw [prs, backV, nx_eq a x a0 (by omega), nx_eq b y b0 (by omega)]
  have hin := fun at_ (h : at_ < b + (y.size : Int) + 1) => back_in x y a b at_ a0 b0 (by omega) (by omega) h _ rfl
  have hend : a + (x.size : Int) + 1 ≤ endA L M (a + (x.size : Int) + 1) := by have := i1 0; omega
  refine ⟨fun at_ => ?_, fun at_ h => ?_, fun p q h => ?_, fun at_ h => ?_⟩
  ·rw [e, endA]
   by_cases c : at_ ≥ b + (y.size : Int) + 1
   ·rw [if_pos c]; have := i1 at_; omega
   ·rw [if_neg c]; have := hin at_ (by omega); omega
  ·rw [e, if_neg (by omega)]
   exact (hin at_ (by omega)).2.2.1 h
  ·rw [e, e]
   by_cases c : q ≥ b + (y.size : Int) + 1
   ·rw [if_pos c]
    by_cases c2 : p ≥ b + (y.size : Int) + 1
    ·rw [if_pos c2]; exact i3 p q h
    ·rw [if_neg c2]; have h1 := hin p (by omega); have h2 := i1 q; omega
   ·rw [if_neg c, if_neg (show ¬ p ≥ b + (y.size : Int) + 1 by omega)]
    have h1 := hin p (by omega)
    have h2 := hin q (by omega)
    by_cases c3 : p ≤ b
    ·rw [h1.2.2.1 c3]; exact h2.1
    ·by_cases c4 : (x.toList == y.toList) = true
     ·rw [h1.2.2.2.1 c4 (by omega), h2.2.2.2.1 c4 (by omega)]; omega
     ·rw [h1.2.2.2.2 c4]; exact h2.1
  ·rw [endB] at h
   have hb := endB_ge L M (b + (y.size : Int) + 1)
   rw [e, if_pos (by omega), endA]
   exact i4 at_ h
where
 endB_ge : ∀ (L M : List ByteArray) (b : Int), b ≤ endB L M b
  | [], M, b => Int.le_refl _
  | _ :: _, [], b => Int.le_refl _
  | _ :: L, y :: M, b => by rw [endB]; have := endB_ge L M (b + (y.size : Int) + 1); omega
theorem last_end : ∀ (L M : List ByteArray) (a b : Int), 0 ≤ a → a + totl L ≤ 1000000000000000 → ∀ n : Nat, (prs L M a b).length = n + 1 → (rd_T43 (prs L M a b) (n : Int)).f1 = endA L M a
 | [], M, a, b, _, _, n, h => by simp [prs] at h
 | _ :: _, [], a, b, _, _, n, h => by simp [prs] at h
 | x :: L, y :: M, a, b, a0, a1, n, h => by
  rw [totl] at a1
  have tL := totl_nn L
  rw [prs, List.length_cons] at h
  rw [prs, endA, nx_eq a x a0 (by omega)]
  cases n with
  | zero =>
   have hl := prs_len L M (a + (x.size : Int) + 1) (nxP b y)
   have hz : (prs L M (a + (x.size : Int) + 1) (nxP b y)).length = 0 := by rw [nx_eq a x a0 (by omega)] at h; omega
   have he : endA L M (a + (x.size : Int) + 1) = a + (x.size : Int) + 1 := by
    cases L with
    | nil => rfl
    | cons _ L =>
     cases M with
     | nil => rfl
     | cons _ M => rw [hz] at hl; simp at hl
   rw [he]; rfl
  | succ n =>
   have ih := last_end L M (a + (x.size : Int) + 1) (nxP b y) (by omega) (by omega) n (by rw [nx_eq a x a0 (by omega)] at h; omega)
   rw [← ih]
   unfold rd_T43
   rw [Int.toNat_natCast, Int.toNat_natCast, List.getD_eq_getElem?_getD, List.getD_eq_getElem?_getD, List.getElem?_cons_succ]
theorem lns_totl (s : ByteArray) : ∀ (n fr i : Nat), i + n = s.size → fr ≤ i → totl (Str.lns s n fr i).1 ≤ ((i + n : Nat) : Int) - (fr : Int) := by
 intro n
 induction n with
 | zero => intro fr i hi hf; show (0 : Int) ≤ _; omega
 | succ n ih =>
  intro fr i hi hf
  rw [Str.lns]
  split
  ·have := ih (i + 1) (i + 1) (by omega) (Nat.le_refl _)
   rw [totl, ByteArray.size_extract]
   omega
  ·have := ih fr (i + 1) (by omega) (by omega)
   omega
theorem lines_tot (s : ByteArray) : totl (Str.linesV s) ≤ (s.size : Int) := by
 have := lns_totl s s.size 0 0 (Nat.zero_add _) (Nat.le_refl _)
 unfold Str.linesV
 omega
theorem impl_there_ev (s t : ByteArray) (at_ : Int) (hs : s.size ≤ 1000000000) (ht : t.size ≤ 1000000000) (k : Nat) (hk : s.size + t.size + 10 ≤ k) : impl_PosThere.f k s t at_ = some (backV (pairsV s t) at_ 0) := by
 have hl := pairs_len s t
 unfold impl_PosThere.f
 rw [impl_pairs_ev s t hs ht _ (by omega), Option.bind_some, back_val _ _ (by omega) _ (by omega), Option.bind_some]
theorem spec_there_ev (s t : ByteArray) (at_ : Int) (hs : s.size ≤ 1000000000) (ht : t.size ≤ 1000000000) (k : Nat) (hk : s.size + t.size + 10 ≤ k) : spec_PosThere.f k s t at_ = some (backV (pairsV s t) at_ 0) := by
 have hl := pairs_len s t
 unfold spec_PosThere.f
 rw [spec_both_ev s t hs ht _ (by omega), Option.bind_some, back_val _ _ (by omega) _ (by omega), Option.bind_some]
/-- Where an end stands, counted from i. -/
def fnd : List S80 → Int → Int → Int → Int
 | [], _, _, _ => -1
 | x :: L, a, p, i => if x.f0 = a ∧ x.f1 = p then i else fnd L a p (i + 1)
theorem fnd_ge : ∀ (L : List S80) (a p i : Int), 0 ≤ i → fnd L a p i = -1 ∨ i ≤ fnd L a p i ∧ fnd L a p i < i + L.length
 | [], _, _, _, _ => .inl rfl
 | x :: L, a, p, i, h => by
  rw [fnd]
  by_cases c : x.f0 = a ∧ x.f1 = p
  ·rw [if_pos c]; exact .inr ⟨Int.le_refl _, by simp; omega⟩
  ·rw [if_neg c]
   rcases fnd_ge L a p (i + 1) (by omega) with h1 | h1
   ·exact .inl h1
   ·exact .inr ⟨by omega, by simp; omega⟩
theorem drop_T (L : List S80) (i : Nat) (h : i < L.length) : L.drop i = rd_T80 L (i : Int) :: L.drop (i + 1) := by
 rw [List.drop_eq_getElem_cons h]
 congr 1
 unfold rd_T80
 rw [Int.toNat_natCast, List.getD_eq_getElem?_getD, List.getElem?_eq_getElem h]; rfl
theorem w_upM (n : Nat) (h : n ≤ 4611686018427387904) : wrap64 ((n : Int) + 1) = ((n + 1 : Nat) : Int) := by
 rw [Lib.wrap_id (by omega) (by omega)]; omega
theorem find_l (L : List S80) (a p : Int) (hL : L.length ≤ 4611686018427387904) : ∀ (n i k : Nat), i + n = L.length → n + 1 ≤ k → spec_l3Find.l0 k (i : Int) L a p = some (fnd (L.drop i) a p (i : Int)) := by
 intro n
 induction n with
 | zero =>
  intro i k hi hk
  obtain ⟨k, rfl⟩ : ∃ k', k = k' + 1 := ⟨k - 1, by omega⟩
  rw [spec_l3Find.l0, if_neg (by omega), List.drop_of_length_le (by omega)]; rfl
 | succ n ih =>
  intro i k hi hk
  obtain ⟨k, rfl⟩ : ∃ k', k = k' + 1 := ⟨k - 1, by omega⟩
  rw [spec_l3Find.l0, if_pos (by omega), if_pos (by omega), drop_T L i (by omega), fnd]
  by_cases c : (rd_T80 L (i : Int)).f0 = a ∧ (rd_T80 L (i : Int)).f1 = p
  ·rw [if_pos c, if_pos (by simp [c])]
  ·rw [if_neg c, if_neg (by simpa using c), w_upM i (by omega), ih (i + 1) k (by omega) (by omega)]; rfl
theorem find_ev (L : List S80) (a p : Int) (hL : L.length ≤ 4611686018427387904) (k : Nat) (hk : L.length + 1 ≤ k) : spec_l3Find.f k L a p = some (fnd L a p 0) := by
 unfold spec_l3Find.f
 have := find_l L a p hL L.length 0 k (Nat.zero_add _) hk
 simpa using this
def insB (a p : Int) : Bool := decide ((1 ≤ a ∧ a ≤ 9) ∧ 1 ≤ p ∧ p ≤ 999)
theorem spec_ins (a p : Int) : spec_EndInside.f a p = some (insB a p) := by
 simp only [spec_EndInside.f, spec_l1In.f, insB]
 by_cases h1 : a ≥ 1 <;> by_cases h2 : a ≤ 9 <;> by_cases h3 : p ≥ 1 <;> by_cases h4 : p ≤ 999 <;> simp [h1, h2, h3, h4] <;> omega
/-- From i on, n ends: each inside, and none that stands ahead of it. -/
def okF (L : List S80) : Nat → Nat → Bool
 | 0, _ => true
 | n + 1, i => insB (rd_T80 L (i : Int)).f0 (rd_T80 L (i : Int)).f1 && (decide (fnd (L.take i) (rd_T80 L (i : Int)).f0 (rd_T80 L (i : Int)).f1 0 < 0) && okF L n (i + 1))
def mapOkB (L : List S80) : Bool := decide (L.length ≤ 6) && okF L L.length 0
theorem spec_ok_l (L : List S80) (hL : L.length ≤ 4611686018427387904) : ∀ (n i k : Nat), i + n = L.length → L.length + n + 2 ≤ k → spec_MapOk.l0 k (i : Int) L = some (okF L n i) := by
 intro n
 induction n with
 | zero =>
  intro i k hi hk
  obtain ⟨k, rfl⟩ : ∃ k', k = k' + 1 := ⟨k - 1, by omega⟩
  rw [spec_MapOk.l0, if_neg (by omega)]; rfl
 | succ n ih =>
  intro i k hi hk
  obtain ⟨k, rfl⟩ : ∃ k', k = k' + 1 := ⟨k - 1, by omega⟩
  rw [spec_MapOk.l0, if_pos (by omega), if_pos (by omega), spec_ins, Option.bind_some, okF]
  cases c : insB (rd_T80 L (i : Int)).f0 (rd_T80 L (i : Int)).f1 with
  | false => rw [if_neg (by decide)]; rfl
  | true =>
   rw [if_pos rfl, if_pos (by omega), Int.toNat_natCast, find_ev _ _ _ (by simp; omega) k (by simp; omega), Option.bind_some]
   by_cases d : fnd (L.take i) (rd_T80 L (i : Int)).f0 (rd_T80 L (i : Int)).f1 0 ≥ 0
   ·rw [if_pos d, decide_eq_false (by omega)]; rfl
   ·rw [if_neg d, w_upM i (by omega), ih (i + 1) k (by omega) (by omega), decide_eq_true (by omega)]; rfl
theorem spec_ok_ev (L : List S80) (hL : L.length ≤ 4611686018427387904) (k : Nat) (hk : 2 * L.length + 2 ≤ k) : spec_MapOk.f k L = some (mapOkB L) := by
 unfold spec_MapOk.f mapOkB
 by_cases c : (L.length : Int) > 6
 ·rw [if_pos c, decide_eq_false (by omega)]; rfl
 ·rw [if_neg c, decide_eq_true (by omega)]
  exact spec_ok_l L hL L.length 0 k (Nat.zero_add _) (by omega)
theorem put_ev (L : List S80) (a p : Int) (hL : L.length ≤ 100) : ∃ M v, (∀ k, 300 ≤ k → spec_MapPut.f k L a p = some (M, v)) ∧ M.length ≤ 7 := by
 have j0 : ∀ (t : Bool), (t = false → mapOkB L = true) → ∃ M v, (∀ k, 299 ≤ k → spec_MapPut.j0 (k + 1) t L a p = some (M, v)) ∧ M.length ≤ 7 := fun t ht => by
  cases t with
  | true => exact ⟨[], 0, fun k hk => by rw [spec_MapPut.j0, if_pos rfl], by simp⟩
  | false =>
   have hok := ht rfl
   have h6 : L.length ≤ 6 := by
    unfold mapOkB at hok
    rw [Bool.and_eq_true] at hok
    exact of_decide_eq_true hok.1
   have hc : spec_l3Copy.f L = some L := by
    unfold spec_l3Copy.f
    rw [Option.bind_some, if_pos (by simp; omega)]; rfl
   have hp : ∃ M v, (∀ k, 299 ≤ k → spec_l3Put.f k L a p = some (M, v)) ∧ M.length ≤ 7 := by
    by_cases c : fnd L a p 0 < 0
    ·have e : ∀ k, 299 ≤ k → spec_MapPort.f k L a p = some 0 := fun k hk => by
      unfold spec_MapPort.f
      rw [find_ev L a p (by omega) k (by omega), Option.bind_some, if_pos c]
     by_cases c6 : L.length = 6
     ·exact ⟨L, 0, fun k hk => by
       unfold spec_l3Put.f
       rw [e k hk, Option.bind_some, if_neg (by decide), if_pos (by omega)], by omega⟩
     ·exact ⟨[] ++ L ++ [⟨a, p⟩], wrap64 ((wrap64 (500 + (([] ++ L ++ [(⟨a, p⟩ : S80)]).length : Int))) - 1), fun k hk => by
       unfold spec_l3Put.f
       rw [e k hk, Option.bind_some, if_neg (by decide), if_neg (by omega)]
       simp only [Option.bind_some]
       rw [if_pos (by simp; omega), if_pos (by simp; omega)], by simp; omega⟩
    ·rcases fnd_ge L a p 0 (Int.le_refl _) with h | h
     ·omega
     ·exact ⟨L, 500 + fnd L a p 0, fun k hk => by
       unfold spec_l3Put.f spec_MapPort.f
       rw [find_ev L a p (by omega) k (by omega), Option.bind_some, if_neg c, Option.bind_some, Lib.wrap_id (by omega) (by omega), if_pos (by omega)], by omega⟩
   obtain ⟨M, v, hM, hl⟩ := hp
   exact ⟨M, v, fun k hk => by
    rw [spec_MapPut.j0, if_neg (by decide), hc, Option.bind_some, hM k hk]; rfl, hl⟩
 have hend := spec_ins a p
 cases hk : mapOkB L with
 | false =>
  obtain ⟨M, v, h1, h2⟩ := j0 true (fun h => by cases h)
  exact ⟨M, v, fun k hk2 => by
   obtain ⟨k, rfl⟩ : ∃ m, k = m + 1 := ⟨k - 1, by omega⟩
   unfold spec_MapPut.f
   rw [spec_ok_ev L (by omega) _ (by omega), Option.bind_some, hk, if_neg (by decide), h1 k (by omega)], h2⟩
 | true =>
  obtain ⟨M, v, h1, h2⟩ := j0 (!insB a p) (fun _ => hk)
  exact ⟨M, v, fun k hk2 => by
   obtain ⟨k, rfl⟩ : ∃ m, k = m + 1 := ⟨k - 1, by omega⟩
   unfold spec_MapPut.f
   rw [spec_ok_ev L (by omega) _ (by omega), Option.bind_some, hk, if_pos rfl, hend, Option.bind_some, h1 k (by omega)], h2⟩
theorem table_l1 (b : List Int) (p : Int) : ∀ (n : Nat) (L : List S80), L.length + n = 7 → ∃ M, (∀ k, n + 1 ≤ k → spec_l20Table.l1 k b p L = some (M, p)) ∧ M.length ≤ 9 := by
 intro n
 induction n with
 | zero =>
  intro L hL
  exact ⟨L, fun k hk => by
   obtain ⟨k, rfl⟩ : ∃ m, k = m + 1 := ⟨k - 1, by omega⟩
   rw [spec_l20Table.l1, if_neg (by omega)], by omega⟩
 | succ n ih =>
  intro L hL
  obtain ⟨M, h1, h2⟩ := ih (L ++ [⟨8, wrap64 (1 + (L.length : Int))⟩]) (by simp; omega)
  exact ⟨M, fun k hk => by
   obtain ⟨k, rfl⟩ : ∃ m, k = m + 1 := ⟨k - 1, by omega⟩
   rw [spec_l20Table.l1, if_pos (by omega), if_pos (by omega), h1 k (by omega)], h2⟩
theorem table_l (b : List Int) (hb : Lib.Bytes b) (hl : b.length ≤ 2000) (x : Int) (hx : 1 ≤ x) (hx2 : x ≤ 1000000) : ∀ (n : Nat) (L : List S80) (p : Int), L.length ≤ 7 → 0 ≤ p → p + 3 * n ≤ 700000 →
  ∃ M p' K, (∀ k, K ≤ k → spec_l20Table.l0 k x (n : Int) b p L = some (M, p')) ∧ M.length ≤ 9 ∧ p ≤ p' ∧ p' ≤ p + 3 * n + 10 := by
 intro n
 induction n with
 | zero =>
  intro L p hL h0 h1
  obtain ⟨v, p1, ⟨K1, e1⟩, g1, g2, _⟩ := odd_ev b hb hl p x (by omega) (by omega) hx hx2
  dsimp only at e1
  cases v with
  | false => exact ⟨L, p1, K1 + 1, fun k hk => by
    obtain ⟨k, rfl⟩ : ∃ m, k = m + 1 := ⟨k - 1, by omega⟩
    rw [spec_l20Table.l0, if_neg (by decide), e1 k (by omega), Option.bind_some]; dsimp only; rw [if_neg (by decide)], by omega, by omega, by omega⟩
  | true =>
   obtain ⟨u, ⟨K2, e2⟩, a2, b2⟩ := pick_ev b hb hl p1 3 (by omega) (by omega) (by omega)
   dsimp only at e2
   by_cases c0 : u = 0
   ·obtain ⟨a, q, ⟨K3, e3⟩, _⟩ := out_ev b hb hl (p1 + 1) (by omega) (by omega)
    dsimp only at e3
    exact ⟨L ++ [⟨a, q⟩], p1 + 1 + 2, K1 + K2 + K3 + 1, fun k hk => by
     obtain ⟨k, rfl⟩ : ∃ m, k = m + 1 := ⟨k - 1, by omega⟩
     rw [spec_l20Table.l0, if_neg (by decide), e1 k (by omega), Option.bind_some]; dsimp only
     rw [if_pos rfl, e2 k (by omega), Option.bind_some]; dsimp only
     rw [if_pos c0, e3 k (by omega), Option.bind_some]; dsimp only
     rw [if_pos (by omega)], by simp; omega, by omega, by omega⟩
   ·by_cases c1 : u = 1
    ·exact ⟨L ++ [⟨9, 9⟩] ++ [⟨9, 9⟩], p1 + 1, K1 + K2 + 1, fun k hk => by
      obtain ⟨k, rfl⟩ : ∃ m, k = m + 1 := ⟨k - 1, by omega⟩
      rw [spec_l20Table.l0, if_neg (by decide), e1 k (by omega), Option.bind_some]; dsimp only
      rw [if_pos rfl, e2 k (by omega), Option.bind_some]; dsimp only
      rw [if_neg c0, if_pos c1, if_pos (by omega), Option.bind_some, if_pos (by simp; omega)], by simp; omega, by omega, by omega⟩
    ·obtain ⟨M, h3, h4⟩ := table_l1 b (p1 + 1) (7 - L.length) L (by omega)
     exact ⟨M, p1 + 1, K1 + K2 + 9, fun k hk => by
      obtain ⟨k, rfl⟩ : ∃ m, k = m + 1 := ⟨k - 1, by omega⟩
      rw [spec_l20Table.l0, if_neg (by decide), e1 k (by omega), Option.bind_some]; dsimp only
      rw [if_pos rfl, e2 k (by omega), Option.bind_some]; dsimp only
      rw [if_neg c0, if_neg c1, h3 k (by omega)], h4, by omega, by omega⟩
 | succ n ih =>
  intro L p hL h0 h1
  obtain ⟨a, q, ⟨K1, e1⟩, _⟩ := in_ev b hb hl p h0 (by omega)
  dsimp only at e1
  obtain ⟨M, v, h2, hM⟩ := put_ev L a q (by omega)
  obtain ⟨M2, p2, K3, h3, h4, h5, h6⟩ := ih M (p + 3) hM (by omega) (by omega)
  refine ⟨M2, p2, K1 + K3 + 301, fun k hk => ?_, h4, by omega, by omega⟩
  obtain ⟨k, rfl⟩ : ∃ m, k = m + 1 := ⟨k - 1, by omega⟩
  have hw : wrap64 (((n + 1 : Nat) : Int) - 1) = (n : Int) := by rw [Lib.wrap_id (by omega) (by omega)]; omega
  rw [spec_l20Table.l0, if_pos (by omega), e1 k (by omega), Option.bind_some]; dsimp only
  rw [h2 k (by omega), Option.bind_some]; dsimp only
  rw [hw, h3 k (by omega)]
theorem table_ev (b : List Int) (hb : Lib.Bytes b) (hl : b.length ≤ 2000) (p x : Int) (h0 : 0 ≤ p) (h1 : p ≤ 600000) (hx : 1 ≤ x) (hx2 : x ≤ 1000000) :
  ∃ M p', Ev (fun k => spec_l20Table.f k b p x) (M, p') ∧ M.length ≤ 9 ∧ p ≤ p' ∧ p' ≤ p + 40 := by
 obtain ⟨v, ⟨K1, e1⟩, a1, b1⟩ := pick_ev b hb hl p 8 (by omega) (by omega) (by omega)
 dsimp only at e1
 obtain ⟨n, rfl⟩ := Int.eq_ofNat_of_zero_le a1
 obtain ⟨M, p', K2, h2, h3, h4, h5⟩ := table_l b hb hl x hx hx2 n [] (p + 1) (by simp) (by omega) (by omega)
 refine ⟨M, p', ⟨K1 + K2, fun k hk => ?_⟩, h3, by omega, by omega⟩
 dsimp only
 unfold spec_l20Table.f
 rw [e1 k (by omega), Option.bind_some]; dsimp only
 rw [h2 k (by omega)]
theorem w_upR (n : Nat) (h : n ≤ 4611686018427387904) : wrap64 ((n : Int) + 1) = ((n + 1 : Nat) : Int) := by
 rw [Lib.wrap_id (by omega) (by omega)]; omega
/-- The words of a text from the place i on, n bytes; x: what the first of them has so far. -/
def wds (s : ByteArray) : Nat → ByteArray → Nat → List ByteArray
 | 0, x, _ => [x]
 | n + 1, x, i => if bt s (i : Int) = 32 then x :: wds s n ⟨#[]⟩ (i + 1) else wds s n (x ++ s.extract i (i + 1)) (i + 1)
theorem words_all (s : ByteArray) (hs : s.size ≤ 1048576) : ∀ (n i k : Nat) (L : List ByteArray) (x : ByteArray), i + n = s.size → L.length ≤ i → x.size ≤ i → n + 1 ≤ k → spec_l1Words.l0 k s L x (i : Int) = some (L ++ wds s n x i) := by
 intro n
 induction n with
 | zero =>
  intro i k L x hi hL hx hk
  obtain ⟨k, rfl⟩ : ∃ m, k = m + 1 := ⟨k - 1, by omega⟩
  rw [spec_l1Words.l0, if_neg (by omega), if_pos (by omega)]; rfl
 | succ n ih =>
  intro i k L x hi hL hx hk
  obtain ⟨k, rfl⟩ : ∃ m, k = m + 1 := ⟨k - 1, by omega⟩
  rw [spec_l1Words.l0, if_pos (by omega), if_pos (by omega), w_upR i (by omega), wds]
  by_cases hb : bt s (i : Int) = 32
  ·rw [if_pos hb, if_pos hb, if_pos (by omega), ih (i + 1) k _ _ (by omega) (by simp; omega) (by show 0 ≤ _; omega) (by omega), List.append_assoc]; rfl
  ·rw [if_neg hb, if_neg hb, if_pos (by omega), if_pos (by omega), Int.toNat_natCast, Int.toNat_natCast]
   have hz : (s.extract i (i + 1)).size = 1 := by rw [ByteArray.size_extract]; omega
   rw [if_pos (by omega), ih (i + 1) k _ _ (by omega) (by omega) (by rw [ByteArray.size_append]; omega) (by omega)]
theorem num_step (k : Nat) (w : ByteArray) (n : Int) (i : Nat) (d : Int) (hi : i < w.size) (hs : w.size ≤ 100) (hb : bt w (i : Int) = 48 + d) (d0 : 0 ≤ d) (d1 : d ≤ 9) (n0 : 0 ≤ n) (n1 : n ≤ 100000) :
  spec_l1Num.l0 (k + 1) w n (i : Int) = spec_l1Num.l0 k w (n * 10 + d) ((i + 1 : Nat) : Int) := by
 rw [spec_l1Num.l0, if_pos (by omega), if_pos (by omega), hb, if_neg (by omega), if_neg (by omega), show (48 + d - 48) % 256 = d by omega, Lib.wrap_id (x := n * 10) (by omega) (by omega), Lib.wrap_id (x := n * 10 + d) (by omega) (by omega), w_upR i (by omega)]
/-! the reference's reading is total -/
theorem plain_tot : ∀ (k : Nat) (n : Int) (x : ByteArray), k ≤ 3 → 0 ≤ n → n ≤ (if k = 0 then 9 else if k = 1 then 99 else if k = 2 then 999 else 9999) → x.size + k ≤ 100 → ∃ t, spec_l1Plain.l0 (k + 1) n x = some t := by
 intro k
 induction k with
 | zero => intro n x _ h0 h1 hx; exact ⟨_, plain_last 0 n x h0 (by simpa using h1) (by omega)⟩
 | succ k ih =>
  intro n x hk h0 h1 hx
  by_cases c : 9 < n
  ·have hn : n ≤ 9999 := by split at h1 <;> (try split at h1) <;> (try split at h1) <;> omega
   rw [plain_step (k + 1) n x c (by omega) (by omega)]
   refine ih (n / 10) _ (by omega) (by omega) ?_ (by rw [ByteArray.size_append]; show 1 + x.size + k ≤ 100; omega)
   match k, hk with
   | 0, _ => simp at h1 ⊢; omega
   | 1, _ => simp at h1 ⊢; omega
   | 2, _ => simp at h1 ⊢; omega
  ·exact ⟨_, plain_last (k + 1) n x h0 (by omega) (by omega)⟩
theorem plain_all (n : Int) (h0 : 0 ≤ n) (h1 : n ≤ 9999) (k : Nat) (hk : 4 ≤ k) : ∃ t, spec_l1Plain.f k n = some t := by
 obtain ⟨t, ht⟩ := plain_tot 3 n ⟨#[]⟩ (by omega) h0 (by simpa using h1) (by show 0 + 3 ≤ 100; omega)
 exact ⟨t, at_rounds (g := fun k => spec_l1Plain.f k n) (spec_l1Plain.mono n) hk ht⟩
theorem num_tot (w : ByteArray) (hw : w.size ≤ 4) : ∀ (m i k : Nat) (n : Int), i + m = w.size → 0 ≤ n → n ≤ (if m = 0 then 9999 else if m = 1 then 999 else if m = 2 then 99 else if m = 3 then 9 else 0) → m + 5 ≤ k → ∃ v, spec_l1Num.l0 k w n (i : Int) = some v := by
 intro m
 induction m with
 | zero =>
  intro i k n hi h0 h1 hk
  obtain ⟨k, rfl⟩ : ∃ j, k = j + 1 := ⟨k - 1, by omega⟩
  rw [spec_l1Num.l0, if_neg (by omega)]
  obtain ⟨t, ht⟩ := plain_all n h0 (by simpa using h1) k (by omega)
  rw [ht, Option.bind_some]
  by_cases c : t.toList = w.toList
  ·rw [if_pos c]; exact ⟨_, rfl⟩
  ·rw [if_neg c]; exact ⟨_, rfl⟩
 | succ m ih =>
  intro i k n hi h0 h1 hk
  obtain ⟨k, rfl⟩ : ∃ j, k = j + 1 := ⟨k - 1, by omega⟩
  have hn : n ≤ 9999 := by split at h1 <;> (try split at h1) <;> (try split at h1) <;> (try split at h1) <;> omega
  by_cases c2 : bt w (i : Int) < 48
  ·exact ⟨-1, by rw [spec_l1Num.l0, if_pos (by omega), if_pos (by omega), if_pos c2]⟩
  ·by_cases c3 : bt w (i : Int) > 57
   ·exact ⟨-1, by rw [spec_l1Num.l0, if_pos (by omega), if_pos (by omega), if_neg c2, if_pos c3]⟩
   ·have hm : m ≤ 3 := by omega
    obtain ⟨d, hd⟩ : ∃ d, d = bt w (i : Int) - 48 := ⟨_, rfl⟩
    rw [num_step k w n i d (by omega) (by omega) (by omega) (by omega) (by omega) h0 (by omega)]
    refine ih (i + 1) k _ (by omega) (by omega) ?_ (by omega)
    match m, hm with
    | 0, _ => simp at h1 ⊢; omega
    | 1, _ => simp at h1 ⊢; omega
    | 2, _ => simp at h1 ⊢; omega
    | 3, _ => simp at h1 ⊢; omega
theorem num_all (w : ByteArray) (k : Nat) (hk : 12 ≤ k) : ∃ v, spec_l1Num.f k w = some v := by
 obtain ⟨k, rfl⟩ : ∃ j, k = j + 1 := ⟨k - 1, by omega⟩
 have h1 : spec_l1Num.j0 (k + 1) w true = some (-1) := by rw [spec_l1Num.j0, if_pos rfl]
 unfold spec_l1Num.f
 by_cases c : (w.size : Int) = 0
 ·rw [if_pos c]; exact ⟨_, h1⟩
 ·rw [if_neg c]
  by_cases c4 : (w.size : Int) > 4
  ·rw [decide_eq_true c4]; exact ⟨_, h1⟩
  ·rw [decide_eq_false c4, spec_l1Num.j0, if_neg (by decide)]
   refine num_tot w (by omega) w.size 0 k 0 (Nat.zero_add _) (by omega) ?_ (by omega)
   split <;> (try split) <;> (try split) <;> (try split) <;> omega
theorem read_all (s : ByteArray) (hs : s.size ≤ 1048576) (k : Nat) (hk : s.size + 20 ≤ k) : ∃ r, spec_EndRead.f k s = some r := by
 unfold spec_EndRead.f spec_l1Words.f
 have hw := words_all s hs s.size 0 k [] ⟨#[]⟩ (Nat.zero_add _) (Nat.zero_le _) (by show 0 ≤ 0; omega) (by omega)
 rw [show ((0 : Nat) : Int) = 0 from rfl] at hw
 rw [hw, Option.bind_some]
 by_cases c : (([] ++ wds s s.size ⟨#[]⟩ 0 : List ByteArray).length : Int) = 2
 ·rw [if_pos c, if_pos (by omega)]
  obtain ⟨v1, e1⟩ := num_all (rdOf ByteArray.empty ([] ++ wds s s.size ⟨#[]⟩ 0) 0) k (by omega)
  obtain ⟨v2, e2⟩ := num_all (rdOf ByteArray.empty ([] ++ wds s s.size ⟨#[]⟩ 0) 1) k (by omega)
  rw [e1, Option.bind_some, if_pos (by omega), e2, Option.bind_some, spec_end, Option.bind_some]
  by_cases c2 : decide (endOkP v1 v2) = true
  ·rw [if_pos c2]; exact ⟨_, rfl⟩
  ·rw [if_neg c2]; exact ⟨_, rfl⟩
 ·rw [if_neg c]; exact ⟨_, rfl⟩
theorem ha_ev : Ev (fun k => laws_haOk.f k) true := by
 have lin_a : linOkB (⟨#[97]⟩ : ByteArray) = true := by decide
 obtain ⟨K, h⟩ := impl_lin_ev (⟨#[97]⟩ : ByteArray) (by decide)
 refine ⟨K, fun k hk => ?_⟩
 dsimp only at h ⊢
 unfold laws_haOk.f
 rw [h k hk, lin_a]; rfl
/-! A stream as it goes outside: it comes to an end, and is no longer than so much. -/
theorem says_tot (s : ByteArray) (hs : s.size ≤ 1048576) : ∃ x y b, Ev (fun k => spec_LinSays.f k s) (x, y, b) := by
 have hr : ∃ r, spec_LinSays.f (s.size + 21) s = some r := by
  have ht : ∃ r, spec_LinSays.j0 (s.size + 21) s true = some r := ⟨_, by rw [spec_LinSays.j0, if_pos rfl]⟩
  unfold spec_LinSays.f
  by_cases c : (s.size : Int) < 5
  ·rw [if_pos c]; exact ht
  ·rw [if_neg c, if_pos (by omega), if_pos (by omega)]
   cases hp : ((s.extract 0 5).toList != ([112, 111, 114, 116, 32] : List UInt8)) with
   | true => exact ht
   | false =>
    rw [spec_LinSays.j0, if_neg (by decide), if_pos (by omega)]
    have hz : (s.extract 5 s.size).size ≤ s.size := by rw [ByteArray.size_extract]; omega
    obtain ⟨⟨u, v, b⟩, e⟩ := read_all (s.extract 5 s.size) (by omega) (s.size + 20) (by omega)
    rw [e, Option.bind_some, spec_ins, Option.bind_some]
    by_cases c2 : b = true
    ·rw [if_pos c2]
     by_cases c3 : insB u v = true
     ·rw [if_pos c3]; exact ⟨_, rfl⟩
     ·rw [if_neg c3]; exact ⟨_, rfl⟩
    ·rw [if_neg c2]; exact ⟨_, rfl⟩
 obtain ⟨⟨x, y, b⟩, h⟩ := hr
 exact ⟨x, y, b, Ev.of (k := s.size + 21) (spec_LinSays.mono s) h⟩
theorem l3put_ev (L : List S80) (a p : Int) (hL : L.length ≤ 6) : ∃ M v, (∀ k, 300 ≤ k → spec_l3Put.f k L a p = some (M, v)) ∧ M.length ≤ 6 := by
 by_cases c : fnd L a p 0 < 0
 ·have e : ∀ k, 299 ≤ k → spec_MapPort.f k L a p = some 0 := fun k hk => by
   unfold spec_MapPort.f
   rw [find_ev L a p (by omega) k (by omega), Option.bind_some, if_pos c]
  by_cases c6 : L.length = 6
  ·exact ⟨L, 0, fun k hk => by
    unfold spec_l3Put.f
    rw [e k (by omega), Option.bind_some, if_neg (by decide), if_pos (by omega)], by omega⟩
  ·exact ⟨[] ++ L ++ [⟨a, p⟩], wrap64 ((wrap64 (500 + (([] ++ L ++ [(⟨a, p⟩ : S80)]).length : Int))) - 1), fun k hk => by
    unfold spec_l3Put.f
    rw [e k (by omega), Option.bind_some, if_neg (by decide), if_neg (by omega)]
    simp only [Option.bind_some]
    rw [if_pos (by simp; omega), if_pos (by simp; omega)], by simp; omega⟩
 ·rcases fnd_ge L a p 0 (Int.le_refl _) with h | h
  ·omega
  ·exact ⟨L, 500 + fnd L a p 0, fun k hk => by
    unfold spec_l3Put.f spec_MapPort.f
    rw [find_ev L a p (by omega) k (by omega), Option.bind_some, if_neg c, Option.bind_some, Lib.wrap_id (by omega) (by omega), if_pos (by omega)], by omega⟩
theorem port_tot (a p : Int) : ∃ t, Ev (fun k => spec_LinPort.f k a p) t ∧ t.size ≤ 12 := by
 by_cases h : endOkP a p
 ·exact ⟨_, linport_ev a p h, (portT_size a p).2⟩
 ·exact ⟨⟨#[]⟩, ⟨0, fun k _ => linport_no a p h k⟩, by show 0 ≤ 12; omega⟩
theorem l3line_ev (L : List S80) (s : ByteArray) (hL : L.length ≤ 6) (hs : s.size ≤ 1000) : ∃ M t, Ev (fun k => spec_l3Line.f k L s) (M, t) ∧ M.length ≤ 6 ∧ t.size ≤ 1000 := by
 obtain ⟨x, y, b, K1, e1⟩ := says_tot s (by omega)
 dsimp only at e1
 cases b with
 | false =>
  refine ⟨L, s, ⟨K1, fun k hk => ?_⟩, hL, hs⟩
  dsimp only
  unfold spec_l3Line.f
  rw [e1 k hk, Option.bind_some]; dsimp only
  rw [if_neg (by decide)]
 | true =>
  obtain ⟨M, v, h2, hM⟩ := l3put_ev L x y hL
  by_cases c : v = 0
  ·refine ⟨M, ⟨#[110, 111, 110, 101]⟩, ⟨K1 + 300, fun k hk => ?_⟩, hM, by show 4 ≤ 1000; omega⟩
   dsimp only
   unfold spec_l3Line.f
   rw [e1 k (by omega), Option.bind_some]; dsimp only
   rw [if_pos rfl, h2 k (by omega), Option.bind_some, if_pos c]
  ·obtain ⟨t, ⟨K3, e3⟩, ht⟩ := port_tot 50 v
   dsimp only at e3
   refine ⟨M, t, ⟨K1 + K3 + 300, fun k hk => ?_⟩, hM, by omega⟩
   dsimp only
   unfold spec_l3Line.f
   rw [e1 k (by omega), Option.bind_some]; dsimp only
   rw [if_pos rfl, h2 k (by omega), Option.bind_some, if_neg c, e3 k (by omega), Option.bind_some]
theorem l3stream_l (X : List ByteArray) (hX : X.length ≤ 1000) (hx : ∀ x ∈ X, x.size ≤ 1000) : ∀ (n i : Nat) (out : ByteArray) (L : List S80), i + n = X.length → out.size ≤ 1001 * i → L.length ≤ 6 →
  ∃ M t, Ev (fun k => spec_l3Stream.l0 k X out (i : Int) L) (M, t) ∧ t.size ≤ 1001 * X.length := by
 intro n
 induction n with
 | zero =>
  intro i out L hi ho hL
  refine ⟨L, out, ⟨1, fun k hk => ?_⟩, by rw [← hi]; omega⟩
  obtain ⟨k, rfl⟩ : ∃ k', k = k' + 1 := ⟨k - 1, by omega⟩
  dsimp only
  rw [spec_l3Stream.l0, if_neg (by omega)]
 | succ n ih =>
  intro i out L hi ho hL
  have hz : (rdOf ByteArray.empty X (i : Int)).size ≤ 1000 := hx _ (by
   unfold rdOf
   rw [Int.toNat_natCast, List.getD_eq_getElem?_getD, List.getElem?_eq_getElem (by omega : i < X.length)]
   exact List.getElem_mem _)
  obtain ⟨M1, t1, ⟨K1, e1⟩, hM1, ht1⟩ := l3line_ev L (rdOf ByteArray.empty X (i : Int)) hL hz
  dsimp only at e1
  have h1 : (⟨#[59]⟩ : ByteArray).size = 1 := rfl
  obtain ⟨M, t, ⟨K2, e2⟩, ht⟩ := ih (i + 1) ((out ++ t1) ++ (⟨#[59]⟩ : ByteArray)) M1 (by omega) (by rw [ByteArray.size_append, ByteArray.size_append, h1]; omega) hM1
  dsimp only at e2
  refine ⟨M, t, ⟨K1 + K2 + 1, fun k hk => ?_⟩, ht⟩
  obtain ⟨k, rfl⟩ : ∃ k', k = k' + 1 := ⟨k - 1, by omega⟩
  dsimp only
  rw [spec_l3Stream.l0, if_pos (by omega), if_pos (by omega), e1 k (by omega), Option.bind_some]; dsimp only
  rw [if_pos (by omega), if_pos (by rw [ByteArray.size_append]; omega), Lib.wrap_id (x := (i : Int) + 1) (by omega) (by omega), show (i : Int) + 1 = ((i + 1 : Nat) : Int) by omega, e2 k (by omega)]
theorem rwr_ev (L : List S80) (s : ByteArray) (hL : L.length ≤ 1000) (hs : s.size ≤ 1000) : ∃ M t, Ev (fun k => spec_RwrStream.f k L s) (M, t) ∧ t.size ≤ 200000 := by
 have no : ∀ k, spec_RwrStream.j0 (k + 1) s true L = some ([], ⟨#[]⟩) := fun k => by rw [spec_RwrStream.j0, if_pos rfl]
 have hz0 : (⟨#[]⟩ : ByteArray).size ≤ 200000 := by show 0 ≤ 200000; omega
 cases hk : mapOkB L with
 | false =>
  refine ⟨[], ⟨#[]⟩, ⟨2 * L.length + 3, fun k hk2 => ?_⟩, hz0⟩
  obtain ⟨k, rfl⟩ : ∃ k', k = k' + 1 := ⟨k - 1, by omega⟩
  dsimp only
  unfold spec_RwrStream.f
  rw [spec_ok_ev L (by omega) _ (by omega), hk, Option.bind_some, if_neg (by decide), no]
 | true =>
  have h6 : L.length ≤ 6 := by
   unfold mapOkB at hk
   rw [Bool.and_eq_true] at hk
   exact of_decide_eq_true hk.1
  obtain ⟨K1, e1⟩ := spec_strok_ev s (by omega)
  dsimp only at e1
  cases hk2 : strOkB s with
  | false =>
   refine ⟨[], ⟨#[]⟩, ⟨2 * L.length + 3 + K1, fun k hk3 => ?_⟩, hz0⟩
   obtain ⟨k, rfl⟩ : ∃ k', k = k' + 1 := ⟨k - 1, by omega⟩
   dsimp only
   unfold spec_RwrStream.f
   rw [spec_ok_ev L (by omega) _ (by omega), hk, Option.bind_some, if_pos rfl, e1 _ (by omega), hk2, Option.bind_some, show (!false) = true from rfl, no]
  | true =>
   have hs2 : s.size ≤ 120 := by
    unfold strOkB at hk2
    rw [Bool.and_eq_true] at hk2
    exact of_decide_eq_true hk2.1
   have hl := lines_len s
   obtain ⟨M, t, ⟨K2, e2⟩, ht⟩ := l3stream_l (Str.linesV s) (by omega) (fun x hx => by have := lns_mem' s s.size 0 0 x hx; omega) (Str.linesV s).length 0 ⟨#[]⟩ L (Nat.zero_add _) (by show 0 ≤ _; omega) h6
   dsimp only at e2
   have hc : spec_l3Copy.f L = some L := by
    unfold spec_l3Copy.f
    rw [Option.bind_some, if_pos (by simp; omega)]; rfl
   refine ⟨M, t, ⟨2 * L.length + 3 + K1 + K2 + s.size, fun k hk3 => ?_⟩, by omega⟩
   obtain ⟨k, rfl⟩ : ∃ k', k = k' + 1 := ⟨k - 1, by omega⟩
   dsimp only
   unfold spec_RwrStream.f
   rw [spec_ok_ev L (by omega) _ (by omega), hk, Option.bind_some, if_pos rfl, e1 _ (by omega), hk2, Option.bind_some, show (!true) = false from rfl, spec_RwrStream.j0, if_neg (by decide), hc, Option.bind_some]
   unfold spec_l3Stream.f
   rw [lines_ev s (by omega) k (by omega), Option.bind_some]; dsimp only
   rw [show ((0 : Nat) : Int) = 0 from rfl] at e2
   rw [e2 k (by omega)]; rfl
theorem drawpospairs_ev (l : List Int) (hb : Lib.Bytes l) (hl : l.length ≤ 9223372036854775807) : ∃ s t, Ev (fun k => spec_DrawPosPairs.f k l) (s, t) ∧ s.size ≤ 140 ∧ t.size ≤ 200000 := by
 obtain ⟨b, h0, hb, hl⟩ := open_eq l hb hl
 obtain ⟨M, p1, ⟨K1, e1⟩, hM, g1, g2⟩ := table_ev b hb hl 0 99999 (by omega) (by omega) (by omega) (by omega)
 obtain ⟨s, p2, ⟨K2, e2⟩, hs, g3, g4⟩ := streamor_ev b hb hl p1 9 (by omega) (by omega) (by omega) (by omega)
 obtain ⟨u, ⟨K3, e3⟩, a3, b3⟩ := pick_ev b hb hl p2 3 (by omega) (by omega) (by omega)
 dsimp only at e1 e2 e3
 by_cases c : u = 0
 ·obtain ⟨t, p3, ⟨K4, e4⟩, ht, _⟩ := stream_ev b hb hl (p2 + 1) (by omega) (by omega)
  dsimp only at e4
  refine ⟨s, t, ⟨K1 + K2 + K3 + K4, fun k hk => ?_⟩, hs, by omega⟩
  dsimp only
  unfold spec_DrawPosPairs.f
  rw [h0, Option.bind_some]; dsimp only
  rw [e1 k (by omega), Option.bind_some]; dsimp only
  rw [e2 k (by omega), Option.bind_some]; dsimp only
  rw [e3 k (by omega), Option.bind_some]; dsimp only
  rw [if_pos c, e4 k (by omega), Option.bind_some]
 ·obtain ⟨N, t, ⟨K4, e4⟩, ht⟩ := rwr_ev M s (by omega) (by omega)
  dsimp only at e4
  refine ⟨s, t, ⟨K1 + K2 + K3 + K4, fun k hk => ?_⟩, hs, by omega⟩
  dsimp only
  unfold spec_DrawPosPairs.f
  rw [h0, Option.bind_some]; dsimp only
  rw [e1 k (by omega), Option.bind_some]; dsimp only
  rw [e2 k (by omega), Option.bind_some]; dsimp only
  rw [e3 k (by omega), Option.bind_some]; dsimp only
  rw [if_neg c, e4 k (by omega), Option.bind_some]
theorem drawposthere_ev (l : List Int) (hb : Lib.Bytes l) (hl : l.length ≤ 9223372036854775807) : ∃ s t x, Ev (fun k => spec_DrawPosThere.f k l) (s, t, x) ∧ s.size ≤ 140 ∧ t.size ≤ 200000 := by
 obtain ⟨s, t, ⟨K1, e1⟩, hs, ht⟩ := drawpospairs_ev l hb hl
 obtain ⟨b, h0, hb, hl⟩ := open_eq l hb hl
 obtain ⟨v, ⟨K2, e2⟩, a2, b2⟩ := pick_ev b hb hl 0 130 (by omega) (by omega) (by omega)
 obtain ⟨u, ⟨K3, e3⟩, a3, b3⟩ := pick_ev b hb hl 0 4 (by omega) (by omega) (by omega)
 dsimp only at e1 e2 e3
 refine ⟨s, t, rd [v, (-1), 9223372036854775807, (t.size : Int)] u, ⟨K1 + K2 + K3, fun k hk => ?_⟩, hs, ht⟩
 dsimp only
 unfold spec_DrawPosThere.f
 rw [e1 k (by omega), Option.bind_some, h0, Option.bind_some]; dsimp only
 rw [e2 k (by omega), Option.bind_some, Option.bind_some, e3 k (by omega), Option.bind_some]; dsimp only
 rw [if_pos a3, if_pos (by simpa using b3)]
end Go.Proofs.Ytmahgffkkdggcaa.QFnPosThere
