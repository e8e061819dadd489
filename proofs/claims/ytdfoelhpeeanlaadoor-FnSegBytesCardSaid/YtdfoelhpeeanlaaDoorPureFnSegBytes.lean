/- FnSegBytes: for all codes (longer than 2^20: nothing is asked) the program's bytes of the drawn segment are the reference's; they are read as it; with one byte more, without the last one, or with one turned nothing is read. -/
import Derived.Test.YtdfoelhpeeanlaaDoorDFnSegBytes
set_option linter.unusedVariables false
set_option linter.unusedSimpArgs false
namespace Go.Proofs.YtdfoelhpeeanlaaDoor.Pure
open Go.RowKit Go.Proofs.YtdfoelhpeeanlaaDoor.QFnSegBytes Go.Proofs.YtdfoelhpeeanlaaDoorW.PrintWords Go.Proofs.YtdfoelhpeeanlaaDoorW.PrintLast Go.Proofs.YtdfoelhpeeanlaaDoor
theorem ha_true : laws_haOk.f = some true := by
  have hb : bt (⟨#[97]⟩ : ByteArray) 0 = 97 := rfl
  have hs : (⟨#[97]⟩ : ByteArray).size = 1 := rfl
  have w1 : wrap64 97 = 97 := Lib.wrap_id (by omega) (by omega)
  have w2 : wrap64 (97 - 97) = 0 := Lib.wrap_id (x := 97 - 97) (by omega) (by omega)
  have w3 : wrap64 (((1 : Nat) : Int) - 1) = 0 := Lib.wrap_id (x := ((1 : Nat) : Int) - 1) (by omega) (by omega)
  unfold laws_haOk.f impl_LinOk.f
  rw [hb, hs, w1, w2, w3]
  simp
theorem sw1 (j l n : Nat) (h : n = j * 37 + l) (hn : n ≤ 1000000000000) : wrap64 (wrap64 ((j : Int) * 37) + (l : Int)) = (n : Int) := by
  rw [Lib.wrap_id (x := (j : Int) * 37) (by omega) (by omega), Lib.wrap_id (by omega) (by omega)]; omega
theorem sw2 (n m i : Nat) (hi : i = n % m) : Int.tmod (n : Int) (m : Int) = (i : Int) := by
  rw [Int.tmod_eq_emod_of_nonneg (by omega), hi]; omega
theorem sw3 (n : Nat) : wrap64 (1 + Int.tmod (n : Int) 255) % 256 = 1 + (n : Int) % 255 := by
  rw [Int.tmod_eq_emod_of_nonneg (by omega)]
  obtain ⟨z, hz⟩ : ∃ z : Int, z = (n : Int) % 255 := ⟨_, rfl⟩
  have h0 : 0 ≤ z := by omega
  have h1 : z < 255 := by omega
  rw [← hz]
  clear hz
  rw [Lib.wrap_id (by omega) (by omega)]
  omega
theorem sw4 (m : Nat) (h : 0 < m) (h1 : m ≤ 28) : wrap64 ((m : Int) - 1) = ((m - 1 : Nat) : Int) := by
  rw [Lib.wrap_id (by omega) (by omega)]; omega
set_option maxHeartbeats 4000000 in
theorem FnSegBytes (l0 l1 : List Int) (hm0 : l0.length ≤ 9223372036854775807) (hy0 : l0.length * 1 ≤ 140737488351232) (hw0 : ∀ n ∈ l0, (Lit.int .u8 n).wf = true) (hm1 : l1.length ≤ 9223372036854775807) (hy1 : l1.length * 1 ≤ 140737488351232) (hw1 : ∀ n ∈ l1, (Lit.int .u8 n).wf = true) :
    ∃ k, laws_FnSegBytes.f k l0 l1 = some true := by
  by_cases c0 : (l0.length : Int) > 1048576
  · exact ⟨1, by unfold laws_FnSegBytes.f; rw [if_pos c0, laws_FnSegBytes.j0, if_pos rfl]⟩
  by_cases c1 : (l1.length : Int) > 1048576
  · exact ⟨1, by unfold laws_FnSegBytes.f; rw [if_neg c0, decide_eq_true c1, laws_FnSegBytes.j0, if_pos rfl]⟩
  obtain ⟨a, p, b, q, x, y, t, ⟨K1, e1⟩, ht⟩ := drawsegbytes_ev l0 (Lib.bytes_wf hw0) (by omega)
  obtain ⟨J, ⟨K2, e2⟩, bJ, lJ⟩ := drawsegsum_ev l1 (Lib.bytes_wf hw1) (by omega)
  obtain ⟨K3, e3⟩ := impl_bytes_ev a p b q x y t (by omega)
  obtain ⟨K4, e4⟩ := spec_bytes_ev a p b q x y t
  obtain ⟨L, hL⟩ : ∃ L, L = segBytesV a p b q x y t := ⟨_, rfl⟩
  have bL : Lib.Bytes L := by rw [hL]; intro z hz; have := segV_bytes a p b q x y t z hz; omega
  have lL := bytes_len a p b q x y t
  rw [← hL] at e3 e4 lL
  have lL2 : L.length ≤ 28 := by rw [lL]; split <;> omega
  obtain ⟨K5, e5⟩ := hab_ev L L (by omega)
  obtain ⟨K6, e6⟩ := impl_seg_ev a p b q x y t (by omega)
  obtain ⟨K7, e7⟩ := spec_seg_ev a p b q x y t
  obtain ⟨K8, e8⟩ := impl_sum_ev J (by omega) bJ
  obtain ⟨K9, e9⟩ := spec_sum_ev J (by omega) bJ
  dsimp only at e1 e2 e3 e4 e5 e6 e7 e8 e9
  rw [decide_eq_true rfl] at e5
  have go : ∀ K, (∃ k, K ≤ k ∧ laws_FnSegBytes.j1 k l0 J L false a p b q x y t = some true ∧ K1 + K2 + K3 + K4 + K5 + K6 + K7 + K8 + K9 ≤ k) → ∃ k, laws_FnSegBytes.f k l0 l1 = some true := by
    rintro K ⟨k, hk, hj, hk2⟩
    refine ⟨k + 1, ?_⟩
    unfold laws_FnSegBytes.f
    rw [if_neg c0, decide_eq_false c1, laws_FnSegBytes.j0, if_neg (by decide), e1 _ (by omega), Option.bind_some, e2 _ (by omega), Option.bind_some]
    dsimp only
    rw [e3 _ (by omega), Option.bind_some, e4 _ (by omega), Option.bind_some, e5 _ (by omega), Option.bind_some, if_pos rfl, e6 _ (by omega), Option.bind_some, e7 _ (by omega), Option.bind_some, if_neg (by simp), e8 _ (by omega), Option.bind_some, e9 _ (by omega), Option.bind_some,
      show (sumF J != sumF J) = false by simp]
    exact hj
  by_cases h : segOkB a p b q x y t = true
  · have hsz := (segOk_bd h).2.2.2.2.2.2.2.2.2.2.2.2
    obtain ⟨hok, hrd, h12⟩ := bytes_read a p b q x y t h
    rw [← hL] at hok hrd h12
    rw [if_pos h] at lL
    obtain ⟨M1, f1⟩ := impl_rd_ev L bL (by omega)
    obtain ⟨M2, f2⟩ := impl_rd_ev (L ++ [0]) (bytes_app bL (bytes_one (by omega) (by omega))) (by simp; omega)
    obtain ⟨M3, f3⟩ := impl_rd_ev (L.take (L.length - 1)) (fun z hz => bL z (List.mem_of_mem_take hz)) (by rw [List.length_take]; omega)
    obtain ⟨n, hn⟩ : ∃ n : Nat, n = J.length * 37 + l0.length := ⟨_, rfl⟩
    obtain ⟨i, hi⟩ : ∃ i : Nat, i = n % L.length := ⟨_, rfl⟩
    have hiL : i < L.length := by rw [hi]; exact Nat.mod_lt _ (by omega)
    have hr := Lib.bytes_rd bL i
    obtain ⟨v, hv⟩ : ∃ v, v = Go.bits .xor .u8 (rd L (i : Int)) (1 + (n : Int) % 255) := ⟨_, rfl⟩
    have hx := xor_u8 (rd L (i : Int)) (1 + (n : Int) % 255) (by omega) (by omega) (by omega) (by omega)
    rw [← hv] at hx
    obtain ⟨M4, f4⟩ := impl_rd_ev (L.set i v) (bytes_set bL i hx.1 hx.2.1) (by simp; omega)
    dsimp only at f1 f2 f3 f4
    rw [hrd] at f1
    rw [rdv_no (read_longer L hok 0)] at f2
    rw [rdv_no (read_shorter L hok)] at f3
    rw [rdv_no (read_bent L bL hok i hiL v hx.1 hx.2.1 hx.2.2)] at f4
    have w1 := sw1 J.length l0.length n hn (by omega)
    have w2 := sw2 n L.length i hi
    have w3 := sw3 n
    have w4 := sw4 L.length (by omega) lL2
    refine go 0 ⟨K1 + K2 + K3 + K4 + K5 + K6 + K7 + K8 + K9 + M1 + M2 + M3 + M4 + 2, by omega, ?_, by omega⟩
    rw [laws_FnSegBytes.j1, if_neg (by decide), e7 _ (by omega), h, Option.bind_some, if_pos rfl, f1 _ (by omega), Option.bind_some, if_pos rfl]
    dsimp only
    rw [show ((!(a == a) || (!(p == p))) || ((!(b == b) || (!(q == q))) || (!(x == x) || (!(y == y) || (!(t.toList == t.toList)))))) = false by simp, laws_FnSegBytes.j2, if_neg (by decide), Option.bind_some, if_pos (by simp; omega), Option.bind_some, List.nil_append, if_pos (by omega), f2 _ (by omega), Option.bind_some,
      w4, if_pos (by omega), if_pos (by omega), Int.toNat_natCast, f3 _ (by omega), Option.bind_some, Option.bind_some, if_pos (by simp; omega), Option.bind_some, List.nil_append, if_neg (by omega), w1, w2, w3, if_pos (by omega), if_pos (by omega), Int.toNat_natCast, ← hv, f4 _ (by omega), Option.bind_some]
    dsimp only
    rw [if_neg (by decide), if_neg (by decide), if_neg (by decide), decide_eq_true (by omega)]
  · rw [if_neg h] at lL
    refine go 0 ⟨K1 + K2 + K3 + K4 + K5 + K6 + K7 + K8 + K9 + 1, by omega, ?_, by omega⟩
    rw [laws_FnSegBytes.j1, if_neg (by decide), e7 _ (by omega), Option.bind_some, if_neg h, if_pos (by omega), ha_true]
    rfl
end Go.Proofs.YtdfoelhpeeanlaaDoor.Pure
