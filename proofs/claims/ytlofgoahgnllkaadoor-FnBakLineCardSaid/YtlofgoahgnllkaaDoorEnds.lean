import Derived.WalkKit
import Derived.ProofKit
import Derived.Shelf.Abstract
import Derived.Deep.QuietTactic
import Derived.BigQuiet
import Derived.BigRegion
import Derived.LoopTactic
import Derived.Deep.LoopGhost
import Derived.Deep.RegionWith
import Derived.Lib.IndexLaws
import Derived.Lib.AppendIntMem
import Derived.Test.YtlofgoahgnllkaaDoorProg
import Derived.Test.YtlofgoahgnllkaaDoorLib
import Derived.Test.YtlofgoahgnllkaaDoorShelf
set_option linter.unusedVariables false
set_option linter.unusedSimpArgs false
namespace Go.Proofs.YtlofgoahgnllkaaDoor.Ends
open Go.RowKit Go.Shelf Go.Proofs.YtlofgoahgnllkaaDoorW.PrintWords
def dig (d : Int) : UInt8 := UInt8.ofNat (48 + d).toNat
def dec3 (n : Int) : ByteArray := if n > 99 then ⟨#[dig (n / 100), dig (n / 10 % 10), dig (n % 10)]⟩ else if n > 9 then ⟨#[dig (n / 10), dig (n % 10)]⟩ else ⟨#[dig n]⟩
theorem dec3_size (n : Int) : 1 ≤ (dec3 n).size ∧ (dec3 n).size ≤ 3 := by
  unfold dec3
  split
  · exact ⟨by show 1 ≤ 3; omega, by show 3 ≤ 3; omega⟩
  · split
    · exact ⟨by show 1 ≤ 2; omega, by show 2 ≤ 3; omega⟩
    · exact ⟨by show 1 ≤ 1; omega, by show 1 ≤ 3; omega⟩
def endOkP (a p : Int) : Prop := ((1 ≤ a ∧ a ≤ 9) ∨ (100 ≤ a ∧ a ≤ 109) ∨ a = 50) ∧ 1 ≤ p ∧ p ≤ 999
instance (a p : Int) : Decidable (endOkP a p) := by unfold endOkP; infer_instance
def endT (a p : Int) : ByteArray := dec3 a ++ (⟨#[32]⟩ : ByteArray) ++ dec3 p
theorem endT_size (a p : Int) : 3 ≤ (endT a p).size ∧ (endT a p).size ≤ 7 := by
  have h1 := dec3_size a
  have h2 := dec3_size p
  have h3 : (⟨#[32]⟩ : ByteArray).size = 1 := rfl
  unfold endT
  rw [ByteArray.size_append, ByteArray.size_append]
  omega
def portT (a p : Int) : ByteArray := (⟨#[112, 111, 114, 116, 32]⟩ : ByteArray) ++ endT a p
theorem portT_size (a p : Int) : 8 ≤ (portT a p).size ∧ (portT a p).size ≤ 12 := by
  have h1 := endT_size a p
  have h3 : (⟨#[112, 111, 114, 116, 32]⟩ : ByteArray).size = 5 := rfl
  unfold portT
  rw [ByteArray.size_append]
  omega
theorem endOk_range {a p : Int} (h : endOkP a p) : 1 ≤ a ∧ a ≤ 109 ∧ 1 ≤ p ∧ p ≤ 999 := by unfold endOkP at h; omega
theorem itoa_dec3 (n : Nat) (h : n ≤ 999) : (⟨(Go.Lib.itoa (n : Int)).toArray⟩ : ByteArray) = dec3 (n : Int) := by
  rw [Go.Lib.itoa_nonneg n]
  unfold dec3 dig
  by_cases c : n < 10
  · rw [Go.Lib.decDigits_one c, if_neg (by omega), if_neg (by omega), show (48 + (n : Int)).toNat = 48 + n by omega]
  · by_cases c2 : n < 100
    · rw [Go.Lib.decDigits_two c c2, if_neg (by omega), if_pos (by omega), show (48 + (n : Int) / 10).toNat = 48 + n / 10 by omega, show (48 + (n : Int) % 10).toNat = 48 + n % 10 by omega]
    · rw [Go.Lib.decDigits, dif_neg c, Go.Lib.decDigits_two (by omega) (by omega), if_pos (by omega), show (48 + (n : Int) / 100).toNat = 48 + n / 10 / 10 by omega, show (48 + (n : Int) / 10 % 10).toNat = 48 + n / 10 % 10 by omega, show (48 + (n : Int) % 10).toNat = 48 + n % 10 by omega]
      rfl
theorem atoi_fin : ∀ n : Fin 1000, Go.Lib.atoiAll (dec3 (n.val : Int)).data.toList = .ok (n.val : Int) := by decide +kernel
theorem atoi_dec3 (a : Int) (h0 : 0 ≤ a) (h1 : a ≤ 999) : Go.Lib.atoiAll (dec3 a).data.toList = .ok a := by
  obtain ⟨n, rfl⟩ := Int.eq_ofNat_of_zero_le h0
  exact atoi_fin ⟨n, by omega⟩
theorem dec3_bytes_fin : ∀ n : Fin 1000, (dec3 (n.val : Int)).data.toList.all (fun b => b != 32) = true := by decide +kernel
theorem dec3_bytes (a : Int) (h0 : 0 ≤ a) (h1 : a ≤ 999) (b : UInt8) (hb : b ∈ (dec3 a).data.toList) : b ≠ 32 := by
  obtain ⟨n, rfl⟩ := Int.eq_ofNat_of_zero_le h0
  have := dec3_bytes_fin ⟨n, by omega⟩
  rw [List.all_eq_true] at this
  simpa using this b hb
theorem dec3_inj (a b : Int) (ha0 : 0 ≤ a) (ha : a ≤ 999) (hb0 : 0 ≤ b) (hb : b ≤ 999) (h : dec3 a = dec3 b) : a = b := by
  have h1 := atoi_dec3 a ha0 ha
  rw [h, atoi_dec3 b hb0 hb] at h1
  simp only [Go.Lib.NumEnd.ok.injEq] at h1
  exact h1.symm
theorem cut_endT (a p : Int) (h : endOkP a p) : Go.Lib.indexByte (endT a p).data.toList 32 = ((dec3 a).size : Nat) ∧ (endT a p).extract 0 (dec3 a).size = dec3 a ∧ (endT a p).extract ((dec3 a).size + 1) (endT a p).size = dec3 p := by
  obtain ⟨a0, a1, p0, p1⟩ := endOk_range h
  have hl : (endT a p).data.toList = (dec3 a).data.toList ++ 32 :: (dec3 p).data.toList := by
    unfold endT
    simp [ByteArray.data_append]
  have hlen : (dec3 a).data.toList.length = (dec3 a).size := by simp
  refine ⟨?_, ?_, ?_⟩
  · have hge := Go.Lib.indexByte_ge (endT a p).data.toList 32
    by_cases c : Go.Lib.indexByte (endT a p).data.toList 32 = -1
    · exact absurd (by rw [hl, ← hlen, List.getElem?_append_right (Nat.le_refl _), Nat.sub_self]; rfl) (Go.Lib.indexByte_none c (dec3 a).size)
    · obtain ⟨j, hj⟩ := Int.eq_ofNat_of_zero_le (show 0 ≤ Go.Lib.indexByte (endT a p).data.toList 32 by omega)
      obtain ⟨h1, h2⟩ := Go.Lib.indexByte_some hj
      rw [hj]
      by_cases c1 : j < (dec3 a).size
      · rw [hl, List.getElem?_append_left (by omega)] at h1
        exact absurd rfl (dec3_bytes a (by omega) (by omega) 32 (List.mem_of_getElem? h1))
      · by_cases c2 : (dec3 a).size < j
        · exact absurd (by rw [hl, ← hlen, List.getElem?_append_right (Nat.le_refl _), Nat.sub_self]; rfl) (h2 (dec3 a).size c2)
        · rw [show j = (dec3 a).size by omega]
  · apply ByteArray.ext
    apply Array.toList_inj.1
    rw [ByteArray.data_extract, Array.toList_extract, List.extract_eq_take_drop, hl, List.drop_zero, Nat.sub_zero, ← hlen]
    exact List.take_left' rfl
  · apply ByteArray.ext
    apply Array.toList_inj.1
    have hz : (endT a p).size = (dec3 a).size + 1 + (dec3 p).size := by
      unfold endT
      rw [ByteArray.size_append, ByteArray.size_append]; rfl
    have hlp : (dec3 p).data.toList.length = (dec3 p).size := by simp
    rw [ByteArray.data_extract, Array.toList_extract, List.extract_eq_take_drop, hl, hz, List.drop_append, List.drop_of_length_le (by omega), List.nil_append, show (dec3 a).size + 1 - (dec3 a).data.toList.length = 1 by omega, List.drop_succ_cons, List.drop_zero, show (dec3 a).size + 1 + (dec3 p).size - ((dec3 a).size + 1) = (dec3 p).size by omega]
    exact List.take_of_length_le (by omega)
theorem endT_inj (a p b q : Int) (h1 : endOkP a p) (h2 : endOkP b q) (h : endT a p = endT b q) : a = b ∧ p = q := by
  obtain ⟨a0, a1, p0, p1⟩ := endOk_range h1
  obtain ⟨b0, b1, q0, q1⟩ := endOk_range h2
  obtain ⟨e1, e2, e3⟩ := cut_endT a p h1
  obtain ⟨f1, f2, f3⟩ := cut_endT b q h2
  rw [← h] at f1 f2 f3
  have hs : (dec3 a).size = (dec3 b).size := by rw [e1] at f1; omega
  rw [hs] at e2 e3
  exact ⟨dec3_inj a b (by omega) (by omega) (by omega) (by omega) (e2.symm.trans f2), dec3_inj p q (by omega) (by omega) (by omega) (by omega) (e3.symm.trans f3)⟩
abbrev EV (a p : Int) : Value := .agg #[.int .i64 a, .int .i64 p]
def LTab (w : World) : Prop := Go.Lib.TabIs Tryd.prog w "internal/strconv.uint64pow10" .u64 Go.Lib.pow10Tab
structure LErr (w : World) : Prop where
  tab : LTab w
  syn : ∃ tp p, w.var? Tryd.prog "strconv.ErrSyntax" = some #[.iface tp p]
  rng : ∃ tp p, w.var? Tryd.prog "strconv.ErrRange" = some #[.iface tp p]
  err : ∃ tp p, w.var? Tryd.prog "loop.example/hatchway/impl.errEnd" = some #[.iface tp p]
theorem var_below {w w' : World} {n : String} {cs : Array Value} (h : w.var? Tryd.prog n = some cs) (hb : Below w.heap.size w w') : w'.var? Tryd.prog n = some cs := by
  unfold World.var? at h ⊢
  cases hg : Tryd.prog.globalNamed n with
  | none => simp [hg] at h
  | some g =>
    simp only [hg, Option.bind_some] at h ⊢
    have hlt : g < w.heap.size := by
      rcases Nat.lt_or_ge g w.heap.size with h' | h'
      · exact h'
      · simp [Array.getElem?_eq_none h'] at h
    rw [hb.block g hlt]
    exact h
theorem LTab.below {w w' : World} (h : LTab w) (hb : Below w.heap.size w w') : LTab w' := var_below h hb
theorem LErr.below {w w' : World} (h : LErr w) (hb : Below w.heap.size w w') : LErr w' := by
  obtain ⟨h1, ⟨a, b, h2⟩, ⟨c, d, h3⟩, ⟨e, f, h4⟩⟩ := h
  exact ⟨h1.below hb, ⟨a, b, var_below h2 hb⟩, ⟨c, d, var_below h3 hb⟩, ⟨e, f, var_below h4 hb⟩⟩
theorem gErr : Tryd.prog.globalNamed "loop.example/hatchway/impl.errEnd" = some 0 := by kernel_rfl
theorem cell_at {w : World} {g : Nat} {cs : Array Value} {t : TypeId} {fr : Nat × Nat} (h : w.heap[g]? = some (.cells cs t fr)) (i : Nat) : w.cell? ⟨g, i, none⟩ = cs[i]? := by simp [World.cell?, h]
theorem itoa_calls (n : Int) (h0 : 0 ≤ n) (h1 : n ≤ 999) (w : World) (hT : LTab w) :
    Calls Tryd.prog 64 #[.int .i64 n] w fun e w' => e = .returned (.string (dec3 n)) ∧ Below w.heap.size w w' := by
  obtain ⟨m, rfl⟩ := Int.eq_ofNat_of_zero_le h0
  refine (Tryd.strconv_Itoa (m : Int) (by omega) (by omega) w hT).mono ?_
  rintro e w' ⟨rfl, k, os, rfl⟩
  rw [itoa_dec3 m (by omega)]
  exact ⟨rfl, Go.Lib.below_grow _ _ (Nat.le_refl _) _ _⟩
theorem atoi_ok (s : ByteArray) (hs : s.size ≤ 281474976710656) (v : Int) (h : Go.Lib.atoiAll s.data.toList = .ok v) (w : World) :
    Calls Tryd.prog 86 #[.string s] w fun e w' => e = .returned (.tuple #[.int .i64 v, .nilIface]) ∧ Below w.heap.size w w' := by
  refine (Tryd.strconv_Atoi_ok s (by omega) v h w).mono ?_
  rintro e w' ⟨rfl, rfl | ⟨t, rfl⟩⟩
  · exact ⟨rfl, Below.refl _ _⟩
  · exact ⟨rfl, Go.Lib.bytesWorld_below _ _ _⟩
theorem atoi_no (s : ByteArray) (hs : s.size ≤ 281474976710656) (h : ∀ v, Go.Lib.atoiAll s.data.toList ≠ .ok v) (w : World) (hL : LErr w) :
    Calls Tryd.prog 86 #[.string s] w fun e w' => ∃ x tp pv, e = .returned (.tuple #[.int .i64 x, .iface tp pv]) ∧ Below w.heap.size w w' := by
  rcases hc : Go.Lib.atoiAll s.data.toList with v | _ | _
  · exact absurd hc (h v)
  · obtain ⟨tp, p, hv⟩ := hL.syn
    refine (Tryd.strconv_Atoi_syntax_var s hs hc tp p w hv).mono ?_
    rintro e w' ⟨N, rfl, _, _, hb⟩
    exact ⟨_, _, _, rfl, hb⟩
  · obtain ⟨tp, p, hv⟩ := hL.rng
    refine (Tryd.strconv_Atoi_range_var s hs hc tp p w hv).mono ?_
    rintro e w' ⟨N, rfl, _, _, hb⟩
    exact ⟨_, _, _, rfl, hb⟩
set_option maxRecDepth 100000 in
theorem slCut_calls (s : ByteArray) (w : World) (hs : s.size ≤ 4611686018427387903) :
    Calls Tryd.prog 93 #[.string s, .string ⟨#[32]⟩] w fun e w' => ∃ n, w' = w.drewN n ∧
      ((Go.Lib.indexByte s.data.toList 32 = -1 ∧ e = .returned (.tuple #[.string s, .string ⟨#[]⟩, .bool false])) ∨
       ∃ j : Nat, Go.Lib.indexByte s.data.toList 32 = j ∧ j < s.size ∧ e = .returned (.tuple #[.string (s.extract 0 j), .string (s.extract (j + 1) s.size), .bool true])) := by
  by_cases h : Go.Lib.indexByte s.data.toList 32 = -1
  · go_enter Tryd.func93, Tryd.ntmps93
    go_wp2_with (go_at_call 102; refine (Tryd.stringslite_Index_one s 32 _).mono ?_; rintro e w' ⟨rfl, rfl⟩; rw [h])
    refine bodyPost_ret (results_tmp3 rfl _ _ _) rfl ?_
    exact ⟨0, rfl, .inl ⟨h, rfl⟩⟩
  · have hge := Go.Lib.indexByte_ge s.data.toList 32
    obtain ⟨j, hj⟩ := Int.eq_ofNat_of_zero_le (show 0 ≤ Go.Lib.indexByte s.data.toList 32 by omega)
    obtain ⟨h1, h2⟩ := Go.Lib.indexByte_some hj
    have hlt : j < s.size := by
      have := List.getElem?_eq_some_iff.1 h1
      obtain ⟨h3, _⟩ := this
      simpa using h3
    have w1 : wrap64 ((j : Int) + 1) = ((j + 1 : Nat) : Int) := by rw [Lib.wrap_id (by omega) (by omega)]; omega
    have c0 : decide ((j : Int) ≥ 0) = true := decide_eq_true (by omega)
    have c1 : (0 ≤ (j : Int)) = True := eq_true (by omega)
    have c2 : ((j : Int) ≤ (s.size : Int)) = True := eq_true (by omega)
    have c3 : (((j + 1 : Nat) : Int) ≤ (s.size : Int)) = True := eq_true (by omega)
    go_enter Tryd.func93, Tryd.ntmps93
    go_wp2_with (go_at_call 102; refine (Tryd.stringslite_Index_one s 32 _).mono ?_; rintro e w' ⟨rfl, rfl⟩; rw [hj])
    go_quiet (fail)
    go_wp2
    refine bodyPost_ret (results_tmp3 rfl _ _ _) rfl ?_
    exact ⟨nq, rfl, .inr ⟨j, hj, hlt, rfl⟩⟩
theorem cut_none (s : ByteArray) (w : World) (hs : s.size ≤ 4611686018427387903) (h : Go.Lib.indexByte s.data.toList 32 = -1) :
    Calls Tryd.prog 85 #[.string s, .string ⟨#[32]⟩] w fun e w' => e = .returned (.tuple #[.string s, .string ⟨#[]⟩, .bool false]) ∧ ∃ n, w' = w.drewN n := by
  go_enter Tryd.func85, Tryd.ntmps85
  go_wp2_with (go_at_call 93; refine (slCut_calls s _ hs).mono ?_; rintro e w' ⟨n, rfl, (⟨_, rfl⟩ | ⟨j, hj, _, rfl⟩)⟩; rotate_left; (rw [h] at hj; omega))
  refine bodyPost_ret (results_tmp3 rfl _ _ _) rfl ?_
  exact ⟨rfl, _, rfl⟩
theorem cut_some (s : ByteArray) (w : World) (hs : s.size ≤ 4611686018427387903) (j : Nat) (h : Go.Lib.indexByte s.data.toList 32 = j) :
    Calls Tryd.prog 85 #[.string s, .string ⟨#[32]⟩] w fun e w' => e = .returned (.tuple #[.string (s.extract 0 j), .string (s.extract (j + 1) s.size), .bool true]) ∧ ∃ n, w' = w.drewN n := by
  go_enter Tryd.func85, Tryd.ntmps85
  go_wp2_with (go_at_call 93; refine (slCut_calls s _ hs).mono ?_; rintro e w' ⟨n, rfl, (⟨h2, rfl⟩ | ⟨i, hi, _, rfl⟩)⟩; (rw [h] at h2; omega); obtain rfl : i = j := by rw [h] at hi; omega)
  refine bodyPost_ret (results_tmp3 rfl _ _ _) rfl ?_
  exact ⟨rfl, _, rfl⟩
theorem prefix_len {s : ByteArray} (h : Go.Lib.hasPrefix s.data.toList [112, 111, 114, 116, 32] = true) : 5 ≤ s.size := by
  unfold Go.Lib.hasPrefix at h
  have := (List.isPrefixOf_iff_prefix.1 h).length_le
  simpa using this
set_option maxHeartbeats 1000000 in
set_option maxRecDepth 100000 in
theorem slCutPrefix_calls (s : ByteArray) (w : World) (hs : s.size ≤ 281474976710656) :
    Calls Tryd.prog 91 #[.string s, .string ⟨#[112, 111, 114, 116, 32]⟩] w fun e w' => e = .returned (.tuple #[.string (if Go.Lib.hasPrefix s.data.toList [112, 111, 114, 116, 32] then s.extract 5 s.size else s), .bool (Go.Lib.hasPrefix s.data.toList [112, 111, 114, 116, 32])]) ∧ Below w.heap.size w w' := by
  have hp := fun W => Tryd.stringslite_HasPrefix s ⟨#[112, 111, 114, 116, 32]⟩ W
  have e0 : (⟨#[112, 111, 114, 116, 32]⟩ : ByteArray).data.toList = [112, 111, 114, 116, 32] := rfl
  rw [e0] at hp
  clear e0
  cases h : Go.Lib.hasPrefix s.data.toList [112, 111, 114, 116, 32] with
  | true =>
    have h5 := prefix_len h
    have c2 : ((5 : Int) ≤ (s.size : Int)) = True := eq_true (by omega)
    have z5 : (⟨#[112, 111, 114, 116, 32]⟩ : ByteArray).size = 5 := rfl
    go_enter Tryd.func91, Tryd.ntmps91
    go_wp2_with (go_at_call 97; refine (hp _).mono ?_; rintro e w' ⟨rfl, rfl⟩; rw [h])
    refine bodyPost_ret (results_tmp2 rfl _ _ _) rfl ?_
    exact ⟨by simp [z5], by first | exact Below.refl _ _ | exact pw_below_drewN (Below.refl _ _) _⟩
  | false =>
    go_enter Tryd.func91, Tryd.ntmps91
    go_wp2_with (go_at_call 97; refine (hp _).mono ?_; rintro e w' ⟨rfl, rfl⟩; rw [h])
    refine bodyPost_ret (results_tmp2 rfl _ _ _) rfl ?_
    exact ⟨by simp, by first | exact Below.refl _ _ | exact pw_below_drewN (Below.refl _ _) _⟩
theorem cutPrefix_calls (s : ByteArray) (w : World) (hs : s.size ≤ 281474976710656) :
    Calls Tryd.prog 82 #[.string s, .string ⟨#[112, 111, 114, 116, 32]⟩] w fun e w' => e = .returned (.tuple #[.string (if Go.Lib.hasPrefix s.data.toList [112, 111, 114, 116, 32] then s.extract 5 s.size else s), .bool (Go.Lib.hasPrefix s.data.toList [112, 111, 114, 116, 32])]) ∧ Below w.heap.size w w' := by
  have hp := fun W => slCutPrefix_calls s W hs
  generalize (if Go.Lib.hasPrefix s.data.toList [112, 111, 114, 116, 32] then s.extract 5 s.size else s) = t at hp ⊢
  generalize Go.Lib.hasPrefix s.data.toList [112, 111, 114, 116, 32] = b at hp ⊢
  go_enter Tryd.func82, Tryd.ntmps82
  go_wp2_with (go_at_call 91; refine (hp _).mono ?_; rintro e w' ⟨rfl, hb⟩)
  refine bodyPost_ret (results_tmp2 rfl _ _ _) rfl ?_
  exact ⟨rfl, hb⟩
def textV (a p : Int) : ByteArray := if endOkP a p then endT a p else ⟨#[]⟩
set_option maxHeartbeats 1000000 in
set_option maxRecDepth 100000 in
theorem text_calls (a p : Int) (w : World) (hT : LTab w) (hOk : ∀ W, Calls Tryd.prog 44 #[EV a p] W fun e w' => e = .returned (.bool (decide (endOkP a p))) ∧ Below W.heap.size W w') :
    Calls Tryd.prog 31 #[EV a p] w fun e w' => e = .returned (.string (textV a p)) ∧ Below w.heap.size w w' := by
  have HT := Aside0.mk hT
  clear hT
  obtain ⟨W1, hW1⟩ : ∃ W1, W1 = w.alloc (.cells #[.int .i64 a, .int .i64 p] 43) := ⟨_, rfl⟩
  have HB := Aside0.mk (show Below w.heap.size w W1 by rw [hW1]; exact (Below.refl _ w).alloc (Nat.le_refl _) _)
  have hblk : W1.heap[w.heap.size]? = some (.cells #[.int .i64 a, .int .i64 p] 43) := by rw [hW1]; show (w.heap.push _)[w.heap.size]? = _; rw [Array.getElem?_push, if_pos rfl]
  have c0 : W1.cell? ⟨w.heap.size, 0, none⟩ = some (.int .i64 a) := (cell_at hblk 0).trans rfl
  have c1 : W1.cell? ⟨w.heap.size, 1, none⟩ = some (.int .i64 p) := (cell_at hblk 1).trans rfl
  have hsz : w.heap.size < W1.heap.size := by rw [hW1]; simp
  by_cases h : endOkP a p
  · obtain ⟨a0, a1, p0, p1⟩ := endOk_range h
    have hd : decide (endOkP a p) = true := decide_eq_true h
    rw [hd] at hOk
    have hv : textV a p = endT a p := if_pos h
    rw [hv]
    go_enter Tryd.func31, Tryd.ntmps31
    go_wp2_with fail
    rw [← hW1]
    clear hW1
    (go_at_call 44; refine (hOk _).mono ?_; rintro e W2 ⟨rfl, hb⟩)
    have HB2 := Aside0.mk (below_step HB.out hb)
    have d0 : W2.cell? ⟨w.heap.size, 0, none⟩ = some (.int .i64 a) := (hb.cell (p := ⟨w.heap.size, 0, none⟩) hsz).trans c0
    have d1 : W2.cell? ⟨w.heap.size, 1, none⟩ = some (.int .i64 p) := (hb.cell (p := ⟨w.heap.size, 1, none⟩) hsz).trans c1
    have hsz2 : w.heap.size < W2.heap.size := Nat.lt_of_lt_of_le hsz hb.size
    clear hb c0 c1 hblk hOk
    have z1 := dec3_size a
    have z2 := dec3_size p
    have f1 : (9223372036854775807 < (dec3 a).size + 1) = False := eq_false (by omega)
    have f2 : (9223372036854775807 < (dec3 a ++ (⟨#[32]⟩ : ByteArray)).size + (dec3 p).size) = False := eq_false (by rw [ByteArray.size_append]; show ¬ (_ < (dec3 a).size + 1 + _); omega)
    have f3 : (9223372036854775807 < (dec3 a).size + 1 + (dec3 p).size) = False := eq_false (by omega)
    clear z1 z2
    go_wp2
    go_region_with (first | (go_at_call_of 64 (Value.int IntKind.i64 a); refine (itoa_calls a (by omega) (by omega) _ ?_).mono ?_; exact HT.out.below (below_drew1 HB2.out); rintro e W3 ⟨rfl, hb3⟩; (have HB3 := Aside0.mk (below_step (below_drew1 HB2.out) hb3)); (have y0 : W3.cell? ⟨w.heap.size, 0, none⟩ = some (.int .i64 a) := (hb3.cell (p := ⟨w.heap.size, 0, none⟩) hsz2).trans d0); (have y1 : W3.cell? ⟨w.heap.size, 1, none⟩ = some (.int .i64 p) := (hb3.cell (p := ⟨w.heap.size, 1, none⟩) hsz2).trans d1); clear hb3) | (go_at_call_of 64 (Value.int IntKind.i64 p); refine (itoa_calls p (by omega) (by omega) _ ?_).mono ?_; exact HT.out.below HB3.out; rintro e W4 ⟨rfl, hb4⟩; (have HB4 := Aside0.mk (below_step HB3.out hb4)); clear hb4))
    all_goals (go_wp2; go_ret; exact ⟨rfl, HB4.out⟩)
  · have hd : decide (endOkP a p) = false := decide_eq_false h
    rw [hd] at hOk
    have hv : textV a p = ⟨#[]⟩ := if_neg h
    rw [hv]
    go_enter Tryd.func31, Tryd.ntmps31
    go_wp2_with fail
    rw [← hW1]
    clear hW1
    (go_at_call 44; refine (hOk _).mono ?_; rintro e W2 ⟨rfl, hb⟩)
    have HB2 := Aside0.mk (below_step HB.out hb)
    go_wp2
    go_ret
    exact ⟨rfl, HB2.out⟩
theorem atoi_any (s : ByteArray) (hs : s.size ≤ 281474976710656) (w : World) (hL : LErr w) :
    Calls Tryd.prog 86 #[.string s] w fun e w' => ∃ x ev, e = .returned (.tuple #[.int .i64 x, ev]) ∧ Below w.heap.size w w' := by
  rcases Classical.em (∃ v, Go.Lib.atoiAll s.data.toList = .ok v) with ⟨v, h⟩ | h
  · exact (atoi_ok s hs v h w).mono fun e w' h => ⟨_, _, h.1, h.2⟩
  · exact (atoi_no s hs (fun v e => h ⟨v, e⟩) w hL).mono fun e w' ⟨x, tp, pv, h1, h2⟩ => ⟨_, _, h1, h2⟩
def CutIs (s f g : ByteArray) (b : Bool) : Prop := ∀ W, Calls Tryd.prog 85 #[.string s, .string ⟨#[32]⟩] W fun e w' => e = .returned (.tuple #[.string f, .string g, .bool b]) ∧ ∃ n, w' = W.drewN n
theorem res_world (w : World) : ∃ W1, W1 = w.alloc (.cells #[.int .i64 0, .int .i64 0] 43) ∧ Aside0 (Below w.heap.size w W1) ∧ Aside0 (W1.heap[w.heap.size]? = some (.cells #[.int .i64 0, .int .i64 0] 43)) ∧ w.heap.size < W1.heap.size :=
  ⟨_, rfl, ⟨(Below.refl _ w).alloc (Nat.le_refl _) _⟩, ⟨by show (w.heap.push _)[w.heap.size]? = _; rw [Array.getElem?_push, if_pos rfl]⟩, by simp⟩
theorem err_lt {w : World} (h : LErr w) : 0 < w.heap.size := by
  obtain ⟨ta, pa, ha⟩ := h.err
  exact World.block_lt_of_cell? w ⟨0, 0, none⟩ (show w.cell? ⟨0, 0, none⟩ = some (.iface ta pa) by simpa using World.var?_cell gErr ha 0)
set_option maxHeartbeats 4000000 in
set_option maxRecDepth 100000 in
theorem read_no1 (s f g : ByteArray) (b : Bool) (w : World) (hf : f.size ≤ 281474976710656) (hg : g.size ≤ 281474976710656) (hL : LErr w) (hc : CutIs s f g b) (hno : ∀ v, Go.Lib.atoiAll f.data.toList ≠ .ok v) :
    Calls Tryd.prog 67 #[.string s] w fun e w' => (∃ tp pv, e = .returned (.tuple #[EV 0 0, .iface tp pv])) ∧ Below w.heap.size w w' := by
  have HL := Aside0.mk hL
  have HC := Aside0.mk hc
  clear hL hc
  obtain ⟨W1, hW1, HB1, G1, hsz1⟩ := res_world w
  go_enter Tryd.func67, Tryd.ntmps67
  go_wp2_with fail
  rw [← hW1]
  clear hW1
  (go_at_call 85; refine (HC.out _).mono ?_; rintro e W2' ⟨rfl, n, rfl⟩)
  generalize hW2 : W1.drewN n = W2
  have HB2 := Aside0.mk (show Below w.heap.size w W2 by rw [← hW2]; exact pw_below_drewN HB1.out n)
  have G2 := Aside0.mk (show W2.heap[w.heap.size]? = some (.cells #[.int .i64 0, .int .i64 0] 43) by rw [← hW2]; exact G1.out)
  have hsz2 : w.heap.size < W2.heap.size := by rw [← hW2]; exact hsz1
  clear hW2 hsz1 HB1 G1
  go_wp2_with fail
  (refine (atoi_no f hf hno _ (HL.out.below HB2.out)).mono ?_; rintro e W3 ⟨x, tp, pv, rfl, hb3⟩)
  have HB3 := Aside0.mk (below_step HB2.out hb3)
  have G3 := Aside0.mk ((hb3.block w.heap.size hsz2).trans G2.out)
  have hsz3 := Nat.lt_of_lt_of_le hsz2 hb3.size
  clear hb3 hsz2 HB2 G2
  go_wp2_with fail
  (refine (atoi_any g hg _ (HL.out.below HB3.out)).mono ?_; rintro e W4 ⟨y, ev, rfl, hb4⟩)
  have HB4 := Aside0.mk (below_step HB3.out hb4)
  have G4 := Aside0.mk ((hb4.block w.heap.size hsz3).trans G3.out)
  have hsz4 := Nat.lt_of_lt_of_le hsz3 hb4.size
  clear hb4 hsz3 HB3 G3
  obtain ⟨te, pe, herr⟩ := (HL.out.below HB4.out).err
  have c0 : W4.cell? ⟨0, 0, none⟩ = some (.iface te pe) := by simpa using World.var?_cell gErr herr 0
  have d0 : W4.cell? ⟨w.heap.size, 0, none⟩ = some (.int .i64 0) := (cell_at G4.out 0).trans rfl
  have d1 : W4.cell? ⟨w.heap.size, 1, none⟩ = some (.int .i64 0) := (cell_at G4.out 1).trans rfl
  have z0 : W4.frozen? ⟨w.heap.size, 0, none⟩ = false := by simp [World.frozen?, G4.out]
  have z1 : W4.frozen? ⟨w.heap.size, 1, none⟩ = false := by simp [World.frozen?, G4.out]
  have h0lt : 0 < W4.heap.size := by omega
  have hw0 : 0 < w.heap.size := err_lt HL.out
  have hne1 : ¬ (0 = w.heap.size) := by omega
  have hne2 : ¬ (w.heap.size = 0) := by omega
  go_wp2
  go_region
  go_wp2
  refine bodyPost_ret (results_ct rfl _ _ w.heap.size 43 #[.int .i64 0, .int .i64 0] (0, 0) _ rfl (blk_drew (blk_alloc (blk_put (blk_put G4.out 0 _ rfl) 1 _ rfl) _)) Tryd.underlying43 rfl (by kernel_rfl)) rfl ?_
  exact ⟨⟨te, pe, rfl⟩, below_drew1 (((HB4.out.setCell (p := ⟨w.heap.size, 0, none⟩) (by simp) _).setCell (p := ⟨w.heap.size, 1, none⟩) (by simp) _).alloc (by simp [World.setCell]; omega) _)⟩
set_option maxHeartbeats 4000000 in
set_option maxRecDepth 100000 in
theorem read_no2 (s f g : ByteArray) (b : Bool) (x : Int) (w : World) (hf : f.size ≤ 281474976710656) (hg : g.size ≤ 281474976710656) (hL : LErr w) (hc : CutIs s f g b) (hx : Go.Lib.atoiAll f.data.toList = .ok x) (hno : ∀ v, Go.Lib.atoiAll g.data.toList ≠ .ok v) :
    Calls Tryd.prog 67 #[.string s] w fun e w' => (∃ tp pv, e = .returned (.tuple #[EV 0 0, .iface tp pv])) ∧ Below w.heap.size w w' := by
  have HL := Aside0.mk hL
  have HC := Aside0.mk hc
  clear hL hc
  obtain ⟨W1, hW1, HB1, G1, hsz1⟩ := res_world w
  go_enter Tryd.func67, Tryd.ntmps67
  go_wp2_with fail
  rw [← hW1]
  clear hW1
  (go_at_call 85; refine (HC.out _).mono ?_; rintro e W2' ⟨rfl, n, rfl⟩)
  generalize hW2 : W1.drewN n = W2
  have HB2 := Aside0.mk (show Below w.heap.size w W2 by rw [← hW2]; exact pw_below_drewN HB1.out n)
  have G2 := Aside0.mk (show W2.heap[w.heap.size]? = some (.cells #[.int .i64 0, .int .i64 0] 43) by rw [← hW2]; exact G1.out)
  have hsz2 : w.heap.size < W2.heap.size := by rw [← hW2]; exact hsz1
  clear hW2 hsz1 HB1 G1
  go_wp2_with fail
  (refine (atoi_ok f hf x hx _).mono ?_; rintro e W3 ⟨rfl, hb3⟩)
  have HB3 := Aside0.mk (below_step HB2.out hb3)
  have G3 := Aside0.mk ((hb3.block w.heap.size hsz2).trans G2.out)
  have hsz3 := Nat.lt_of_lt_of_le hsz2 hb3.size
  clear hb3 hsz2 HB2 G2
  go_wp2_with fail
  (refine (atoi_no g hg hno _ (HL.out.below HB3.out)).mono ?_; rintro e W4 ⟨y, tp, pv, rfl, hb4⟩)
  have HB4 := Aside0.mk (below_step HB3.out hb4)
  have G4 := Aside0.mk ((hb4.block w.heap.size hsz3).trans G3.out)
  have hsz4 := Nat.lt_of_lt_of_le hsz3 hb4.size
  clear hb4 hsz3 HB3 G3
  obtain ⟨te, pe, herr⟩ := (HL.out.below HB4.out).err
  have c0 : W4.cell? ⟨0, 0, none⟩ = some (.iface te pe) := by simpa using World.var?_cell gErr herr 0
  have d0 : W4.cell? ⟨w.heap.size, 0, none⟩ = some (.int .i64 0) := (cell_at G4.out 0).trans rfl
  have d1 : W4.cell? ⟨w.heap.size, 1, none⟩ = some (.int .i64 0) := (cell_at G4.out 1).trans rfl
  have z0 : W4.frozen? ⟨w.heap.size, 0, none⟩ = false := by simp [World.frozen?, G4.out]
  have z1 : W4.frozen? ⟨w.heap.size, 1, none⟩ = false := by simp [World.frozen?, G4.out]
  have h0lt : 0 < W4.heap.size := by omega
  have hw0 : 0 < w.heap.size := err_lt HL.out
  have hne1 : ¬ (0 = w.heap.size) := by omega
  have hne2 : ¬ (w.heap.size = 0) := by omega
  go_wp2
  go_region
  go_wp2
  refine bodyPost_ret (results_ct rfl _ _ w.heap.size 43 #[.int .i64 0, .int .i64 0] (0, 0) _ rfl (blk_drew (blk_alloc (blk_put (blk_put G4.out 0 _ rfl) 1 _ rfl) _)) Tryd.underlying43 rfl (by kernel_rfl)) rfl ?_
  exact ⟨⟨te, pe, rfl⟩, below_drew1 (((HB4.out.setCell (p := ⟨w.heap.size, 0, none⟩) (by simp) _).setCell (p := ⟨w.heap.size, 1, none⟩) (by simp) _).alloc (by simp [World.setCell]; omega) _)⟩
set_option maxHeartbeats 4000000 in
set_option maxRecDepth 100000 in
theorem read_no3 (s f g : ByteArray) (b : Bool) (x y : Int) (w : World) (hf : f.size ≤ 281474976710656) (hg : g.size ≤ 281474976710656) (hL : LErr w) (hc : CutIs s f g b) (hOk : ∀ W, Calls Tryd.prog 44 #[EV x y] W fun e w' => e = .returned (.bool (decide (endOkP x y))) ∧ Below W.heap.size W w') (hx : Go.Lib.atoiAll f.data.toList = .ok x) (hy : Go.Lib.atoiAll g.data.toList = .ok y) (hne : ((textV x y).toList == s.toList) = false) :
    Calls Tryd.prog 67 #[.string s] w fun e w' => (∃ tp pv, e = .returned (.tuple #[EV 0 0, .iface tp pv])) ∧ Below w.heap.size w w' := by
  have HL := Aside0.mk hL
  have HC := Aside0.mk hc
  clear hL hc
  obtain ⟨W1, hW1, HB1, G1, hsz1⟩ := res_world w
  go_enter Tryd.func67, Tryd.ntmps67
  go_wp2_with fail
  rw [← hW1]
  clear hW1
  (go_at_call 85; refine (HC.out _).mono ?_; rintro e W2' ⟨rfl, n, rfl⟩)
  generalize hW2 : W1.drewN n = W2
  have HB2 := Aside0.mk (show Below w.heap.size w W2 by rw [← hW2]; exact pw_below_drewN HB1.out n)
  have G2 := Aside0.mk (show W2.heap[w.heap.size]? = some (.cells #[.int .i64 0, .int .i64 0] 43) by rw [← hW2]; exact G1.out)
  have hsz2 : w.heap.size < W2.heap.size := by rw [← hW2]; exact hsz1
  clear hW2 hsz1 HB1 G1
  go_wp2_with fail
  (refine (atoi_ok f hf x hx _).mono ?_; rintro e W3 ⟨rfl, hb3⟩)
  have HB3 := Aside0.mk (below_step HB2.out hb3)
  have G3 := Aside0.mk ((hb3.block w.heap.size hsz2).trans G2.out)
  have hsz3 := Nat.lt_of_lt_of_le hsz2 hb3.size
  clear hb3 hsz2 HB2 G2
  go_wp2_with fail
  (refine (atoi_ok g hg y hy _).mono ?_; rintro e W4 ⟨rfl, hb4⟩)
  have HB4 := Aside0.mk (below_step HB3.out hb4)
  have G4 := Aside0.mk ((hb4.block w.heap.size hsz3).trans G3.out)
  have hsz4 := Nat.lt_of_lt_of_le hsz3 hb4.size
  clear hb4 hsz3 HB3 G3
  go_wp2_with fail
  (go_at_call 31; refine (text_calls x y _ ((HL.out.below (HB4.out.alloc (by omega) _)).tab) hOk).mono ?_; rintro e W5 ⟨rfl, hb5⟩)
  have HB5 := Aside0.mk (below_step (HB4.out.alloc (by omega) _) hb5)
  have G5 := Aside0.mk ((hb5.block w.heap.size (by rw [World.size_alloc]; omega)).trans (blk_alloc G4.out _))
  have E5 := Aside0.mk ((hb5.block W4.heap.size (by rw [World.size_alloc]; omega)).trans (show (W4.heap.push _)[W4.heap.size]? = _ by rw [Array.getElem?_push, if_pos rfl]))
  have hsz5 : W4.heap.size < W5.heap.size := Nat.lt_of_lt_of_le (by rw [World.size_alloc]; omega) hb5.size
  have e0 : W5.cell? ⟨W4.heap.size, 0, none⟩ = some (.int .i64 x) := (cell_at E5.out 0).trans rfl
  have e1 : W5.cell? ⟨W4.heap.size, 1, none⟩ = some (.int .i64 y) := (cell_at E5.out 1).trans rfl
  clear hb5 HB4 G4
  obtain ⟨te, pe, herr⟩ := (HL.out.below HB5.out).err
  have c0 : W5.cell? ⟨0, 0, none⟩ = some (.iface te pe) := by simpa using World.var?_cell gErr herr 0
  have d0 : W5.cell? ⟨w.heap.size, 0, none⟩ = some (.int .i64 0) := (cell_at G5.out 0).trans rfl
  have d1 : W5.cell? ⟨w.heap.size, 1, none⟩ = some (.int .i64 0) := (cell_at G5.out 1).trans rfl
  have z0 : W5.frozen? ⟨w.heap.size, 0, none⟩ = false := by simp [World.frozen?, G5.out]
  have z1 : W5.frozen? ⟨w.heap.size, 1, none⟩ = false := by simp [World.frozen?, G5.out]
  have h0lt : 0 < W5.heap.size := by omega
  have hw0 : 0 < w.heap.size := err_lt HL.out
  have hne1 : ¬ (0 = w.heap.size) := by omega
  have hne2 : ¬ (w.heap.size = 0) := by omega
  go_wp2
  go_region
  go_wp2
  refine bodyPost_ret (results_ct rfl _ _ w.heap.size 43 #[.int .i64 0, .int .i64 0] (0, 0) _ rfl (blk_drew (blk_put (blk_put G5.out 0 _ rfl) 1 _ rfl)) Tryd.underlying43 rfl (by kernel_rfl)) rfl ?_
  exact ⟨⟨te, pe, rfl⟩, below_drew1 ((HB5.out.setCell (p := ⟨w.heap.size, 0, none⟩) (by simp) _).setCell (p := ⟨w.heap.size, 1, none⟩) (by simp) _)⟩
set_option maxHeartbeats 4000000 in
set_option maxRecDepth 100000 in
theorem read_yes (s f g : ByteArray) (b : Bool) (x y : Int) (w : World) (hf : f.size ≤ 281474976710656) (hg : g.size ≤ 281474976710656) (hL : LErr w) (hc : CutIs s f g b) (hOk : ∀ W, Calls Tryd.prog 44 #[EV x y] W fun e w' => e = .returned (.bool (decide (endOkP x y))) ∧ Below W.heap.size W w') (hx : Go.Lib.atoiAll f.data.toList = .ok x) (hy : Go.Lib.atoiAll g.data.toList = .ok y) (heq : ((textV x y).toList == s.toList) = true) :
    Calls Tryd.prog 67 #[.string s] w fun e w' => e = .returned (.tuple #[EV x y, .nilIface]) ∧ Below w.heap.size w w' := by
  have HL := Aside0.mk hL
  have HC := Aside0.mk hc
  clear hL hc
  obtain ⟨W1, hW1, HB1, G1, hsz1⟩ := res_world w
  go_enter Tryd.func67, Tryd.ntmps67
  go_wp2_with fail
  rw [← hW1]
  clear hW1
  (go_at_call 85; refine (HC.out _).mono ?_; rintro e W2' ⟨rfl, n, rfl⟩)
  generalize hW2 : W1.drewN n = W2
  have HB2 := Aside0.mk (show Below w.heap.size w W2 by rw [← hW2]; exact pw_below_drewN HB1.out n)
  have G2 := Aside0.mk (show W2.heap[w.heap.size]? = some (.cells #[.int .i64 0, .int .i64 0] 43) by rw [← hW2]; exact G1.out)
  have hsz2 : w.heap.size < W2.heap.size := by rw [← hW2]; exact hsz1
  clear hW2 hsz1 HB1 G1
  go_wp2_with fail
  (refine (atoi_ok f hf x hx _).mono ?_; rintro e W3 ⟨rfl, hb3⟩)
  have HB3 := Aside0.mk (below_step HB2.out hb3)
  have G3 := Aside0.mk ((hb3.block w.heap.size hsz2).trans G2.out)
  have hsz3 := Nat.lt_of_lt_of_le hsz2 hb3.size
  clear hb3 hsz2 HB2 G2
  go_wp2_with fail
  (refine (atoi_ok g hg y hy _).mono ?_; rintro e W4 ⟨rfl, hb4⟩)
  have HB4 := Aside0.mk (below_step HB3.out hb4)
  have G4 := Aside0.mk ((hb4.block w.heap.size hsz3).trans G3.out)
  have hsz4 := Nat.lt_of_lt_of_le hsz3 hb4.size
  clear hb4 hsz3 HB3 G3
  go_wp2_with fail
  (go_at_call 31; refine (text_calls x y _ ((HL.out.below (HB4.out.alloc (by omega) _)).tab) hOk).mono ?_; rintro e W5 ⟨rfl, hb5⟩)
  have HB5 := Aside0.mk (below_step (HB4.out.alloc (by omega) _) hb5)
  have G5 := Aside0.mk ((hb5.block w.heap.size (by rw [World.size_alloc]; omega)).trans (blk_alloc G4.out _))
  have E5 := Aside0.mk ((hb5.block W4.heap.size (by rw [World.size_alloc]; omega)).trans (show (W4.heap.push _)[W4.heap.size]? = _ by rw [Array.getElem?_push, if_pos rfl]))
  have hsz5 : W4.heap.size < W5.heap.size := Nat.lt_of_lt_of_le (by rw [World.size_alloc]; omega) hb5.size
  have e0 : W5.cell? ⟨W4.heap.size, 0, none⟩ = some (.int .i64 x) := (cell_at E5.out 0).trans rfl
  have e1 : W5.cell? ⟨W4.heap.size, 1, none⟩ = some (.int .i64 y) := (cell_at E5.out 1).trans rfl
  clear hb5 HB4 G4
  obtain ⟨te, pe, herr⟩ := (HL.out.below HB5.out).err
  have c0 : W5.cell? ⟨0, 0, none⟩ = some (.iface te pe) := by simpa using World.var?_cell gErr herr 0
  have d0 : W5.cell? ⟨w.heap.size, 0, none⟩ = some (.int .i64 0) := (cell_at G5.out 0).trans rfl
  have d1 : W5.cell? ⟨w.heap.size, 1, none⟩ = some (.int .i64 0) := (cell_at G5.out 1).trans rfl
  have z0 : W5.frozen? ⟨w.heap.size, 0, none⟩ = false := by simp [World.frozen?, G5.out]
  have z1 : W5.frozen? ⟨w.heap.size, 1, none⟩ = false := by simp [World.frozen?, G5.out]
  have h0lt : 0 < W5.heap.size := by omega
  have hw0 : 0 < w.heap.size := err_lt HL.out
  have hne1 : ¬ (0 = w.heap.size) := by omega
  have hne2 : ¬ (w.heap.size = 0) := by omega
  go_wp2
  refine bodyPost_ret (results_ct rfl _ _ w.heap.size 43 #[.int .i64 x, .int .i64 y] (0, 0) _ rfl (blk_put (blk_put G5.out 0 _ rfl) 1 _ rfl) Tryd.underlying43 rfl (by kernel_rfl)) rfl ?_
  exact ⟨rfl, (HB5.out.setCell (p := ⟨w.heap.size, 0, none⟩) (by simp) _).setCell (p := ⟨w.heap.size, 1, none⟩) (by simp) _⟩
def IsEnd (s : ByteArray) (a p : Int) : Prop := endOkP a p ∧ s = endT a p
theorem toList_eq_iff (s t : ByteArray) : (s.toList == t.toList) = decide (s = t) := by
  rw [ByteArray.toList_eq, ByteArray.toList_eq]
  by_cases h : s = t
  · subst h; simp
  · rw [decide_eq_false h, beq_eq_false_iff_ne]
    intro e
    exact h (ByteArray.ext (Array.toList_inj.1 e))
def OkC : Prop := ∀ a p W, Calls Tryd.prog 44 #[EV a p] W fun e w' => e = .returned (.bool (decide (endOkP a p))) ∧ Below W.heap.size W w'
theorem read_calls (s : ByteArray) (w : World) (hs : s.size ≤ 281474976710656) (hL : LErr w) (hOk : OkC) :
    Calls Tryd.prog 67 #[.string s] w fun e w' => ((∃ a p, IsEnd s a p ∧ e = .returned (.tuple #[EV a p, .nilIface])) ∨ ((∀ a p, ¬ IsEnd s a p) ∧ ∃ tp pv, e = .returned (.tuple #[EV 0 0, .iface tp pv]))) ∧ Below w.heap.size w w' := by
  by_cases hi : Go.Lib.indexByte s.data.toList 32 = -1
  · have hno : ∀ a p, ¬ IsEnd s a p := fun a p ⟨h1, h2⟩ => by
      have := (cut_endT a p h1).1
      rw [← h2, hi] at this
      omega
    have hc : CutIs s s ⟨#[]⟩ false := fun W => cut_none s W (by omega) hi
    rcases Classical.em (∃ v, Go.Lib.atoiAll s.data.toList = .ok v) with ⟨x, hx⟩ | hf
    · exact (read_no2 s s ⟨#[]⟩ false x w hs (by show 0 ≤ _; omega) hL hc hx (fun v h => by cases h)).mono fun e w' h => ⟨.inr ⟨hno, h.1⟩, h.2⟩
    · exact (read_no1 s s ⟨#[]⟩ false w hs (by show 0 ≤ _; omega) hL hc (fun v h => hf ⟨v, h⟩)).mono fun e w' h => ⟨.inr ⟨hno, h.1⟩, h.2⟩
  · have hge := Go.Lib.indexByte_ge s.data.toList 32
    obtain ⟨j, hj⟩ := Int.eq_ofNat_of_zero_le (show 0 ≤ Go.Lib.indexByte s.data.toList 32 by omega)
    have hc : CutIs s (s.extract 0 j) (s.extract (j + 1) s.size) true := fun W => cut_some s W (by omega) j hj
    have hz1 : (s.extract 0 j).size ≤ 281474976710656 := by rw [ByteArray.size_extract]; omega
    have hz2 : (s.extract (j + 1) s.size).size ≤ 281474976710656 := by rw [ByteArray.size_extract]; omega
    rcases Classical.em (∃ a p, IsEnd s a p) with ⟨a, p, he⟩ | hno
    · obtain ⟨a0, a1, p0, p1⟩ := endOk_range he.1
      obtain ⟨c1, c2, c3⟩ := cut_endT a p he.1
      rw [← he.2] at c1 c2 c3
      rw [hj] at c1
      have ej : j = (dec3 a).size := by omega
      subst ej
      have hx : Go.Lib.atoiAll (s.extract 0 (dec3 a).size).data.toList = .ok a := by rw [c2]; exact atoi_dec3 a (by omega) (by omega)
      have hy : Go.Lib.atoiAll (s.extract ((dec3 a).size + 1) s.size).data.toList = .ok p := by rw [c3]; exact atoi_dec3 p (by omega) (by omega)
      refine (read_yes s _ _ true a p w hz1 hz2 hL hc (hOk a p) hx hy ?_).mono fun e w' h => ⟨.inl ⟨a, p, he, h.1⟩, h.2⟩
      rw [toList_eq_iff]
      exact decide_eq_true (by unfold textV; rw [if_pos he.1]; exact he.2.symm)
    · have hno' : ∀ a p, ¬ IsEnd s a p := fun a p h => hno ⟨a, p, h⟩
      rcases Classical.em (∃ v, Go.Lib.atoiAll (s.extract 0 j).data.toList = .ok v) with ⟨x, hx⟩ | hf
      · rcases Classical.em (∃ v, Go.Lib.atoiAll (s.extract (j + 1) s.size).data.toList = .ok v) with ⟨y, hy⟩ | hg
        · refine (read_no3 s _ _ true x y w hz1 hz2 hL hc (hOk x y) hx hy ?_).mono fun e w' h => ⟨.inr ⟨hno', h.1⟩, h.2⟩
          rw [toList_eq_iff]
          refine decide_eq_false fun e => ?_
          unfold textV at e
          by_cases ho : endOkP x y
          · rw [if_pos ho] at e; exact hno' x y ⟨ho, e.symm⟩
          · rw [if_neg ho] at e
            have := (Go.Lib.indexByte_some hj).1
            rw [← e] at this
            simp at this
        · exact (read_no2 s _ _ true x w hz1 hz2 hL hc hx (fun v h => hg ⟨v, h⟩)).mono fun e w' h => ⟨.inr ⟨hno', h.1⟩, h.2⟩
      · exact (read_no1 s _ _ true w hz1 hz2 hL hc (fun v h => hf ⟨v, h⟩)).mono fun e w' h => ⟨.inr ⟨hno', h.1⟩, h.2⟩
def RD (s : ByteArray) (x y : Int) (ev : Value) : Prop := (IsEnd s x y ∧ ev = .nilIface) ∨ ((∀ a p, ¬ IsEnd s a p) ∧ x = 0 ∧ y = 0 ∧ ∃ tp pv, ev = .iface tp pv)
theorem readRD (s : ByteArray) (w : World) (hs : s.size ≤ 281474976710656) (hL : LErr w) (hOk : OkC) :
    Calls Tryd.prog 67 #[.string s] w fun e w' => ∃ x y ev, RD s x y ev ∧ e = .returned (.tuple #[EV x y, ev]) ∧ Below w.heap.size w w' := by
  refine (read_calls s w hs hL hOk).mono ?_
  rintro e w' ⟨⟨a, p, h, rfl⟩ | ⟨h, tp, pv, rfl⟩, hb⟩
  · exact ⟨a, p, _, .inl ⟨h, rfl⟩, rfl, hb⟩
  · exact ⟨0, 0, _, .inr ⟨h, rfl, rfl, tp, pv, rfl⟩, rfl, hb⟩
def ED (s : ByteArray) (x y : Int) (ok : Bool) : Prop := (IsEnd s x y ∧ ok = true) ∨ ((∀ a p, ¬ IsEnd s a p) ∧ x = 0 ∧ y = 0 ∧ ok = false)
theorem fin_world {w W2 : World} (HB2 : Below w.heap.size w W2) (hsz : w.heap.size < W2.heap.size) (x y : Int) (G2 : W2.heap[w.heap.size]? = some (.cells #[.int .i64 0, .int .i64 0] 43)) (o : Obj) :
    Below w.heap.size w (((W2.setCell ⟨w.heap.size, 0, none⟩ (.int .i64 x)).setCell ⟨w.heap.size, 1, none⟩ (.int .i64 y)).alloc o).drew ∧ (((W2.setCell ⟨w.heap.size, 0, none⟩ (.int .i64 x)).setCell ⟨w.heap.size, 1, none⟩ (.int .i64 y)).alloc o).drew.heap[w.heap.size]? = some (.cells #[.int .i64 x, .int .i64 y] 43) :=
  ⟨below_drew1 (((HB2.setCell (p := ⟨w.heap.size, 0, none⟩) (by simp) _).setCell (p := ⟨w.heap.size, 1, none⟩) (by simp) _).alloc (by simp [World.setCell]; omega) _), blk_drew (blk_alloc (blk_put (blk_put G2 0 _ rfl) 1 _ rfl) _)⟩
set_option maxHeartbeats 4000000 in
set_option maxRecDepth 100000 in
theorem endread_calls (s : ByteArray) (w : World) (hs : s.size ≤ 281474976710656) (hL : LErr w) (hOk : OkC) :
    Calls Tryd.prog 35 #[.string s] w fun e w' => ∃ x y ok, ED s x y ok ∧ e = .returned (.tuple #[EV x y, .bool ok]) ∧ Below w.heap.size w w' := by
  have HL := Aside0.mk hL
  clear hL
  obtain ⟨W1, hW1, HB1, G1, hsz1⟩ := res_world w
  go_enter Tryd.func35, Tryd.ntmps35
  go_wp2_with fail
  rw [← hW1]
  clear hW1
  (go_at_call 67; refine (readRD s _ hs (HL.out.below HB1.out) hOk).mono ?_; rintro e W2 ⟨x, y, ev, hr, rfl, hb2⟩)
  have HB2 := Aside0.mk (below_step HB1.out hb2)
  have G2 := Aside0.mk ((hb2.block w.heap.size hsz1).trans G1.out)
  have hsz2 := Nat.lt_of_lt_of_le hsz1 hb2.size
  clear hb2 HB1 G1 hsz1
  have d0 : W2.cell? ⟨w.heap.size, 0, none⟩ = some (.int .i64 0) := (cell_at G2.out 0).trans rfl
  have d1 : W2.cell? ⟨w.heap.size, 1, none⟩ = some (.int .i64 0) := (cell_at G2.out 1).trans rfl
  have z0 : W2.frozen? ⟨w.heap.size, 0, none⟩ = false := by simp [World.frozen?, G2.out]
  have z1 : W2.frozen? ⟨w.heap.size, 1, none⟩ = false := by simp [World.frozen?, G2.out]
  have hne1 : ¬ (W2.heap.size = w.heap.size) := by omega
  have hne2 : ¬ (w.heap.size = W2.heap.size) := by omega
  rcases hr with ⟨hi, rfl⟩ | ⟨hn, rfl, rfl, tp, pv, rfl⟩
  · go_wp2
    go_region
    go_wp2
    obtain ⟨f1, f2⟩ := fin_world HB2.out hsz2 x y G2.out (.cells #[.int .i64 x, .int .i64 y] 43)
    refine bodyPost_ret (results_ct rfl _ _ w.heap.size 43 #[.int .i64 x, .int .i64 y] (0, 0) _ rfl f2 Tryd.underlying43 rfl (by kernel_rfl)) rfl ?_
    exact ⟨x, y, true, .inl ⟨hi, rfl⟩, rfl, f1⟩
  · go_wp2
    go_region
    go_wp2
    obtain ⟨f1, f2⟩ := fin_world HB2.out hsz2 0 0 G2.out (.cells #[.int .i64 0, .int .i64 0] 43)
    refine bodyPost_ret (results_ct rfl _ _ w.heap.size 43 #[.int .i64 0, .int .i64 0] (0, 0) _ rfl f2 Tryd.underlying43 rfl (by kernel_rfl)) rfl ?_
    exact ⟨0, 0, false, .inr ⟨hn, rfl, rfl, rfl⟩, rfl, f1⟩
end Go.Proofs.YtlofgoahgnllkaaDoor.Ends
