/- What the reference's draws and functions that this law reaches come to: plain lemmas on the printed functions. -/
import Derived.Test.YtdfoelhpeeanlaaQFnExactSegBytesx4
import Derived.Test.YtdfoelhpeeanlaaLib
import Derived.Laws.BitsLemmas
set_option linter.unusedVariables false
set_option linter.unusedSimpArgs false
namespace Go.Proofs.Ytdfoelhpeeanlaa.QFnExactSegBytes
open Go.RowKit Go.Proofs.YtdfoelhpeeanlaaW.PrintWords Go.Proofs.YtdfoelhpeeanlaaW.PrintLast Go.Proofs.YtdfoelhpeeanlaaW.PrintMore
open Go.Proofs.Ytdfoelhpeeanlaa
def segStep (n x : Int) : Int := (n * 257 + x) % 65521
def sumF (l : List Int) : Int := l.foldl segStep 1
theorem step_eq {n x : Int} (h0 : 0 ≤ n) (h1 : n ≤ 65520) (x0 : 0 ≤ x) (x1 : x ≤ 255) : Int.tmod (wrap64 ((wrap64 (n * 257)) + (wrap64 x))) 65521 = segStep n x := by
  rw [Lib.wrap_id (x := n * 257) (by omega) (by omega), Lib.wrap_id (x := x) (by omega) (by omega), Lib.wrap_id (by omega) (by omega)]
  rw [Int.tmod_eq_emod_of_nonneg (by omega)]; rfl
theorem step_bd (n x : Int) : 0 ≤ segStep n x ∧ segStep n x ≤ 65520 := by
  unfold segStep; omega
theorem fold_bd : ∀ (l : List Int) (n : Int), 0 ≤ n → n ≤ 65520 → 0 ≤ l.foldl segStep n ∧ l.foldl segStep n ≤ 65520
  | [], n, h0, h1 => ⟨h0, h1⟩
  | x :: l, n, _, _ => fold_bd l _ (step_bd n x).1 (step_bd n x).2
theorem sumF_bd (l : List Int) : 0 ≤ sumF l ∧ sumF l ≤ 65520 := fold_bd l 1 (by omega) (by omega)
theorem spec_sum (l : List Int) (hl : l.length ≤ 140737488351232) (hb : Lib.Bytes l) (d : Nat) : ∀ (k i : Nat) (n : Int), i ≤ l.length → l.length - i = d → d < k → 0 ≤ n → n ≤ 65520 →
    spec_SegSum.l0 k l n (i : Int) = some ((l.drop i).foldl segStep n) := by
  induction d with
  | zero =>
    intro k i n hi hd hk h0 h1
    obtain ⟨k, rfl⟩ : ∃ m, k = m + 1 := ⟨k - 1, by omega⟩
    simp only [spec_SegSum.l0]; rw [if_neg (by omega), List.drop_eq_nil_of_le (by omega)]; rfl
  | succ d ih =>
    intro k i n hi hd hk h0 h1
    obtain ⟨k, rfl⟩ : ∃ m, k = m + 1 := ⟨k - 1, by omega⟩
    have hr := Lib.bytes_rd hb i
    simp only [spec_SegSum.l0]
    rw [if_pos (by omega), if_pos (by omega), step_eq h0 h1 hr.1 hr.2, Lib.wrap_id (x := (i : Int) + 1) (by omega) (by omega)]
    have := ih k (i + 1) (segStep n (rd l i)) (by omega) (by omega) (by omega) (step_bd _ _).1 (step_bd _ _).2
    rw [show (((i + 1 : Nat)) : Int) = (i : Int) + 1 by omega] at this
    rw [this, Lib.drop_cons l i (by omega)]; rfl
theorem spec_sum_ev (l : List Int) (hl : l.length ≤ 140737488351232) (hb : Lib.Bytes l) : Ev (fun k => spec_SegSum.f k l) (sumF l) := by
  refine Ev.of (k := l.length + 1) (spec_SegSum.mono l) ?_
  have := spec_sum l hl hb l.length (l.length + 1) 0 1 (by omega) (by omega) (by omega) (by omega) (by omega)
  simpa [spec_SegSum.f, sumF] using this
theorem impl_sum (l : List Int) (hl : l.length ≤ 140737488351232) (hb : Lib.Bytes l) (d : Nat) : ∀ (k i : Nat) (n : Int), i ≤ l.length → l.length - i = d → d < k → 0 ≤ n → n ≤ 65520 →
    impl_SegSum.l0 k n l (l.length : Int) (i : Int) = some ((l.drop i).foldl segStep n) := by
  induction d with
  | zero =>
    intro k i n hi hd hk h0 h1
    obtain ⟨k, rfl⟩ : ∃ m, k = m + 1 := ⟨k - 1, by omega⟩
    simp only [impl_SegSum.l0]; rw [if_neg (by omega), List.drop_eq_nil_of_le (by omega)]; rfl
  | succ d ih =>
    intro k i n hi hd hk h0 h1
    obtain ⟨k, rfl⟩ : ∃ m, k = m + 1 := ⟨k - 1, by omega⟩
    have hr := Lib.bytes_rd hb i
    simp only [impl_SegSum.l0]
    rw [if_pos (by omega), if_pos (by omega), if_pos (by omega), step_eq h0 h1 hr.1 hr.2, Lib.wrap_id (x := (i : Int) + 1) (by omega) (by omega)]
    have := ih k (i + 1) (segStep n (rd l i)) (by omega) (by omega) (by omega) (step_bd _ _).1 (step_bd _ _).2
    rw [show (((i + 1 : Nat)) : Int) = (i : Int) + 1 by omega] at this
    rw [this, Lib.drop_cons l i (by omega)]; rfl
theorem impl_sum_ev (l : List Int) (hl : l.length ≤ 140737488351232) (hb : Lib.Bytes l) : Ev (fun k => impl_SegSum.f k l) (sumF l) := by
  refine Ev.of (k := l.length + 1) (impl_SegSum.mono l) ?_
  have := impl_sum l hl hb l.length (l.length + 1) 0 1 (by omega) (by omega) (by omega) (by omega) (by omega)
  simpa [impl_SegSum.f, sumF] using this
theorem eqb_l (l m : List Int) (hl : l.length ≤ 140737488351232) (hm : l.length = m.length) (d : Nat) : ∀ (k i : Nat), i ≤ l.length → l.length - i = d → d < k →
    laws_eqByteS.l0 k l m (i : Int) = some (decide (l.drop i = m.drop i)) := by
  induction d with
  | zero =>
    intro k i hi hd hk
    obtain ⟨k, rfl⟩ : ∃ m, k = m + 1 := ⟨k - 1, by omega⟩
    simp only [laws_eqByteS.l0]; rw [if_neg (by omega), List.drop_eq_nil_of_le (by omega), List.drop_eq_nil_of_le (by omega)]; simp
  | succ d ih =>
    intro k i hi hd hk
    obtain ⟨k, rfl⟩ : ∃ m, k = m + 1 := ⟨k - 1, by omega⟩
    simp only [laws_eqByteS.l0]
    rw [if_pos (by omega), if_pos (by omega), if_pos (by omega), Lib.wrap_id (x := (i : Int) + 1) (by omega) (by omega)]
    have := ih k (i + 1) (by omega) (by omega) (by omega)
    rw [show (((i + 1 : Nat)) : Int) = (i : Int) + 1 by omega] at this
    rw [this, Lib.drop_cons l i (by omega), Lib.drop_cons m i (by omega)]
    by_cases h : rd l (i : Int) = rd m (i : Int)
    · rw [if_pos h]; simp [h]
    · rw [if_neg h]; simp [h]
theorem eqb_ev (l m : List Int) (hl : l.length ≤ 140737488351232) : Ev (fun k => laws_eqByteS.f k l m) (decide (l = m)) := by
  refine Ev.of (k := l.length + 1) (laws_eqByteS.mono l m) ?_
  unfold laws_eqByteS.f
  by_cases h : (l.length : Int) = (m.length : Int)
  · rw [if_pos h]
    have := eqb_l l m hl (by omega) l.length (l.length + 1) 0 (by omega) (by omega) (by omega)
    simpa using this
  · rw [if_neg h]
    have : ¬ l = m := fun e => h (by rw [e])
    rw [decide_eq_false this]
/-- What the marks are. -/
def marks (n : Int) : Nat → List Int
  | 0 => []
  | d + 1 => n % 256 :: marks (n + 1) d
theorem marks_len : ∀ (d : Nat) (n : Int), (marks n d).length = d
  | 0, _ => rfl
  | d + 1, n => by simp [marks, marks_len d]
theorem mark_l (d : Nat) : ∀ (k i : Nat) (n : Int) (h t : List Int), h.length = i → t.length = d → d < k → 0 ≤ n → n + d ≤ 1000000 → (i : Int) + d ≤ 1000000 →
    laws_markByteS.l0 k (h ++ t) n (i : Int) = some (n + d, h ++ marks n d) := by
  induction d with
  | zero =>
    intro k i n h t hh ht hk _ _ _
    obtain ⟨k, rfl⟩ : ∃ m, k = m + 1 := ⟨k - 1, by omega⟩
    obtain rfl : t = [] := List.eq_nil_of_length_eq_zero ht
    simp only [laws_markByteS.l0]; rw [if_neg (by simp; omega)]; simp [marks]
  | succ d ih =>
    intro k i n h t hh ht hk h0 h1 h2
    obtain ⟨k, rfl⟩ : ∃ m, k = m + 1 := ⟨k - 1, by omega⟩
    obtain ⟨x, t, rfl⟩ : ∃ x t', t = x :: t' := by cases t with | nil => simp at ht | cons x t => exact ⟨x, t, rfl⟩
    have e : (h ++ x :: t).set i (n % 256) = (h ++ [n % 256]) ++ t := by
      rw [List.set_append_right _ _ (by omega), hh, Nat.sub_self, List.set_cons_zero]; simp
    simp only [laws_markByteS.l0]
    rw [if_pos (by simp; omega), if_pos (by omega), Int.toNat_natCast, e, Lib.wrap_id (x := n + 1) (by omega) (by omega), Lib.wrap_id (x := (i : Int) + 1) (by omega) (by omega)]
    have := ih k (i + 1) (n + 1) (h ++ [n % 256]) t (by simp [hh]) (by simpa using ht) (by omega) (by omega) (by omega) (by omega)
    rw [show (((i + 1 : Nat)) : Int) = (i : Int) + 1 by omega] at this
    rw [this]
    simp [marks]; omega
theorem held_l (d : Nat) : ∀ (k i : Nat) (n : Int) (h : List Int), h.length = i → d < k → 0 ≤ n → n + d ≤ 1000000 → (i : Int) + d ≤ 1000000 →
    laws_heldByteS.l0 k (h ++ marks n d) n (i : Int) = some (n + d) := by
  induction d with
  | zero =>
    intro k i n h hh hk _ _ _
    obtain ⟨k, rfl⟩ : ∃ m, k = m + 1 := ⟨k - 1, by omega⟩
    simp only [laws_heldByteS.l0]; rw [if_neg (by simp [marks]; omega)]; simp
  | succ d ih =>
    intro k i n h hh hk h0 h1 h2
    obtain ⟨k, rfl⟩ : ∃ m, k = m + 1 := ⟨k - 1, by omega⟩
    have e : rd (h ++ marks n (d + 1)) (i : Int) = n % 256 := by
      rw [Lib.rd_nat]; simp [marks, ← hh]
    simp only [laws_heldByteS.l0]
    rw [if_pos (by simp [marks]; omega), if_pos (by omega), if_pos e, Lib.wrap_id (x := n + 1) (by omega) (by omega), Lib.wrap_id (x := (i : Int) + 1) (by omega) (by omega)]
    have := ih k (i + 1) (n + 1) (h ++ [n % 256]) (by simp [hh]) (by omega) (by omega) (by omega) (by omega)
    rw [show (((i + 1 : Nat)) : Int) = (i : Int) + 1 by omega] at this
    have e2 : h ++ marks n (d + 1) = (h ++ [n % 256]) ++ marks (n + 1) d := by simp [marks]
    rw [e2, this]
    congr 1; omega
theorem mark_ev (l : List Int) (hl : l.length ≤ 900000) : Ev (fun k => laws_markByteS.f k l 1) (1 + (l.length : Int), marks 1 l.length) := by
  refine Ev.of (k := l.length + 1) (laws_markByteS.mono l 1) ?_
  have := mark_l l.length (l.length + 1) 0 1 [] l rfl rfl (by omega) (by omega) (by omega) (by omega)
  simpa [laws_markByteS.f] using this
theorem held_ev (d : Nat) (hl : d ≤ 900000) : Ev (fun k => laws_heldByteS.f k (marks 1 d) 1) (1 + (d : Int)) := by
  refine Ev.of (k := d + 1) (laws_heldByteS.mono _ 1) ?_
  have := held_l d (d + 1) 0 1 [] rfl (by omega) (by omega) (by omega) (by omega)
  simpa [laws_heldByteS.f] using this
def twoL (n : Int) : List Int := [n / 256, n % 256]
theorem put_eq (l : List Int) (n : Int) (hl : l.length ≤ 1000000) (h0 : 0 ≤ n) (h1 : n ≤ 65535) : spec_l5Put.f l n = some (l ++ twoL n) := by
  unfold spec_l5Put.f
  simp only [Option.bind_some, List.nil_append]
  rw [if_pos (by simp; omega)]
  have e1 : Int.tdiv n 256 = n / 256 := Int.tdiv_eq_ediv_of_nonneg h0
  have e2 : Int.tmod n 256 = n % 256 := Int.tmod_eq_emod_of_nonneg h0
  rw [e1, e2, Lib.wrap_id (by omega) (by omega), show n / 256 % 256 = n / 256 by omega, show n % 256 % 256 = n % 256 by omega, if_pos (by simp; omega)]
  rfl
theorem two_bytes (n : Int) (h0 : 0 ≤ n) (h1 : n ≤ 65535) : Lib.Bytes (twoL n) := by
  intro x hx
  simp [twoL] at hx
  omega
theorem impl_two_eq (n : Int) (h0 : 0 ≤ n) (h1 : n ≤ 65535) : impl_two.f n = some (twoL n) := by
  unfold impl_two.f twoL
  rw [show n / 256 % 256 = n / 256 by omega]
def segHead (a p b q x y : Int) (s : ByteArray) : List Int := twoL a ++ twoL p ++ twoL b ++ twoL q ++ twoL x ++ twoL y ++ [(s.size : Int)]
def segBody (a p b q x y : Int) (s : ByteArray) : List Int := segHead a p b q x y s ++ bytesOf s
def segBytesV (a p b q x y : Int) (s : ByteArray) : List Int := if segOkB a p b q x y s = true then segBody a p b q x y s ++ twoL (sumF (segBody a p b q x y s)) else []
theorem segOk_bd {a p b q x y : Int} {s : ByteArray} (h : segOkB a p b q x y s = true) : 0 ≤ a ∧ a ≤ 999 ∧ 0 ≤ p ∧ p ≤ 999 ∧ 0 ≤ b ∧ b ≤ 999 ∧ 0 ≤ q ∧ q ≤ 999 ∧ 0 ≤ x ∧ x ≤ 999 ∧ 0 ≤ y ∧ y ≤ 999 ∧ s.size ≤ 12 := by
  unfold segOkB at h
  have h := of_decide_eq_true h
  unfold endOkP at h
  omega
theorem bytesOf_len (s : ByteArray) : (bytesOf s).length = s.size := by
  simp [bytesOf]
theorem bytesOf_bytes (s : ByteArray) : Lib.Bytes (bytesOf s) := by
  intro x hx
  simp [bytesOf] at hx
  obtain ⟨b, _, rfl⟩ := hx
  have := b.toNat_lt
  omega
theorem head_len (a p b q x y : Int) (s : ByteArray) : (segHead a p b q x y s).length = 13 := rfl
theorem body_len (a p b q x y : Int) (s : ByteArray) : (segBody a p b q x y s).length = 13 + s.size := by
  unfold segBody; rw [List.length_append, head_len, bytesOf_len]
theorem body_bytes {a p b q x y : Int} {s : ByteArray} (h : segOkB a p b q x y s = true) : Lib.Bytes (segBody a p b q x y s) := by
  have hb := segOk_bd h
  intro z hz
  unfold segBody segHead at hz
  simp only [List.mem_append, List.mem_singleton] at hz
  rcases hz with ((((((hz | hz) | hz) | hz) | hz) | hz) | hz) | hz
  · exact two_bytes a (by omega) (by omega) z hz
  · exact two_bytes p (by omega) (by omega) z hz
  · exact two_bytes b (by omega) (by omega) z hz
  · exact two_bytes q (by omega) (by omega) z hz
  · exact two_bytes x (by omega) (by omega) z hz
  · exact two_bytes y (by omega) (by omega) z hz
  · omega
  · exact bytesOf_bytes s z hz
theorem bytes_len (a p b q x y : Int) (s : ByteArray) : (segBytesV a p b q x y s).length = if segOkB a p b q x y s = true then 15 + s.size else 0 := by
  unfold segBytesV
  split
  · rw [List.length_append, body_len]; show 13 + s.size + 2 = _; omega
  · rfl
theorem body_ev {a p b q x y : Int} {s : ByteArray} (h : segOkB a p b q x y s = true) : Ev (fun k => spec_l5Body.f k a p b q x y s) (segBody a p b q x y s) := by
  have hb := segOk_bd h
  have step : ∀ (k i : Nat) (acc : List Int) (v : Int), i < 6 → rd [a, p, b, q, x, y] (i : Int) = v → acc.length ≤ 100 → 0 ≤ v → v ≤ 65535 →
      spec_l5Body.l0 (k + 1) acc [a, p, b, q, x, y] (i : Int) a p b q x y s = spec_l5Body.l0 k (acc ++ twoL v) [a, p, b, q, x, y] ((i + 1 : Nat) : Int) a p b q x y s := by
    intro k i acc v hi hv hacc h0 h1
    rw [spec_l5Body.l0, if_pos (by simp; omega), if_pos (by omega), hv, put_eq acc v (by omega) h0 h1]
    simp only [Option.bind_some]
    rw [Lib.wrap_id (by omega) (by omega)]; rfl
  refine Ev.of (k := 7) (spec_l5Body.mono a p b q x y s) ?_
  show spec_l5Body.f 7 a p b q x y s = _
  unfold spec_l5Body.f
  rw [show (0 : Int) = ((0 : Nat) : Int) from rfl, step 6 0 _ a (by omega) rfl (by simp) (by omega) (by omega), step 5 1 _ p (by omega) rfl (by simp [twoL]) (by omega) (by omega), step 4 2 _ b (by omega) rfl (by simp [twoL]) (by omega) (by omega),
    step 3 3 _ q (by omega) rfl (by simp [twoL]) (by omega) (by omega), step 2 4 _ x (by omega) rfl (by simp [twoL]) (by omega) (by omega), step 1 5 _ y (by omega) rfl (by simp [twoL]) (by omega) (by omega)]
  rw [spec_l5Body.l0, if_neg (by simp), if_pos (by simp [twoL])]
  simp only [Option.bind_some]
  rw [show (s.size : Int) % 256 = (s.size : Int) by omega, if_pos (by simp [twoL]; omega)]
  simp [segBody, segHead]
theorem spec_bytes_ev (a p b q x y : Int) (s : ByteArray) : Ev (fun k => spec_SegBytes.f k a p b q x y s) (segBytesV a p b q x y s) := by
  obtain ⟨K0, e0⟩ := spec_seg_ev a p b q x y s
  dsimp only at e0
  by_cases h : segOkB a p b q x y s = true
  · obtain ⟨K1, e1⟩ := body_ev h
    obtain ⟨K2, e2⟩ := spec_sum_ev (segBody a p b q x y s) (by rw [body_len]; have := segOk_bd h; omega) (body_bytes h)
    dsimp only at e1 e2
    have hs := sumF_bd (segBody a p b q x y s)
    refine ⟨K0 + K1 + K2, fun k hk => ?_⟩
    dsimp only
    unfold spec_SegBytes.f segBytesV
    rw [e0 k (by omega)]; simp only [Option.bind_some]
    rw [if_pos h, if_pos h, e1 k (by omega)]; simp only [Option.bind_some]
    rw [e2 k (by omega)]; simp only [Option.bind_some]
    rw [put_eq _ _ (by rw [body_len]; have := segOk_bd h; omega) hs.1 (by omega)]; rfl
  · refine ⟨K0, fun k hk => ?_⟩
    dsimp only
    unfold spec_SegBytes.f segBytesV
    rw [e0 k hk]; simp only [Option.bind_some]
    rw [if_neg h, if_neg h]
theorem impl_bytes_ev (a p b q x y : Int) (s : ByteArray) (hs : s.size ≤ 281474976710656) : Ev (fun k => impl_SegBytes.f k a p b q x y s) (segBytesV a p b q x y s) := by
  obtain ⟨K0, e0⟩ := impl_seg_ev a p b q x y s hs
  dsimp only at e0
  by_cases h : segOkB a p b q x y s = true
  · have hb := segOk_bd h
    obtain ⟨K2, e2⟩ := impl_sum_ev (segBody a p b q x y s) (by rw [body_len]; omega) (body_bytes h)
    dsimp only at e2
    have hsm := sumF_bd (segBody a p b q x y s)
    have step : ∀ (k i : Nat) (acc : List Int) (v : Int), i < 6 → rd [a, p, b, q, x, y] (i : Int) = v → acc.length ≤ 100 → 0 ≤ v → v ≤ 65535 →
        impl_SegBytes.l0 (k + 1) acc [a, p, b, q, x, y] 6 (i : Int) a p b q x y s = impl_SegBytes.l0 k (acc ++ twoL v) [a, p, b, q, x, y] 6 ((i + 1 : Nat) : Int) a p b q x y s := by
      intro k i acc v hi hv hacc h0 h1
      rw [impl_SegBytes.l0, if_pos (by omega), if_pos (by omega), if_pos (by simp; omega), hv, impl_two_eq v h0 h1]
      simp only [Option.bind_some]
      rw [if_pos (by simp [twoL]; omega), Lib.wrap_id (by omega) (by omega)]; rfl
    refine ⟨K0 + K2 + 7, fun k hk => ?_⟩
    obtain ⟨k, rfl⟩ : ∃ m, k = m + 7 := ⟨k - 7, by omega⟩
    dsimp only
    unfold impl_SegBytes.f segBytesV
    rw [e0 (k + 7) (by omega)]; simp only [Option.bind_some]
    rw [if_pos h, if_pos h, if_pos (by omega)]
    show impl_SegBytes.l0 (k + 7) [] [a, p, b, q, x, y] 6 ((0 : Nat) : Int) a p b q x y s = _
    rw [step (k + 6) 0 _ a (by omega) rfl (by simp) (by omega) (by omega), step (k + 5) 1 _ p (by omega) rfl (by simp [twoL]) (by omega) (by omega), step (k + 4) 2 _ b (by omega) rfl (by simp [twoL]) (by omega) (by omega),
      step (k + 3) 3 _ q (by omega) rfl (by simp [twoL]) (by omega) (by omega), step (k + 2) 4 _ x (by omega) rfl (by simp [twoL]) (by omega) (by omega), step (k + 1) 5 _ y (by omega) rfl (by simp [twoL]) (by omega) (by omega)]
    rw [impl_SegBytes.l0, if_neg (by simp), if_pos (by simp [twoL])]
    simp only [Option.bind_some]
    rw [show (s.size : Int) % 256 = (s.size : Int) by omega, if_pos (by simp [twoL]; omega)]
    have eb : [] ++ twoL a ++ twoL p ++ twoL b ++ twoL q ++ twoL x ++ twoL y ++ [(s.size : Int)] ++ bytesOf s = segBody a p b q x y s := by simp [segBody, segHead]
    rw [eb, e2 k (by omega)]; simp only [Option.bind_some]
    rw [impl_two_eq _ hsm.1 (by omega)]; simp only [Option.bind_some]
    rw [if_pos (by rw [body_len]; simp [twoL]; omega)]
  · refine ⟨K0, fun k hk => ?_⟩
    dsimp only
    unfold impl_SegBytes.f segBytesV
    rw [e0 k hk]; simp only [Option.bind_some]
    rw [if_neg h, if_neg h]
theorem toseg_eq (a p b q x y : Int) (s : ByteArray) : laws_toSegSeg.f a p b q x y s = some (a, p, b, q, x, y, s) := by
  simp [laws_toSegSeg.f, laws_toEndPoint.f]
theorem szseg_eq (a p b q x y : Int) (s : ByteArray) (hs : s.size ≤ 9223372036854775807) : laws_szSegSeg.f a p b q x y s 1048576 = some (if 1048576 - (s.size : Int) < 0 then -1 else 1048576 - (s.size : Int)) := by
  unfold laws_szSegSeg.f
  rw [Lib.wrap_id (by omega) (by omega)]
  split <;> rfl
end Go.Proofs.Ytdfoelhpeeanlaa.QFnExactSegBytes
