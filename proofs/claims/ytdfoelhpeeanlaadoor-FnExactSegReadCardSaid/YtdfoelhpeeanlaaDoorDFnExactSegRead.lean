/- What the reference's draws and functions that this law reaches come to: plain lemmas on the printed functions. -/
import Derived.Test.YtdfoelhpeeanlaaDoorQFnExactSegReadx5
import Derived.Test.YtdfoelhpeeanlaaDoorLib
import Derived.Laws.BitsLemmas
set_option linter.unusedVariables false
set_option linter.unusedSimpArgs false
namespace Go.Proofs.YtdfoelhpeeanlaaDoor.QFnExactSegRead
open Go.RowKit Go.Proofs.YtdfoelhpeeanlaaDoorW.PrintWords Go.Proofs.YtdfoelhpeeanlaaDoorW.PrintLast Go.Proofs.YtdfoelhpeeanlaaDoorW.PrintMore
open Go.Proofs.YtdfoelhpeeanlaaDoor
theorem eqb_l (l m : List Int) (hl : l.length ≤ 140737488351232) (hm : l.length = m.length) (d : Nat) : ∀ (k i : Nat), i ≤ l.length → l.length - i = d → d < k →
    laws_eqByteS.l0 k l m (i : Int) = some (decide (l.drop i = m.drop i)) := by
  induction d with
  | zero =>
    intro k i hi hd hk
    obtain ⟨k, rfl⟩ : ∃ m, k = m + 1 := ⟨k - 1, by omega⟩
    simp only [laws_eqByteS.l0]; rw [if_neg (by omega), List.drop_eq_nil_of_le (by omega), List.drop_eq_nil_of_le (by omega)]; simp
  | succ d ih =>
    intro k i hi hd hk
    obtain ⟨k, rfl⟩ : ∃ m, k = m + 1 := ⟨k - 1, by omega⟩
    simp only [laws_eqByteS.l0]
    rw [if_pos (by omega), if_pos (by omega), if_pos (by omega), Lib.wrap_id (x := (i : Int) + 1) (by omega) (by omega)]
    have := ih k (i + 1) (by omega) (by omega) (by omega)
    rw [show (((i + 1 : Nat)) : Int) = (i : Int) + 1 by omega] at this
    rw [this, Lib.drop_cons l i (by omega), Lib.drop_cons m i (by omega)]
    by_cases h : rd l (i : Int) = rd m (i : Int)
    · rw [if_pos h]; simp [h]
    · rw [if_neg h]; simp [h]
theorem eqb_ev (l m : List Int) (hl : l.length ≤ 140737488351232) : Ev (fun k => laws_eqByteS.f k l m) (decide (l = m)) := by
  refine Ev.of (k := l.length + 1) (laws_eqByteS.mono l m) ?_
  unfold laws_eqByteS.f
  by_cases h : (l.length : Int) = (m.length : Int)
  · rw [if_pos h]
    have := eqb_l l m hl (by omega) l.length (l.length + 1) 0 (by omega) (by omega) (by omega)
    simpa using this
  · rw [if_neg h]
    have : ¬ l = m := fun e => h (by rw [e])
    rw [decide_eq_false this]
theorem to_bytes (l : List Int) (hl : l.length ≤ 140737488351232) (d : Nat) : ∀ (k i : Nat), i ≤ l.length → l.length - i = d → d < k →
    laws_toByteS.l0 k l (l.take i ++ List.replicate (l.length - i) 0) (i : Int) = some l := by
  induction d with
  | zero =>
    intro k i hi hd hk
    obtain ⟨k, rfl⟩ : ∃ m, k = m + 1 := ⟨k - 1, by omega⟩
    simp only [laws_toByteS.l0]; rw [if_neg (by omega)]
    have : i = l.length := by omega
    subst this; simp
  | succ d ih =>
    intro k i hi hd hk
    obtain ⟨k, rfl⟩ : ∃ m, k = m + 1 := ⟨k - 1, by omega⟩
    simp only [laws_toByteS.l0]
    rw [if_pos (by omega), if_pos (by omega), if_pos (by simp; omega), Lib.wrap_id (x := (i : Int) + 1) (by omega) (by omega)]
    have := ih k (i + 1) (by omega) (by omega) (by omega)
    rw [show (((i + 1 : Nat)) : Int) = (i : Int) + 1 by omega] at this
    rw [← this]
    rw [Lib.rd_nat, Int.toNat_natCast, Lib.copy_step l 0 i (by omega)]
theorem tob_ev (l : List Int) (hl : l.length ≤ 140737488351232) : Ev (fun k => laws_toByteS.f k l) l := by
  refine Ev.of (k := l.length + 1) (laws_toByteS.mono l) ?_
  have := to_bytes l hl l.length (l.length + 1) 0 (Nat.zero_le _) (by omega) (by omega)
  unfold laws_toByteS.f
  rw [if_pos (by omega), if_pos (by omega), Int.toNat_natCast]
  simpa using this
theorem impl_rd_ev (l : List Int) (hb : Lib.Bytes l) (hl : l.length ≤ 140737488351232) : Ev (fun k => impl_SegRead.f k l) (segRdV l) := by
  obtain ⟨K, h⟩ := spec_rd_ev l hb hl
  refine ⟨K, fun k hk => ?_⟩
  dsimp only
  unfold impl_SegRead.f
  rw [if_pos ⟨hb, hl⟩]
  exact h k hk
theorem eqseg_refl (a p b q x y : Int) (s : ByteArray) : laws_eqSegSeg.f a p b q x y s a p b q x y s = some true := by
  simp [laws_eqSegSeg.f, laws_eqEndPoint.f]
theorem step_inj {n m x : Int} (h0 : 0 ≤ n) (h1 : n ≤ 65520) (g0 : 0 ≤ m) (g1 : m ≤ 65520) (h : segStep n x = segStep m x) : n = m := by
  unfold segStep at h; omega
theorem step_ne {n x y : Int} (x0 : 0 ≤ x) (x1 : x ≤ 255) (y0 : 0 ≤ y) (y1 : y ≤ 255) (h : segStep n x = segStep n y) : x = y := by
  unfold segStep at h; omega
theorem fold_inj (l : List Int) : ∀ (n m : Int), 0 ≤ n → n ≤ 65520 → 0 ≤ m → m ≤ 65520 → l.foldl segStep n = l.foldl segStep m → n = m := by
  induction l with
  | nil => intro n m _ _ _ _ h; exact h
  | cons x l ih =>
    intro n m h0 h1 g0 g1 h
    simp only [List.foldl_cons] at h
    have a := step_bd n x
    have b := step_bd m x
    exact step_inj h0 h1 g0 g1 (ih _ _ a.1 a.2 b.1 b.2 h)
theorem sum_set (l : List Int) (hb : Lib.Bytes l) (v : Int) (v0 : 0 ≤ v) (v1 : v ≤ 255) : ∀ (i : Nat) (n : Int), i < l.length → 0 ≤ n → n ≤ 65520 → l.getD i 0 ≠ v → (l.set i v).foldl segStep n ≠ l.foldl segStep n := by
  induction l with
  | nil => intro i n hi; simp at hi
  | cons x l ih =>
    intro i n hi h0 h1 hv
    have hx := hb x (by simp)
    have hb' : Lib.Bytes l := fun z hz => hb z (by simp [hz])
    cases i with
    | zero =>
      simp only [List.set_cons_zero, List.foldl_cons]
      intro h
      have a := step_bd n x
      have b := step_bd n v
      have e := fold_inj l _ _ b.1 b.2 a.1 a.2 h
      exact hv (step_ne v0 v1 hx.1 (by omega) e).symm
    | succ i =>
      simp only [List.set_cons_succ, List.foldl_cons]
      have a := step_bd n x
      exact ih hb' i _ (by simpa using hi) a.1 a.2 (by simpa using hv)
theorem rd_left (l m : List Int) (i : Nat) (h : i < l.length) : rd (l ++ m) (i : Int) = rd l (i : Int) := by
  rw [Lib.rd_nat, Lib.rd_nat, List.getD_eq_getElem?_getD, List.getD_eq_getElem?_getD, List.getElem?_append_left h]
theorem rd_right (l m : List Int) (i : Nat) : rd (l ++ m) ((l.length + i : Nat) : Int) = rd m (i : Int) := by
  rw [Lib.rd_nat, Lib.rd_nat, List.getD_eq_getElem?_getD, List.getD_eq_getElem?_getD, List.getElem?_append_right (by omega), Nat.add_sub_cancel_left]
theorem rd_take (l : List Int) (n i : Nat) (h : i < n) : rd (l.take n) (i : Int) = rd l (i : Int) := by
  rw [Lib.rd_nat, Lib.rd_nat, List.getD_eq_getElem?_getD, List.getD_eq_getElem?_getD, List.getElem?_take, if_pos h]
theorem rd_set (l : List Int) (i j : Nat) (v : Int) (h : i < l.length) : rd (l.set i v) (j : Int) = if j = i then v else rd l (j : Int) := by
  rw [Lib.rd_nat, Lib.rd_nat, List.getD_eq_getElem?_getD, List.getD_eq_getElem?_getD, List.getElem?_set]
  by_cases e : j = i
  · subst e; rw [if_pos rfl, if_pos rfl, if_pos h]; rfl
  · rw [if_neg (fun h => e h.symm), if_neg e]
theorem strs_bytes (s : ByteArray) : strOfNums (bytesOf s) = s := by
  apply ByteArray.ext
  apply Array.toList_inj.1
  rw [strOfNums_data, bytesOf, List.map_map]
  refine (List.map_congr_left fun x _ => ?_).trans (List.map_id _)
  simp
/-- What is read has these bytes. -/
theorem rd_back (l : List Int) (hb : Lib.Bytes l) (h : rdOk l) : segBytesV (num2 l 0) (num2 l 2) (num2 l 4) (num2 l 6) (num2 l 8) (num2 l 10) (rdStr l) = l := by
  obtain ⟨h1, h2, h3, h4, h5⟩ := h
  obtain ⟨d, hd⟩ : ∃ d, l.length = 15 + d := ⟨l.length - 15, by omega⟩
  have e2 : l.length - 2 = 13 + d := by omega
  rw [e2] at h4
  have hdr : l.drop (13 + d) = [rd l ((13 + d : Nat) : Int), rd l ((13 + d + 1 : Nat) : Int)] := by
    rw [Lib.drop_cons l (13 + d) (by omega), Lib.drop_cons l (13 + d + 1) (by omega), List.drop_eq_nil_of_le (by omega)]
  have hbody := body_of l hb d (by omega) (by omega)
  unfold segBytesV
  rw [if_pos h5]
  unfold rdStr
  rw [e2, hbody, ← h4, two_num l hb, ← hdr, List.take_append_drop]
/-- A segment's bytes are read as it. -/
theorem bytes_read (a p b q x y : Int) (s : ByteArray) (h : segOkB a p b q x y s = true) : rdOk (segBytesV a p b q x y s) ∧ segRdV (segBytesV a p b q x y s) = (a, p, b, q, x, y, s, true) ∧ rd (segBytesV a p b q x y s) 12 = (s.size : Int) := by
  have hb := segOk_bd h
  have hs := sumF_bd (segBody a p b q x y s)
  have hL : segBytesV a p b q x y s = segBody a p b q x y s ++ twoL (sumF (segBody a p b q x y s)) := by unfold segBytesV; rw [if_pos h]
  have hC : segBytesV a p b q x y s = a / 256 :: a % 256 :: p / 256 :: p % 256 :: b / 256 :: b % 256 :: q / 256 :: q % 256 :: x / 256 :: x % 256 :: y / 256 :: y % 256 :: (s.size : Int) :: (bytesOf s ++ twoL (sumF (segBody a p b q x y s))) := by
    rw [hL]; simp [segBody, segHead, twoL]
  have hlen := bytes_len a p b q x y s
  rw [if_pos h] at hlen
  have n0 : num2 (segBytesV a p b q x y s) 0 = a := by rw [hC]; show a / 256 * 256 + a % 256 = a; omega
  have n2 : num2 (segBytesV a p b q x y s) 2 = p := by rw [hC]; show p / 256 * 256 + p % 256 = p; omega
  have n4 : num2 (segBytesV a p b q x y s) 4 = b := by rw [hC]; show b / 256 * 256 + b % 256 = b; omega
  have n6 : num2 (segBytesV a p b q x y s) 6 = q := by rw [hC]; show q / 256 * 256 + q % 256 = q; omega
  have n8 : num2 (segBytesV a p b q x y s) 8 = x := by rw [hC]; show x / 256 * 256 + x % 256 = x; omega
  have n10 : num2 (segBytesV a p b q x y s) 10 = y := by rw [hC]; show y / 256 * 256 + y % 256 = y; omega
  have r12 : rd (segBytesV a p b q x y s) 12 = (s.size : Int) := by rw [hC]; rfl
  have bl := body_len a p b q x y s
  have e2 : (segBytesV a p b q x y s).length - 2 = (segBody a p b q x y s).length := by omega
  have ht : (segBytesV a p b q x y s).take ((segBytesV a p b q x y s).length - 2) = segBody a p b q x y s := by rw [e2, hL, List.take_left']; rfl
  have hstr : rdStr (segBytesV a p b q x y s) = s := by
    unfold rdStr
    rw [ht]
    have : (segBody a p b q x y s).drop 13 = bytesOf s := by unfold segBody; exact List.drop_left' (head_len a p b q x y s)
    rw [this, strs_bytes]
  have hnum : num2 (segBytesV a p b q x y s) ((segBytesV a p b q x y s).length - 2) = sumF (segBody a p b q x y s) := by
    unfold num2
    rw [e2, hL]
    have r0 := rd_right (segBody a p b q x y s) (twoL (sumF (segBody a p b q x y s))) 0
    have r1 := rd_right (segBody a p b q x y s) (twoL (sumF (segBody a p b q x y s))) 1
    rw [Nat.add_zero] at r0
    rw [r0, r1]
    show sumF (segBody a p b q x y s) / 256 * 256 + sumF (segBody a p b q x y s) % 256 = _
    omega
  have hok : rdOk (segBytesV a p b q x y s) := by
    unfold rdOk
    rw [n0, n2, n4, n6, n8, n10, hstr, ht]
    exact ⟨by omega, by omega, by omega, hnum, h⟩
  refine ⟨hok, ?_, r12⟩
  unfold segRdV
  rw [if_pos hok, n0, n2, n4, n6, n8, n10, hstr]
theorem read_longer (l : List Int) (h : rdOk l) (v : Int) : ¬ rdOk (l ++ [v]) := fun h2 => by
  have a := h2.2.2.1
  have e := rd_left l [v] 12 (by have := h.1; omega)
  rw [show ((12 : Nat) : Int) = 12 from rfl] at e
  rw [e, h.2.2.1, List.length_append] at a
  simp at a
  omega
theorem read_shorter (l : List Int) (h : rdOk l) : ¬ rdOk (l.take (l.length - 1)) := fun h2 => by
  have a := h2.2.2.1
  have h1 := h.1
  have e := rd_take l (l.length - 1) 12 (by omega)
  rw [show ((12 : Nat) : Int) = 12 from rfl] at e
  rw [e, h.2.2.1, List.length_take] at a
  omega
theorem read_bent (l : List Int) (hb : Lib.Bytes l) (h : rdOk l) (i : Nat) (hi : i < l.length) (v : Int) (v0 : 0 ≤ v) (v1 : v ≤ 255) (hv : v ≠ rd l (i : Int)) : ¬ rdOk (l.set i v) := fun h2 => by
  obtain ⟨g1, g2, g3, g4, _⟩ := h
  obtain ⟨k1, k2, k3, k4, _⟩ := h2
  rw [List.length_set] at k3 k4
  have r12 := rd_set l i 12 v hi
  rw [show ((12 : Nat) : Int) = 12 from rfl] at r12
  rw [r12] at k3
  have i12 : ¬ 12 = i := fun e => by
    rw [if_pos e] at k3
    subst e
    rw [show ((12 : Nat) : Int) = 12 from rfl] at hv
    omega
  have r0 := rd_set l i (l.length - 2) v hi
  have r1 := rd_set l i (l.length - 2 + 1) v hi
  unfold num2 at k4 g4
  rw [r0, r1] at k4
  by_cases c : i < l.length - 2
  · rw [if_neg (by omega), if_neg (by omega), g4, List.take_set] at k4
    exact sum_set (l.take (l.length - 2)) (fun x hx => hb x (List.mem_of_mem_take hx)) v v0 v1 i 1 (by rw [List.length_take]; omega) (by omega) (by omega) (by rw [← Lib.rd_nat, rd_take _ _ _ c]; exact fun e => hv e.symm) k4.symm
  · have et : (l.set i v).take (l.length - 2) = l.take (l.length - 2) := by
      rw [List.take_set, List.set_eq_of_length_le (by rw [List.length_take]; omega)]
    rw [et, ← g4] at k4
    have b0 := Lib.bytes_rd hb (l.length - 2)
    have b1 := Lib.bytes_rd hb (l.length - 2 + 1)
    by_cases e : l.length - 2 = i
    · rw [if_pos e, if_neg (by omega)] at k4
      rw [← e] at hv
      omega
    · have e' : l.length - 2 + 1 = i := by omega
      rw [if_neg e, if_pos e'] at k4
      rw [← e'] at hv
      omega
theorem rdv_no {l : List Int} (h : ¬ rdOk l) : segRdV l = (0, 0, 0, 0, 0, 0, ⟨#[]⟩, false) := by unfold segRdV; rw [if_neg h]
theorem rdv_yes {l : List Int} (h : rdOk l) : segRdV l = (num2 l 0, num2 l 2, num2 l 4, num2 l 6, num2 l 8, num2 l 10, rdStr l, true) := by unfold segRdV; rw [if_pos h]
def insB (a p : Int) : Bool := decide ((1 ≤ a ∧ a ≤ 9) ∧ 1 ≤ p ∧ p ≤ 999)
theorem spec_ins (a p : Int) : spec_EndInside.f a p = some (insB a p) := by
  simp only [spec_EndInside.f, spec_l1In.f, insB]
  by_cases h1 : a ≥ 1 <;> by_cases h2 : a ≤ 9 <;> by_cases h3 : p ≥ 1 <;> by_cases h4 : p ≤ 999 <;> simp [h1, h2, h3, h4] <;> omega
end Go.Proofs.YtdfoelhpeeanlaaDoor.QFnExactSegRead
