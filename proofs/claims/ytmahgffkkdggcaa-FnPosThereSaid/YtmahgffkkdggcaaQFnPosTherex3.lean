-- Laid by a program of this repo (wip/tools/sprint.py): print.py's functions and walks; the contracts named 'BY HAND' are proved by hand.
import Derived.Test.YtmahgffkkdggcaaQFnPosTherex1
import Derived.Test.YtmahgffkkdggcaaQFnPosTherex0
import Derived.Test.YtmahgffkkdggcaaQFnPosTherex2
namespace Go.Proofs.Ytmahgffkkdggcaa.QFnPosThere
open Go.RowKit Go.Proofs.YtmahgffkkdggcaaW.PrintWords Go.Proofs.YtmahgffkkdggcaaW.PrintLast Go.Proofs.YtmahgffkkdggcaaW.PrintMore
attribute [local go_sem] max2_int min2_int max_two min_two max_three min_three max_four min_four   -- for this text's walks alone
set_option linter.unusedVariables false
set_option linter.unusedSimpArgs false

/-! ### impl_spansOf: function 42 -/
theorem lines_size (k : Nat) (s : ByteArray) (L : List ByteArray) (r : ByteArray) (h : impl_StrLines.f k s = some (L, r)) : (L.length : Int) ≤ 7036874417766 := by
 unfold impl_StrLines.f at h
 rw [if_pos (by omega)] at h
 by_cases hs : ((s.size : Int) : Int).toNat ≤ 7036874417766
 ·rw [if_pos hs] at h
  obtain ⟨⟨x1, x2⟩, h1, h2⟩ := Option.bind_eq_some_iff.mp h
  have h3 := spec_lines_part s (by omega) k s.size 0 0 [] (x1, x2) (Nat.zero_add _) (Nat.le_refl _) h1
  obtain ⟨rfl, rfl⟩ := Prod.mk.inj (Option.some.inj h2)
  obtain ⟨e1, _⟩ := Prod.mk.inj h3
  have hc := Str.lns_count s s.size 0 0 (Nat.zero_add _)
  have hc2 := List.count_le_length (l := s.data.toList.drop 0) (a := (59 : UInt8))
  have hd : (s.data.toList.drop 0).length = s.size := by simp
  have e2 : x1 = (Str.lns s s.size 0 0).1 := e1
  show ((x1.length : Nat) : Int) ≤ 7036874417766
  rw [e2]
  omega
 ·rw [if_neg hs] at h; cases h
def impl_spansOf.l0 : Nat → List ByteArray → List ByteArray → List (S43) → Int → Int → Int → Int → Option ((List (S43)))
 | 0, _, _, _, _, _, _, _ => none
 | k + 1, x5, x7, x10, x11, x12, x32, x33 => if x33 < x32 then (if 0 ≤ x33 then (if x33 < (x5.length : Int) then (if x33 < (x7.length : Int) then (if x10.length < 3518437208883 then (impl_spansOf.l0 k x5 x7 (x10 ++ [(⟨x11, wrap64 ((wrap64 (x11 + ((rdOf ByteArray.empty x5 x33).size : Int))) + 1), x12, wrap64 ((wrap64 (x12 + ((rdOf ByteArray.empty x7 x33).size : Int))) + 1), ((rdOf ByteArray.empty x5 x33).toList == (rdOf ByteArray.empty x7 x33).toList)⟩ : S43)]) (wrap64 ((wrap64 (x11 + ((rdOf ByteArray.empty x5 x33).size : Int))) + 1)) (wrap64 ((wrap64 (x12 + ((rdOf ByteArray.empty x7 x33).size : Int))) + 1)) x32 (wrap64 (x33 + 1))) else (none)) else (none)) else (none)) else (none)) else (some x10)
def impl_spansOf.f (k : Nat) (a0 : ByteArray) (a1 : ByteArray) : Option ((List (S43))) := (impl_StrLines.f k a0).bind fun bt141 => ((impl_StrLines.f k a1).bind fun bt145 => (if 0 ≤ 7036874417766 then (impl_spansOf.l0 k bt141.1 bt145.1 (List.replicate 0 z43) 0 0 (mn (bt141.1.length : Int) (bt145.1.length : Int)) 0) else (none)))
theorem impl_spansOf.mono_l : ∀ k, (∀ y0 y1 y2 y3 y4 y5 y6, LeO (impl_spansOf.l0 k y0 y1 y2 y3 y4 y5 y6) (impl_spansOf.l0 (k + 1) y0 y1 y2 y3 y4 y5 y6))
 | 0 => fun _ _ _ _ _ _ _ r h => by simp [impl_spansOf.l0] at h
 | k + 1 => by
  have ih0 := impl_spansOf.mono_l k
  ·intro y0 y1 y2 y3 y4 y5 y6
   unfold impl_spansOf.l0
   repeat' first
   | (with_reducible exact ih0 _ _ _ _ _ _ _)
   | (with_reducible exact impl_StrLines.mono _ _)
   | (with_reducible exact LeO.refl _)
   | (with_reducible exact LeO.none _)
   | (with_reducible refine LeO.ite ?_ ?_)
   | (with_reducible refine LeO.bind ?_ (fun _ => ?_))
   | exact ih0 _ _ _ _ _ _ _
   | exact impl_StrLines.mono _ _
   | exact LeO.none _
   | refine LeO.ite ?_ ?_
   | refine LeO.bind ?_ (fun _ => ?_)
theorem impl_spansOf.mono : ∀ a0 a1 k, LeO (impl_spansOf.f k a0 a1) (impl_spansOf.f (k + 1) a0 a1) := by
 intro a0 a1 k
 have ih0 := impl_spansOf.mono_l k
 unfold impl_spansOf.f
 repeat' first
   | (with_reducible exact ih0 _ _ _ _ _ _ _)
   | (with_reducible exact impl_StrLines.mono _ _)
   | (with_reducible exact LeO.refl _)
   | (with_reducible exact LeO.none _)
   | (with_reducible refine LeO.ite ?_ ?_)
   | (with_reducible refine LeO.bind ?_ (fun _ => ?_))
   | exact ih0 _ _ _ _ _ _ _
   | exact impl_StrLines.mono _ _
   | exact LeO.none _
   | refine LeO.ite ?_ ?_
   | refine LeO.bind ?_ (fun _ => ?_)
def impl_spansOf.T9 : Bool × List (List Nat × List Nat) := (true, [([], []), ([], []), ([], []), ([], []), ([2, 3], [2, 3]), ([4], [4]), ([5], [5]), ([1, 6], [1, 6]), ([7], [7]), ([], []), ([], []), ([], []), ([], []), ([11, 12], [11, 12]), ([13], [13]), ([14], [14]), ([10, 15], [10, 15]), ([16], [16]), ([], []), ([], []), ([18, 19], [18, 19]), ([20], [20]), ([], []), ([], []), ([22, 23], [22, 23]), ([24], [24]), ([21, 25], [21, 25]), ([0, 8, 9, 17, 26], [0, 8, 9, 17, 26]), ([], []), ([28, 27, 0, 1, 2, 3, 4, 5, 6, 7, 8, 9, 10, 11, 12, 13, 14, 15, 16, 17, 18, 19, 20, 21, 22, 23, 24, 25, 26, 27, 28], [27, 28])])
def impl_spansOf.B9 : List Nat := [0, 0, 0, 0, 12, 28, 60, 126, 254, 0, 0, 0, 0, 6144, 14336, 30720, 64512, 130048, 0, 0, 786432, 1835008, 0, 0, 12582912, 29360128, 66846720, 134217727, 0, 536870911]
theorem impl_spansOf.tab9 : rtab .any (opsOf Try.f42 9) = impl_spansOf.T9 := by kernel_rfl
theorem impl_spansOf.bits9 : waitsOk impl_spansOf.T9.2 impl_spansOf.B9 = true := by kernel_rfl
set_option maxHeartbeats 8000000 in
set_option maxRecDepth 100000 in
theorem impl_spansOf.calls (k : Nat) (a0 : ByteArray) (a1 : ByteArray) (r : List (S43)) (w : World) (h : impl_spansOf.f k a0 a1 = some r) :
  Calls Try.prog 42 #[.string a0, .string a1] w fun e w' => ∃ v0_ : Value, e = .returned (v0_) ∧ Kd.R k43 43 w' w.heap.size (fun _ => True) v0_ r ∧ Below w.heap.size w w' := by
 have hu43 := Try.underlying43
 have HB := Aside0.mk (Below.refl w.heap.size w)
 have H : ((impl_StrLines.f k a0).bind fun bt141 => ((impl_StrLines.f k a1).bind fun bt145 => (if 0 ≤ 7036874417766 then (impl_spansOf.l0 k bt141.1 bt145.1 (List.replicate 0 z43) 0 0 (mn (bt141.1.length : Int) (bt145.1.length : Int)) 0) else (none)))) = some r := h
 clear h
 replace H := Option.bind_eq_some_iff.mp H
 obtain ⟨⟨t141, t142⟩, A30, H⟩ := H
 replace H : ((impl_StrLines.f k a1).bind fun bt145 => (if 0 ≤ 7036874417766 then (impl_spansOf.l0 k t141 bt145.1 (List.replicate 0 z43) 0 0 (mn (t141.length : Int) (bt145.1.length : Int)) 0) else (none))) = some r := H
 have A3 := Aside0.mk A30
 clear A30
 replace H := Option.bind_eq_some_iff.mp H
 obtain ⟨⟨t145, t146⟩, A40, H⟩ := H
 replace H : (if 0 ≤ 7036874417766 then (impl_spansOf.l0 k t141 t145 (List.replicate 0 z43) 0 0 (mn (t141.length : Int) (t145.length : Int)) 0) else (none)) = some r := H
 have A4 := Aside0.mk A40
 clear A40
 obtain ⟨ji5, hji5⟩ : ∃ j_ : Int, (mn (t141.length : Int) (t145.length : Int)) = j_ := ⟨_, rfl⟩
 replace H : (if 0 ≤ 7036874417766 then (impl_spansOf.l0 k t141 t145 (List.replicate 0 z43) 0 0 ji5 0) else (none)) = some r := by first | (rw [hji5] at H; exact H) | (simp only [hji5] at H ⊢; exact H)
 (try rw [hji5] at A3)
 (try rw [hji5] at A4)
 (try (have hji5l : 0 ≤ ji5 := by (rw [← hji5]; unfold mn; (repeat' split) <;> omega)))
 (try (have hji5m : 0 ≤ ji5 := by omega))
 have hji5_ : (if (t145.length : Int) < (t141.length : Int) then (t145.length : Int) else (t141.length : Int)) = ji5 := hji5
 have HSZ := Aside0.mk (lines_size _ _ _ _ A3.out)
 have hji5n : (if t145.length < t141.length then (t145.length : Int) else (t141.length : Int)) = ji5 := by (rw [← hji5]); (unfold mn); (split <;> split <;> omega)
 have HSJ := Aside0.mk (show ji5 ≤ 7036874417766 from by (have h1_ := HSZ.out); (rw [← hji5]); (unfold mn); (split <;> omega))
 by_cases c6 : 0 ≤ 7036874417766
 ·rw [if_pos c6] at H
  have c6b0 := eq_true c6
  have c6b1 : decide (0 ≤ 7036874417766) = true := decide_eq_true c6
  clear c6
  obtain ⟨y149, hy149⟩ : ∃ y_ : List (S43), y_ = (List.replicate 0 z43) := ⟨_, rfl⟩
  replace H : (impl_spansOf.l0 k t141 t145 y149 0 0 ji5 0) = some r := by first | (rw [hy149]; with_reducible exact H) | (have H2_ := (Option.bind_some _ _).symm.trans H; rw [hy149]; with_reducible exact H2_) | (have H2_ := (Option.bind_some _ _).symm.trans H; with_reducible exact H2_) | with_reducible exact H | (rw [hy149]; exact H) | exact H
  have Ny149 := Aside0.mk hy149
  clear hy149
  have H' := Aside0.mk H
  clear H
  go_enter Try.func42, Try.ntmps42
  go_wp2_with (first | ((with_reducible refine gate_callee (f := 14) rfl ?_); refine goesL_ (some 17) rfl rfl Try.func14 (by kernel_rfl) rfl #[.string a0] rfl Z75 ?_; (with_reducible refine (impl_StrLines.calls k a0 t141 t142 _ A3.out).mono ?_); rintro e w7 ⟨v143, rfl, ho0, hb⟩; refine ⟨_, rfl, ?_⟩; have n0_ := Aside0.mk (Kd.R_lower ho0 (below_size Z71)); have n1_ := Aside0.mk (below_step Z71 hb); clear HB; have HO144 := n0_; have HB := n1_; clear n0_ n1_; (try clear hb); (try clear ho0)) | ((with_reducible refine gate_callee (f := 14) rfl ?_); refine goesL_ (some 22) rfl rfl Try.func14 (by kernel_rfl) rfl #[.string a1] rfl Z75 ?_; (with_reducible refine (impl_StrLines.calls k a1 t145 t146 _ A4.out).mono ?_); rintro e w8 ⟨v147, rfl, ho0, hb⟩; refine ⟨_, rfl, ?_⟩; have n0_ := Aside0.mk (Kd.R_elder' Z23 (Kd.R_base ho0) hb); have n1_ := Aside0.mk (Kd.R_lower (Kd.R_new' ho0 (Kd.R_lt Z23)) (below_size Z71)); have n2_ := Aside0.mk (below_step Z71 hb); clear HO144; clear HB; have HO144 := n0_; have HO148 := n1_; have HB := n2_; clear n0_ n1_ n2_; (try clear hb); (try clear ho0); obtain ⟨Ao9, co9, eo9⟩ := Kd.R_slice HO144.out; subst eo9; obtain ⟨Ao10, co10, eo10⟩ := Kd.R_slice HO148.out; subst eo10) | ((with_reducible refine gate_dst (N := 31) rfl ?_); refine Lib.R_makecap k43 _ 43 rfl (N := 31) rfl 51 _ _ rfl 0 rfl rfl Try.underlying51 (.agg #[(.int .i64 0), (.int .i64 0), (.int .i64 0), (.int .i64 0), (.bool false)]) 40 info43 rfl (by decide) (by omega) z43 (ok := fun _ => True) (okp := fun _ => True) (k43_mkM _ _ _ z43 ) (fun _ hk => hk) trivial Z76 Z76 (Below.refl _ _) (Nat.le_refl _) ?_; intro v150 w11 ho12 hb hg_ hnew_; clear hg_ hnew_; (first | rw [← Ny149.out] at ho12 | (simp only [Int.reduceToNat] at ho12; rw [← Ny149.out] at ho12)); have n0_ := Aside0.mk (Kd.R_below Z23 hb); have n1_ := Aside0.mk (Kd.R_below (by (with_reducible repeat (first | apply Kd.R_alloc | apply Kd.R_drewN | apply Kd.R_drew)); exact HO148.out) hb); have n2_ := Aside0.mk (Kd.R_lower ho12 (below_size Z71)); have n3_ := Aside0.mk (below_step Z71 hb); clear HO144; clear HO148; clear HB; have HO144 := n0_; have HO148 := n1_; have HO151 := n2_; have HB := n3_; clear n0_ n1_ n2_ n3_; clear hb ho12))
  go_loopg [10, 11, 12, 33] k (fun kq v10 v11 v12 v33 w' => ∃ (x10_1 : List (S43)) (x11_1 : Int) (x12_1 : Int) (x33_1 : Int), v11 = .int .i64 x11_1 ∧ v12 = .int .i64 x12_1 ∧ v33 = .int .i64 x33_1 ∧ Aside0 (impl_spansOf.l0 kq t141 t145 x10_1 x11_1 x12_1 ji5 x33_1 = some r) ∧ Aside0 (kq ≤ k) ∧ Aside0 (Kd.R Kd.string 9 w' w.heap.size (fun k_ => some k_ ≠ ((.slice Ao10 t145.length co10) : Value).ownBlock) (.slice Ao9 t141.length co9) t141) ∧ Aside0 (Kd.R Kd.string 9 w' w.heap.size (fun k_ => some k_ ≠ ((.slice Ao9 t141.length co9) : Value).ownBlock) (.slice Ao10 t145.length co10) t145) ∧ Aside0 (Kd.R k43 43 w' w.heap.size (fun _ => True) v10 x10_1) ∧ Aside0 (Below w.heap.size w w'))
  case atStart => exact ⟨(y149), (0), (0), (0), Z0, Z0, Z0, H', ⟨Nat.le_refl _⟩, ⟨by (with_reducible repeat (first | apply Kd.R_alloc | apply Kd.R_drewN | apply Kd.R_drew)); exact Kd.R_mono HO144.out (fun _ hk => hk.2)⟩, ⟨by (with_reducible repeat (first | apply Kd.R_alloc | apply Kd.R_drewN | apply Kd.R_drew)); exact Kd.R_mono HO148.out (fun _ hk => hk.2)⟩, ⟨by (with_reducible repeat (first | apply Kd.R_alloc | apply Kd.R_drewN | apply Kd.R_drew)); exact HO151.out⟩, ⟨by repeat (first | (with_reducible first | exact HB.out | apply below_alloc | apply pw_below_drewN | apply below_drew1) | exact HB.out)⟩⟩
  case round =>
   clear H'
   try clear c1
   try clear p2
   try clear c4
   try clear c6
   try clear c6b0
   try clear c6b1
   obtain ⟨x10_1, x11_1, x12_1, x33_1, rfl, rfl, rfl, HA, HK1, HO_5, HO_7, HO_10, HB⟩ := hrel
   cases gk with
   | zero => exact absurd HA.out (by simp [impl_spansOf.l0])
   | succ k1 =>
    have H := HA.out
    clear HA
    simp only [impl_spansOf.l0] at H
    by_cases c13 : x33_1 < ji5
    ·rw [if_pos c13] at H
     have c13b0 : decide (x33_1 < ji5) = true := decide_eq_true c13
     clear c13
     by_cases c14 : 0 ≤ x33_1
     ·rw [if_pos c14] at H
      have c14b0 : decide (0 ≤ x33_1) = true := decide_eq_true c14
      clear c14
      by_cases c15 : x33_1 < (t141.length : Int)
      ·rw [if_pos c15] at H
       have c15b0 : decide (x33_1 < (t141.length : Int)) = true := decide_eq_true c15
       clear c15
       by_cases c16 : x33_1 < (t145.length : Int)
       ·rw [if_pos c16] at H
        have c16b0 : decide (x33_1 < (t145.length : Int)) = true := decide_eq_true c16
        clear c16
        by_cases c17 : x10_1.length < 3518437208883
        ·rw [if_pos c17] at H
         have LMc17 := Aside0.mk c17
         clear c17
         obtain ⟨y157, hy157⟩ : ∃ y_ : List (S43), y_ = (x10_1 ++ [(⟨x11_1, wrap64 ((wrap64 (x11_1 + ((rdOf ByteArray.empty t141 x33_1).size : Int))) + 1), x12_1, wrap64 ((wrap64 (x12_1 + ((rdOf ByteArray.empty t145 x33_1).size : Int))) + 1), ((rdOf ByteArray.empty t141 x33_1).toList == (rdOf ByteArray.empty t145 x33_1).toList)⟩ : S43)]) := ⟨_, rfl⟩
         replace H : (impl_spansOf.l0 k1 t141 t145 y157 (wrap64 ((wrap64 (x11_1 + ((rdOf ByteArray.empty t141 x33_1).size : Int))) + 1)) (wrap64 ((wrap64 (x12_1 + ((rdOf ByteArray.empty t145 x33_1).size : Int))) + 1)) ji5 (wrap64 (x33_1 + 1))) = some r := by first | (rw [hy157]; with_reducible exact H) | (have H2_ := (Option.bind_some _ _).symm.trans H; rw [hy157]; with_reducible exact H2_) | (have H2_ := (Option.bind_some _ _).symm.trans H; with_reducible exact H2_) | with_reducible exact H | (rw [hy157]; exact H) | exact H
         have Ny157 := Aside0.mk hy157
         clear hy157
         have H' := Aside0.mk H
         clear H
         try go_wp2
         have n0_ := Aside0.mk (Kd.R_drew HO_5.out)
         have n1_ := Aside0.mk (Kd.R_drew HO_7.out)
         have n2_ := Aside0.mk (Kd.R_drew HO_10.out)
         have n3_ := Aside0.mk (below_drew1 HB.out)
         clear HO_5
         clear HO_7
         clear HO_10
         clear HB
         have HO_5 := n0_
         have HO_7 := n1_
         have HO_10 := n2_
         have HB := n3_
         clear n0_ n1_ n2_ n3_
         have p152 : 0 ≤ (x33_1 : Int) := of_decide_eq_true Z11
         have q152 : x33_1 < (t141.length : Int) := of_decide_eq_true Z11
         obtain ⟨ad152, e152, hx152_0⟩ := Kd.at_string (Kd.R_reads' HO_5.out).2.2 x33_1 p152 q152
         cases e152
         replace p152 := eq_true p152
         replace q152 := eq_true q152
         have p153 : 0 ≤ (x33_1 : Int) := of_decide_eq_true Z11
         have q153 : x33_1 < (t145.length : Int) := of_decide_eq_true Z11
         obtain ⟨ad153, e153, hx153_0⟩ := Kd.at_string (Kd.R_reads' HO_7.out).2.2 x33_1 p153 q153
         cases e153
         replace p153 := eq_true p153
         replace q153 := eq_true q153
         have p154 : 0 ≤ (x33_1 : Int) := of_decide_eq_true Z11
         have q154 : x33_1 < (t141.length : Int) := of_decide_eq_true Z11
         obtain ⟨ad154, e154, hx154_0⟩ := Kd.at_string (Kd.R_reads' HO_5.out).2.2 x33_1 p154 q154
         obtain rfl : ad152 = ad154 := (by injection e154)
         replace p154 := eq_true p154
         replace q154 := eq_true q154
         have p155 : 0 ≤ (x33_1 : Int) := of_decide_eq_true Z11
         have q155 : x33_1 < (t145.length : Int) := of_decide_eq_true Z11
         obtain ⟨ad155, e155, hx155_0⟩ := Kd.at_string (Kd.R_reads' HO_7.out).2.2 x33_1 p155 q155
         obtain rfl : ad153 = ad155 := (by injection e155)
         replace p155 := eq_true p155
         replace q155 := eq_true q155
         refine start_ (n := 30) (S := fun w' => w'.cell? (ad152.add (x33_1).toNat) = some (.string (rdOf ByteArray.empty t141 x33_1)) ∧ w'.cell? (ad153.add (x33_1).toNat) = some (.string (rdOf ByteArray.empty t145 x33_1)) ∧ w'.cell? (ad152.add (x33_1).toNat) = some (.string (rdOf ByteArray.empty t141 x33_1)) ∧ w'.cell? (ad153.add (x33_1).toNat) = some (.string (rdOf ByteArray.empty t145 x33_1))) (ds := []) #[false, false, false, false, false, false, false, false, false, false, false, false, false, false, false, false, false, false, false, false, false, false, false, false, false, false, false, false, false, false] (by kernel_rfl) rfl rfl ⟨hx152_0, hx153_0, hx154_0, hx155_0⟩ (fun hHeld => ?_); refine with_tabW impl_spansOf.tab9 impl_spansOf.bits9 (fun HT_ HW_ => ?_)
         generalize wr.drew = w18 at HO_5 HO_7 HO_10 HB hx152_0 hx153_0 hx154_0 hx155_0 hHeld ⊢
         refine pure_ (i := 0) (N := some 36) (v := ?_) (a' := ?_) #[true, false, false, false, false, false, false, false, false, false, false, false, false, false, false, false, false, false, false, false, false, false, false, false, false, false, false, false, false, false] rfl rfl (any_of HT_.out (by kernel_rfl)) (fun _ _ _ h => h) (Or.inl ⟨by rfl, ?_⟩) ?_ ?_
         rotate_left
         ·intro w'
          go_simp
          with_reducible rfl
         rotate_left
         ·simp only [Act.put, List.setIfInBounds_toArray, List.set_cons_zero, List.set_cons_succ, i64_w, i32_w]
          rfl
         refine pure_ (i := 1) (N := some 37) (v := ?_) (a' := ?_) #[true, true, false, false, false, false, false, false, false, false, false, false, false, false, false, false, false, false, false, false, false, false, false, false, false, false, false, false, false, false] rfl rfl (any_of HT_.out (by kernel_rfl)) (fun _ _ _ h => h) (Or.inl ⟨by rfl, ?_⟩) ?_ ?_
         rotate_left
         ·intro w'
          go_simp
          with_reducible rfl
         rotate_left
         ·simp only [Act.put, List.setIfInBounds_toArray, List.set_cons_zero, List.set_cons_succ, i64_w, i32_w]
          rfl
         refine pure_ (i := 2) (N := some 38) (v := ?_) (a' := ?_) #[true, true, true, false, false, false, false, false, false, false, false, false, false, false, false, false, false, false, false, false, false, false, false, false, false, false, false, false, false, false] rfl rfl (any_of HT_.out (by kernel_rfl)) (fun _ _ _ h => h) (Or.inl ⟨by rfl, ?_⟩) ?_ ?_
         rotate_left
         ·intro w'
          go_simp
          with_reducible rfl
         rotate_left
         ·simp only [Act.put, List.setIfInBounds_toArray, List.set_cons_zero, List.set_cons_succ, i64_w, i32_w]
          rfl
         refine pure_ (i := 3) (N := some 39) (v := ?_) (a' := ?_) #[true, true, true, true, false, false, false, false, false, false, false, false, false, false, false, false, false, false, false, false, false, false, false, false, false, false, false, false, false, false] rfl rfl (any_of HT_.out (by kernel_rfl)) (fun _ _ _ h => h) (Or.inl ⟨by rfl, ?_⟩) ?_ ?_
         rotate_left
         ·intro w'
          go_simp
          with_reducible rfl
         rotate_left
         ·simp only [Act.put, List.setIfInBounds_toArray, List.set_cons_zero, List.set_cons_succ, i64_w, i32_w]
          rfl
         refine pure_ (i := 4) (N := some 40) (v := ?_) (a' := ?_) #[true, true, true, true, true, false, false, false, false, false, false, false, false, false, false, false, false, false, false, false, false, false, false, false, false, false, false, false, false, false] rfl rfl (any_of HT_.out (by kernel_rfl)) (fun _ _ _ h => h) (Or.inl ⟨by rfl, ?_⟩) ?_ ?_
         rotate_left
         ·intro w'
          go_simp
          with_reducible rfl
         rotate_left
         ·simp only [Act.put, List.setIfInBounds_toArray, List.set_cons_zero, List.set_cons_succ, i64_w, i32_w]
          rfl
         refine pure_ (i := 9) (N := some 45) (v := ?_) (a' := ?_) #[true, true, true, true, true, false, false, false, false, true, false, false, false, false, false, false, false, false, false, false, false, false, false, false, false, false, false, false, false, false] rfl rfl (any_of HT_.out (by kernel_rfl)) (fun _ _ _ h => h) (Or.inl ⟨by rfl, ?_⟩) ?_ ?_
         rotate_left
         ·intro w'
          go_simp
          with_reducible rfl
         rotate_left
         ·simp only [Act.put, List.setIfInBounds_toArray, List.set_cons_zero, List.set_cons_succ, i64_w, i32_w]
          rfl
         refine pure_ (i := 10) (N := some 46) (v := ?_) (a' := ?_) #[true, true, true, true, true, false, false, false, false, true, true, false, false, false, false, false, false, false, false, false, false, false, false, false, false, false, false, false, false, false] rfl rfl (any_of HT_.out (by kernel_rfl)) (fun _ _ _ h => h) (Or.inl ⟨by rfl, ?_⟩) ?_ ?_
         rotate_left
         ·intro w'
          go_simp
          with_reducible rfl
         rotate_left
         ·simp only [Act.put, List.setIfInBounds_toArray, List.set_cons_zero, List.set_cons_succ, i64_w, i32_w]
          rfl
         refine pure_ (i := 11) (N := some 47) (v := ?_) (a' := ?_) #[true, true, true, true, true, false, false, false, false, true, true, true, false, false, false, false, false, false, false, false, false, false, false, false, false, false, false, false, false, false] rfl rfl (any_of HT_.out (by kernel_rfl)) (fun _ _ _ h => h) (Or.inl ⟨by rfl, ?_⟩) ?_ ?_
         rotate_left
         ·intro w'
          go_simp
          with_reducible rfl
         rotate_left
         ·simp only [Act.put, List.setIfInBounds_toArray, List.set_cons_zero, List.set_cons_succ, i64_w, i32_w]
          rfl
         refine pure_ (i := 12) (N := some 48) (v := ?_) (a' := ?_) #[true, true, true, true, true, false, false, false, false, true, true, true, true, false, false, false, false, false, false, false, false, false, false, false, false, false, false, false, false, false] rfl rfl (any_of HT_.out (by kernel_rfl)) (fun _ _ _ h => h) (Or.inl ⟨by rfl, ?_⟩) ?_ ?_
         rotate_left
         ·intro w'
          go_simp
          with_reducible rfl
         rotate_left
         ·simp only [Act.put, List.setIfInBounds_toArray, List.set_cons_zero, List.set_cons_succ, i64_w, i32_w]
          rfl
         refine pure_ (i := 13) (N := some 49) (v := ?_) (a' := ?_) #[true, true, true, true, true, false, false, false, false, true, true, true, true, true, false, false, false, false, false, false, false, false, false, false, false, false, false, false, false, false] rfl rfl (any_of HT_.out (by kernel_rfl)) (fun _ _ _ h => h) (Or.inl ⟨by rfl, ?_⟩) ?_ ?_
         rotate_left
         ·intro w'
          go_simp
          with_reducible rfl
         rotate_left
         ·simp only [Act.put, List.setIfInBounds_toArray, List.set_cons_zero, List.set_cons_succ, i64_w, i32_w]
          rfl
         refine pure_ (i := 18) (N := some 54) (v := ?_) (a' := ?_) #[true, true, true, true, true, false, false, false, false, true, true, true, true, true, false, false, false, false, true, false, false, false, false, false, false, false, false, false, false, false] rfl rfl (any_of HT_.out (by kernel_rfl)) (fun _ _ _ h => h) (Or.inl ⟨by rfl, ?_⟩) ?_ ?_
         rotate_left
         ·intro w'
          go_simp
          with_reducible rfl
         rotate_left
         ·simp only [Act.put, List.setIfInBounds_toArray, List.set_cons_zero, List.set_cons_succ, i64_w, i32_w]
          rfl
         refine pure_ (i := 19) (N := some 55) (v := ?_) (a' := ?_) #[true, true, true, true, true, false, false, false, false, true, true, true, true, true, false, false, false, false, true, true, false, false, false, false, false, false, false, false, false, false] rfl rfl (any_of HT_.out (by kernel_rfl)) (fun _ _ _ h => h) (Or.inl ⟨by rfl, ?_⟩) ?_ ?_
         rotate_left
         ·intro w'
          go_simp
          with_reducible rfl
         rotate_left
         ·simp only [Act.put, List.setIfInBounds_toArray, List.set_cons_zero, List.set_cons_succ, i64_w, i32_w]
          rfl
         refine pure_ (i := 20) (N := some 56) (v := ?_) (a' := ?_) #[true, true, true, true, true, false, false, false, false, true, true, true, true, true, false, false, false, false, true, true, true, false, false, false, false, false, false, false, false, false] rfl rfl (any_of HT_.out (by kernel_rfl)) (fun _ _ _ h => h) (Or.inl ⟨by rfl, ?_⟩) ?_ ?_
         rotate_left
         ·intro w'
          go_simp
          with_reducible rfl
         rotate_left
         ·simp only [Act.put, List.setIfInBounds_toArray, List.set_cons_zero, List.set_cons_succ, i64_w, i32_w]
          rfl
         refine pure_ (i := 22) (N := some 58) (v := ?_) (a' := ?_) #[true, true, true, true, true, false, false, false, false, true, true, true, true, true, false, false, false, false, true, true, true, false, true, false, false, false, false, false, false, false] rfl rfl (any_of HT_.out (by kernel_rfl)) (fun _ _ _ h => h) (Or.inl ⟨by rfl, ?_⟩) ?_ ?_
         rotate_left
         ·intro w'
          go_simp
          with_reducible rfl
         rotate_left
         ·simp only [Act.put, List.setIfInBounds_toArray, List.set_cons_zero, List.set_cons_succ, i64_w, i32_w]
          rfl
         refine pure_ (i := 23) (N := some 59) (v := ?_) (a' := ?_) #[true, true, true, true, true, false, false, false, false, true, true, true, true, true, false, false, false, false, true, true, true, false, true, true, false, false, false, false, false, false] rfl rfl (any_of HT_.out (by kernel_rfl)) (fun _ _ _ h => h) (Or.inl ⟨by rfl, ?_⟩) ?_ ?_
         rotate_left
         ·intro w'
          go_simp
          with_reducible rfl
         rotate_left
         ·simp only [Act.put, List.setIfInBounds_toArray, List.set_cons_zero, List.set_cons_succ, i64_w, i32_w]
          rfl
         refine pure_ (i := 24) (N := some 60) (v := ?_) (a' := ?_) #[true, true, true, true, true, false, false, false, false, true, true, true, true, true, false, false, false, false, true, true, true, false, true, true, true, false, false, false, false, false] rfl rfl (any_of HT_.out (by kernel_rfl)) (fun _ _ _ h => h) (Or.inl ⟨by rfl, ?_⟩) ?_ ?_
         rotate_left
         ·intro w'
          go_simp
          with_reducible rfl
         rotate_left
         ·simp only [Act.put, List.setIfInBounds_toArray, List.set_cons_zero, List.set_cons_succ, i64_w, i32_w]
          rfl
         refine take_ (i := 5) (N := some 41) (v := ?_) (a' := ?_) #[true, true, true, true, true, true, false, false, false, true, true, true, true, true, false, false, false, false, true, true, true, false, true, true, true, false, false, false, false, false] rfl rfl (take_ofW HT_.out HW_.out (by kernel_rfl)) (fun _ _ _ h => h) (Or.inl ⟨by rfl, ?_⟩) hHeld ?_ ?_
         rotate_left
         ·rintro w' ⟨s0, s1, s2, s3⟩
          go_simp
          with_reducible rfl
         rotate_left
         ·simp only [Act.put, List.setIfInBounds_toArray, List.set_cons_zero, List.set_cons_succ, i64_w, i32_w]
          rfl
         refine pure_ (i := 6) (N := some 42) (v := ?_) (a' := ?_) #[true, true, true, true, true, true, true, false, false, true, true, true, true, true, false, false, false, false, true, true, true, false, true, true, true, false, false, false, false, false] rfl rfl (any_of HT_.out (by kernel_rfl)) (fun _ _ _ h => h) (Or.inl ⟨by rfl, ?_⟩) ?_ ?_
         rotate_left
         ·intro w'
          go_simp
          with_reducible rfl
         rotate_left
         ·simp only [Act.put, List.setIfInBounds_toArray, List.set_cons_zero, List.set_cons_succ, i64_w, i32_w]
          rfl
         refine pure_ (i := 7) (N := some 43) (v := ?_) (a' := ?_) #[true, true, true, true, true, true, true, true, false, true, true, true, true, true, false, false, false, false, true, true, true, false, true, true, true, false, false, false, false, false] rfl rfl (any_of HT_.out (by kernel_rfl)) (fun _ _ _ h => h) (Or.inl ⟨by rfl, ?_⟩) ?_ ?_
         rotate_left
         ·intro w'
          go_simp
          with_reducible rfl
         rotate_left
         ·simp only [Act.put, List.setIfInBounds_toArray, List.set_cons_zero, List.set_cons_succ, i64_w, i32_w]
          rfl
         refine pure_ (i := 8) (N := some 44) (v := ?_) (a' := ?_) #[true, true, true, true, true, true, true, true, true, true, true, true, true, true, false, false, false, false, true, true, true, false, true, true, true, false, false, false, false, false] rfl rfl (any_of HT_.out (by kernel_rfl)) (fun _ _ _ h => h) (Or.inl ⟨by rfl, ?_⟩) ?_ ?_
         rotate_left
         ·intro w'
          go_simp
          with_reducible rfl
         rotate_left
         ·simp only [Act.put, List.setIfInBounds_toArray, List.set_cons_zero, List.set_cons_succ, i64_w, i32_w]
          rfl
         refine take_ (i := 14) (N := some 50) (v := ?_) (a' := ?_) #[true, true, true, true, true, true, true, true, true, true, true, true, true, true, true, false, false, false, true, true, true, false, true, true, true, false, false, false, false, false] rfl rfl (take_ofW HT_.out HW_.out (by kernel_rfl)) (fun _ _ _ h => h) (Or.inl ⟨by rfl, ?_⟩) hHeld ?_ ?_
         rotate_left
         ·rintro w' ⟨s0, s1, s2, s3⟩
          go_simp
          with_reducible rfl
         rotate_left
         ·simp only [Act.put, List.setIfInBounds_toArray, List.set_cons_zero, List.set_cons_succ, i64_w, i32_w]
          rfl
         refine pure_ (i := 15) (N := some 51) (v := ?_) (a' := ?_) #[true, true, true, true, true, true, true, true, true, true, true, true, true, true, true, true, false, false, true, true, true, false, true, true, true, false, false, false, false, false] rfl rfl (any_of HT_.out (by kernel_rfl)) (fun _ _ _ h => h) (Or.inl ⟨by rfl, ?_⟩) ?_ ?_
         rotate_left
         ·intro w'
          go_simp
          with_reducible rfl
         rotate_left
         ·simp only [Act.put, List.setIfInBounds_toArray, List.set_cons_zero, List.set_cons_succ, i64_w, i32_w]
          rfl
         refine pure_ (i := 16) (N := some 52) (v := ?_) (a' := ?_) #[true, true, true, true, true, true, true, true, true, true, true, true, true, true, true, true, true, false, true, true, true, false, true, true, true, false, false, false, false, false] rfl rfl (any_of HT_.out (by kernel_rfl)) (fun _ _ _ h => h) (Or.inl ⟨by rfl, ?_⟩) ?_ ?_
         rotate_left
         ·intro w'
          go_simp
          with_reducible rfl
         rotate_left
         ·simp only [Act.put, List.setIfInBounds_toArray, List.set_cons_zero, List.set_cons_succ, i64_w, i32_w]
          rfl
         refine pure_ (i := 17) (N := some 53) (v := ?_) (a' := ?_) #[true, true, true, true, true, true, true, true, true, true, true, true, true, true, true, true, true, true, true, true, true, false, true, true, true, false, false, false, false, false] rfl rfl (any_of HT_.out (by kernel_rfl)) (fun _ _ _ h => h) (Or.inl ⟨by rfl, ?_⟩) ?_ ?_
         rotate_left
         ·intro w'
          go_simp
          with_reducible rfl
         rotate_left
         ·simp only [Act.put, List.setIfInBounds_toArray, List.set_cons_zero, List.set_cons_succ, i64_w, i32_w]
          rfl
         refine take_ (i := 21) (N := some 57) (v := ?_) (a' := ?_) #[true, true, true, true, true, true, true, true, true, true, true, true, true, true, true, true, true, true, true, true, true, true, true, true, true, false, false, false, false, false] rfl rfl (take_ofW HT_.out HW_.out (by kernel_rfl)) (fun _ _ _ h => h) (Or.inl ⟨by rfl, ?_⟩) hHeld ?_ ?_
         rotate_left
         ·rintro w' ⟨s0, s1, s2, s3⟩
          go_simp
          with_reducible rfl
         rotate_left
         ·simp only [Act.put, List.setIfInBounds_toArray, List.set_cons_zero, List.set_cons_succ, i64_w, i32_w]
          rfl
         refine take_ (i := 25) (N := some 61) (v := ?_) (a' := ?_) #[true, true, true, true, true, true, true, true, true, true, true, true, true, true, true, true, true, true, true, true, true, true, true, true, true, true, false, false, false, false] rfl rfl (take_ofW HT_.out HW_.out (by kernel_rfl)) (fun _ _ _ h => h) (Or.inl ⟨by rfl, ?_⟩) hHeld ?_ ?_
         rotate_left
         ·rintro w' ⟨s0, s1, s2, s3⟩
          go_simp
          with_reducible rfl
         rotate_left
         ·simp only [Act.put, List.setIfInBounds_toArray, List.set_cons_zero, List.set_cons_succ, i64_w, i32_w]
          rfl
         refine pure_ (i := 26) (N := some 62) (v := ?_) (a' := ?_) #[true, true, true, true, true, true, true, true, true, true, true, true, true, true, true, true, true, true, true, true, true, true, true, true, true, true, true, false, false, false] rfl rfl (any_of HT_.out (by kernel_rfl)) (fun _ _ _ h => h) (Or.inl ⟨by rfl, ?_⟩) ?_ ?_
         rotate_left
         ·intro w'
          go_simp
          with_reducible rfl
         rotate_left
         ·simp only [Act.put, List.setIfInBounds_toArray, List.set_cons_zero, List.set_cons_succ, i64_w, i32_w]
          rfl
         refine pure_ (i := 27) (N := some 63) (v := ?_) (a' := ?_) #[true, true, true, true, true, true, true, true, true, true, true, true, true, true, true, true, true, true, true, true, true, true, true, true, true, true, true, true, false, false] rfl rfl (any_of HT_.out (by kernel_rfl)) (fun _ _ _ h => h) (Or.inl ⟨by rfl, ?_⟩) ?_ ?_
         rotate_left
         ·intro w'
          go_simp
          with_reducible rfl
         rotate_left
         ·simp only [Act.put, List.setIfInBounds_toArray, List.set_cons_zero, List.set_cons_succ, i64_w, i32_w]
          rfl
         refine one_ (i := 28) (N := some 14) #[true, true, true, true, true, true, true, true, true, true, true, true, true, true, true, true, true, true, true, true, true, true, true, true, true, true, true, true, true, false] rfl rfl (one_of HT_.out (by kernel_rfl)) (by decide) (fun K hK => ?_)
         refine box_step ?hg (N := 14) ?hd (cs := #[.int .i64 0, .int .i64 0, .int .i64 0, .int .i64 0, .bool false]) (t := 43) ?hr ?_; (case hd => rfl); (case hg => rfl); (case hr => first | (go_simp; done) | (go_simp; rfl))
         intro gb156 hg w19 hbox hb
         have HS0_ := (hb.cell (World.block_lt_of_cell? _ _ (hHeld.1))).trans (hHeld.1)
         have HS1_ := (hb.cell (World.block_lt_of_cell? _ _ (hHeld.2.1))).trans (hHeld.2.1)
         have HS2_ := (hb.cell (World.block_lt_of_cell? _ _ (hHeld.2.2.1))).trans (hHeld.2.2.1)
         have HS3_ := (hb.cell (World.block_lt_of_cell? _ _ (hHeld.2.2.2))).trans (hHeld.2.2.2)
         have n0_ := Aside0.mk (Kd.R_below Z20 hb)
         have n1_ := Aside0.mk (Kd.R_below (by (with_reducible repeat (first | apply Kd.R_alloc | apply Kd.R_drewN | apply Kd.R_drew)); exact HO_7.out) hb)
         have n2_ := Aside0.mk (Kd.R_below (Kd.R_elderB Z24 gb156 (Nat.le_of_eq hg.symm)) hb)
         have n3_ := Aside0.mk (below_step Z71 hb)
         have n4_ := Aside0.mk (hbox)
         have n5_ := Aside0.mk ((Z189 : w.heap.size ≤ gb156))
         have n6_ := Aside0.mk ((Z189 : w.heap.size ≤ gb156))
         clear HO_5
         clear HO_7
         clear HO_10
         clear HB
         have HO_5 := n0_
         have HO_7 := n1_
         have HO_10 := n2_
         have HB := n3_
         have BK156 := n4_
         have GW156 := n5_
         have GE156 := n6_
         clear n0_ n1_ n2_ n3_ n4_ n5_ n6_
         clear hb hbox hg
         refine hK.out _ _ ⟨HS0_, HS1_, HS2_, HS3_⟩ (fun hHeld => ?_)
         clear hK K
         refine norm_ (a' := ?_) ?_ ?_
         rotate_left
         ·show Act.put _ (some 14) _ = _
          simp only [Act.put, List.setIfInBounds_toArray, List.set_cons_zero, List.set_cons_succ, i64_w, i32_w]
          rfl
         refine one_ (i := 29) (N := none) #[true, true, true, true, true, true, true, true, true, true, true, true, true, true, true, true, true, true, true, true, true, true, true, true, true, true, true, true, true, true] rfl rfl (one_of HT_.out (by kernel_rfl)) (by decide) (fun K hK => ?_)
         have hs20 : w19.cell? ⟨gb156, 0, none⟩ = some (.int .i64 0) := (blk_cell BK156.out 0).trans rfl
         have hfs20 := blk_frozen BK156.out 0
         have hs21 : w19.cell? ⟨gb156, 1, none⟩ = some (.int .i64 0) := (blk_cell BK156.out 1).trans rfl
         have hfs21 := blk_frozen BK156.out 1
         have hs22 : w19.cell? ⟨gb156, 2, none⟩ = some (.int .i64 0) := (blk_cell BK156.out 2).trans rfl
         have hfs22 := blk_frozen BK156.out 2
         have hs23 : w19.cell? ⟨gb156, 3, none⟩ = some (.int .i64 0) := (blk_cell BK156.out 3).trans rfl
         have hfs23 := blk_frozen BK156.out 3
         have hs24 : w19.cell? ⟨gb156, 4, none⟩ = some (.bool false) := (blk_cell BK156.out 4).trans rfl
         have hfs24 := blk_frozen BK156.out 4
         refine skip_ (w1 := ?_) (by rfl) rfl ?_ ?_
         rotate_left
         ·go_simp
          rfl
         refine hK.out _ _ ⟨((cell_far (p := ⟨gb156, _, none⟩) Z171 _).trans (((cell_far (p := ⟨gb156, _, none⟩) Z171 _).trans (((cell_far (p := ⟨gb156, _, none⟩) Z171 _).trans (((cell_far (p := ⟨gb156, _, none⟩) Z171 _).trans (((cell_far (p := ⟨gb156, _, none⟩) Z171 _).trans (hHeld.1)))))))))), ((cell_far (p := ⟨gb156, _, none⟩) Z172 _).trans (((cell_far (p := ⟨gb156, _, none⟩) Z172 _).trans (((cell_far (p := ⟨gb156, _, none⟩) Z172 _).trans (((cell_far (p := ⟨gb156, _, none⟩) Z172 _).trans (((cell_far (p := ⟨gb156, _, none⟩) Z172 _).trans (hHeld.2.1)))))))))), ((cell_far (p := ⟨gb156, _, none⟩) Z171 _).trans (((cell_far (p := ⟨gb156, _, none⟩) Z171 _).trans (((cell_far (p := ⟨gb156, _, none⟩) Z171 _).trans (((cell_far (p := ⟨gb156, _, none⟩) Z171 _).trans (((cell_far (p := ⟨gb156, _, none⟩) Z171 _).trans (hHeld.2.2.1)))))))))), ((cell_far (p := ⟨gb156, _, none⟩) Z172 _).trans (((cell_far (p := ⟨gb156, _, none⟩) Z172 _).trans (((cell_far (p := ⟨gb156, _, none⟩) Z172 _).trans (((cell_far (p := ⟨gb156, _, none⟩) Z172 _).trans (((cell_far (p := ⟨gb156, _, none⟩) Z172 _).trans (hHeld.2.2.2))))))))))⟩ (fun hHeld => ?_)
         clear hK K
         refine done_ (done_of HT_.out (by kernel_rfl)) ?_
         try go_wp2
         have n0_ : Aside0 (Kd.R Kd.string 9 (((((w19.setCell ⟨gb156, 0, none⟩ (.int .i64 x11_1)).setCell ⟨gb156, 1, none⟩ (.int .i64 (wrap64 ((wrap64 (x11_1 + ((rdOf ByteArray.empty t141 x33_1).size : Int))) + 1)))).setCell ⟨gb156, 2, none⟩ (.int .i64 x12_1)).setCell ⟨gb156, 3, none⟩ (.int .i64 (wrap64 ((wrap64 (x12_1 + ((rdOf ByteArray.empty t145 x33_1).size : Int))) + 1)))).setCell ⟨gb156, 4, none⟩ (.bool ((rdOf ByteArray.empty t141 x33_1).toList == (rdOf ByteArray.empty t145 x33_1).toList))) w.heap.size (fun k_ => some k_ ≠ (.slice (some ad153) t145.length co10 : Value).ownBlock) (.slice (some ad152) t141.length co9) t141) := ⟨by (with_reducible repeat (first | apply Kd.R_alloc | apply Kd.R_drewN | apply Kd.R_drew)); exact Kd.R_mono (Kd.R_far (p := ⟨gb156, 4, none⟩) (Kd.R_far (p := ⟨gb156, 3, none⟩) (Kd.R_far (p := ⟨gb156, 2, none⟩) (Kd.R_far (p := ⟨gb156, 1, none⟩) (Kd.R_far (p := ⟨gb156, 0, none⟩) (Kd.R_types HO_5.out BK156.out (by decide)) (fun _ hk => hk.2) (.int .i64 x11_1)) (fun _ hk => hk.2) (.int .i64 (wrap64 ((wrap64 (x11_1 + ((rdOf ByteArray.empty t141 x33_1).size : Int))) + 1)))) (fun _ hk => hk.2) (.int .i64 x12_1)) (fun _ hk => hk.2) (.int .i64 (wrap64 ((wrap64 (x12_1 + ((rdOf ByteArray.empty t145 x33_1).size : Int))) + 1)))) (fun _ hk => hk.2) (.bool ((rdOf ByteArray.empty t141 x33_1).toList == (rdOf ByteArray.empty t145 x33_1).toList))) (fun _ hk => hk.1)⟩
         have n1_ : Aside0 (Kd.R Kd.string 9 (((((w19.setCell ⟨gb156, 0, none⟩ (.int .i64 x11_1)).setCell ⟨gb156, 1, none⟩ (.int .i64 (wrap64 ((wrap64 (x11_1 + ((rdOf ByteArray.empty t141 x33_1).size : Int))) + 1)))).setCell ⟨gb156, 2, none⟩ (.int .i64 x12_1)).setCell ⟨gb156, 3, none⟩ (.int .i64 (wrap64 ((wrap64 (x12_1 + ((rdOf ByteArray.empty t145 x33_1).size : Int))) + 1)))).setCell ⟨gb156, 4, none⟩ (.bool ((rdOf ByteArray.empty t141 x33_1).toList == (rdOf ByteArray.empty t145 x33_1).toList))) w.heap.size (fun k_ => some k_ ≠ (.slice (some ad152) t141.length co9 : Value).ownBlock) (.slice (some ad153) t145.length co10) t145) := ⟨by (with_reducible repeat (first | apply Kd.R_alloc | apply Kd.R_drewN | apply Kd.R_drew)); exact Kd.R_mono (Kd.R_far (p := ⟨gb156, 4, none⟩) (Kd.R_far (p := ⟨gb156, 3, none⟩) (Kd.R_far (p := ⟨gb156, 2, none⟩) (Kd.R_far (p := ⟨gb156, 1, none⟩) (Kd.R_far (p := ⟨gb156, 0, none⟩) (Kd.R_types HO_7.out BK156.out (by decide)) (fun _ hk => hk.2) (.int .i64 x11_1)) (fun _ hk => hk.2) (.int .i64 (wrap64 ((wrap64 (x11_1 + ((rdOf ByteArray.empty t141 x33_1).size : Int))) + 1)))) (fun _ hk => hk.2) (.int .i64 x12_1)) (fun _ hk => hk.2) (.int .i64 (wrap64 ((wrap64 (x12_1 + ((rdOf ByteArray.empty t145 x33_1).size : Int))) + 1)))) (fun _ hk => hk.2) (.bool ((rdOf ByteArray.empty t141 x33_1).toList == (rdOf ByteArray.empty t145 x33_1).toList))) (fun _ hk => hk.1)⟩
         have n2_ : Aside0 (Kd.R k43 43 (((((w19.setCell ⟨gb156, 0, none⟩ (.int .i64 x11_1)).setCell ⟨gb156, 1, none⟩ (.int .i64 (wrap64 ((wrap64 (x11_1 + ((rdOf ByteArray.empty t141 x33_1).size : Int))) + 1)))).setCell ⟨gb156, 2, none⟩ (.int .i64 x12_1)).setCell ⟨gb156, 3, none⟩ (.int .i64 (wrap64 ((wrap64 (x12_1 + ((rdOf ByteArray.empty t145 x33_1).size : Int))) + 1)))).setCell ⟨gb156, 4, none⟩ (.bool ((rdOf ByteArray.empty t141 x33_1).toList == (rdOf ByteArray.empty t145 x33_1).toList))) w.heap.size (fun k_ => k_ ≠ gb156) u10 x10_1) := ⟨by (with_reducible repeat (first | apply Kd.R_alloc | apply Kd.R_drewN | apply Kd.R_drew)); exact Kd.R_mono (Kd.R_far (p := ⟨gb156, 4, none⟩) (Kd.R_far (p := ⟨gb156, 3, none⟩) (Kd.R_far (p := ⟨gb156, 2, none⟩) (Kd.R_far (p := ⟨gb156, 1, none⟩) (Kd.R_far (p := ⟨gb156, 0, none⟩) (Kd.R_mono HO_10.out (fun k_ hk => (⟨hk, hk.2⟩ : _ ∧ k_ ≠ gb156))) (fun _ hk => hk.2) (.int .i64 x11_1)) (fun _ hk => hk.2) (.int .i64 (wrap64 ((wrap64 (x11_1 + ((rdOf ByteArray.empty t141 x33_1).size : Int))) + 1)))) (fun _ hk => hk.2) (.int .i64 x12_1)) (fun _ hk => hk.2) (.int .i64 (wrap64 ((wrap64 (x12_1 + ((rdOf ByteArray.empty t145 x33_1).size : Int))) + 1)))) (fun _ hk => hk.2) (.bool ((rdOf ByteArray.empty t141 x33_1).toList == (rdOf ByteArray.empty t145 x33_1).toList))) (fun _ hk => hk.1.2)⟩
         have n3_ : Aside0 ((((((w19.setCell ⟨gb156, 0, none⟩ (.int .i64 x11_1)).setCell ⟨gb156, 1, none⟩ (.int .i64 (wrap64 ((wrap64 (x11_1 + ((rdOf ByteArray.empty t141 x33_1).size : Int))) + 1)))).setCell ⟨gb156, 2, none⟩ (.int .i64 x12_1)).setCell ⟨gb156, 3, none⟩ (.int .i64 (wrap64 ((wrap64 (x12_1 + ((rdOf ByteArray.empty t145 x33_1).size : Int))) + 1)))).setCell ⟨gb156, 4, none⟩ (.bool ((rdOf ByteArray.empty t141 x33_1).toList == (rdOf ByteArray.empty t145 x33_1).toList))).heap[gb156]? = some (.cells #[.int .i64 x11_1, .int .i64 (wrap64 ((wrap64 (x11_1 + ((rdOf ByteArray.empty t141 x33_1).size : Int))) + 1)), .int .i64 x12_1, .int .i64 (wrap64 ((wrap64 (x12_1 + ((rdOf ByteArray.empty t145 x33_1).size : Int))) + 1)), .bool ((rdOf ByteArray.empty t141 x33_1).toList == (rdOf ByteArray.empty t145 x33_1).toList)] 43 (0, 0))) := ⟨by (with_reducible repeat (first | refine blk_drewN ?_ _ | refine blk_drew ?_ | refine blk_alloc ?_ _)); refine blk_put (cs := #[.int .i64 x11_1, .int .i64 (wrap64 ((wrap64 (x11_1 + ((rdOf ByteArray.empty t141 x33_1).size : Int))) + 1)), .int .i64 x12_1, .int .i64 (wrap64 ((wrap64 (x12_1 + ((rdOf ByteArray.empty t145 x33_1).size : Int))) + 1)), .bool false]) ?_ 4 _ rfl; (with_reducible repeat (first | refine blk_drewN ?_ _ | refine blk_drew ?_ | refine blk_alloc ?_ _)); refine blk_put (cs := #[.int .i64 x11_1, .int .i64 (wrap64 ((wrap64 (x11_1 + ((rdOf ByteArray.empty t141 x33_1).size : Int))) + 1)), .int .i64 x12_1, .int .i64 0, .bool false]) ?_ 3 _ rfl; (with_reducible repeat (first | refine blk_drewN ?_ _ | refine blk_drew ?_ | refine blk_alloc ?_ _)); refine blk_put (cs := #[.int .i64 x11_1, .int .i64 (wrap64 ((wrap64 (x11_1 + ((rdOf ByteArray.empty t141 x33_1).size : Int))) + 1)), .int .i64 0, .int .i64 0, .bool false]) ?_ 2 _ rfl; (with_reducible repeat (first | refine blk_drewN ?_ _ | refine blk_drew ?_ | refine blk_alloc ?_ _)); refine blk_put (cs := #[.int .i64 x11_1, .int .i64 0, .int .i64 0, .int .i64 0, .bool false]) ?_ 1 _ rfl; (with_reducible repeat (first | refine blk_drewN ?_ _ | refine blk_drew ?_ | refine blk_alloc ?_ _)); refine blk_put (cs := #[.int .i64 0, .int .i64 0, .int .i64 0, .int .i64 0, .bool false]) ?_ 0 _ rfl; (with_reducible repeat (first | refine blk_drewN ?_ _ | refine blk_drew ?_ | refine blk_alloc ?_ _)); exact BK156.out⟩
         have n4_ : Aside0 (Below w.heap.size w (((((w19.setCell ⟨gb156, 0, none⟩ (.int .i64 x11_1)).setCell ⟨gb156, 1, none⟩ (.int .i64 (wrap64 ((wrap64 (x11_1 + ((rdOf ByteArray.empty t141 x33_1).size : Int))) + 1)))).setCell ⟨gb156, 2, none⟩ (.int .i64 x12_1)).setCell ⟨gb156, 3, none⟩ (.int .i64 (wrap64 ((wrap64 (x12_1 + ((rdOf ByteArray.empty t145 x33_1).size : Int))) + 1)))).setCell ⟨gb156, 4, none⟩ (.bool ((rdOf ByteArray.empty t141 x33_1).toList == (rdOf ByteArray.empty t145 x33_1).toList)))) := ⟨by repeat (first | (with_reducible first | exact HB.out | apply below_alloc | apply pw_below_drewN | apply below_drew1 | refine below_set ?_ GE156.out) | exact HB.out)⟩
         (try clear HO_5)
         (try clear HO_7)
         (try clear HO_10)
         (try clear BK156)
         (try clear HB)
         generalize (((((w19.setCell ⟨gb156, 0, none⟩ (.int .i64 x11_1)).setCell ⟨gb156, 1, none⟩ (.int .i64 (wrap64 ((wrap64 (x11_1 + ((rdOf ByteArray.empty t141 x33_1).size : Int))) + 1)))).setCell ⟨gb156, 2, none⟩ (.int .i64 x12_1)).setCell ⟨gb156, 3, none⟩ (.int .i64 (wrap64 ((wrap64 (x12_1 + ((rdOf ByteArray.empty t145 x33_1).size : Int))) + 1)))).setCell ⟨gb156, 4, none⟩ (.bool ((rdOf ByteArray.empty t141 x33_1).toList == (rdOf ByteArray.empty t145 x33_1).toList))) = w25 at n0_ n1_ n2_ n3_ n4_ ⊢
         have HO_5 := n0_
         have HO_7 := n1_
         have HO_10 := n2_
         have BK156 := n3_
         have HB := n4_
         clear n0_ n1_ n2_ n3_ n4_
         have n0_ := Aside0.mk (Kd.R_drew HO_5.out)
         have n1_ := Aside0.mk (Kd.R_drew HO_7.out)
         have n2_ := Aside0.mk (Kd.R_drew HO_10.out)
         have n3_ := Aside0.mk (blk_drew BK156.out)
         have n4_ := Aside0.mk (below_drew1 HB.out)
         clear HO_5
         clear HO_7
         clear HO_10
         clear BK156
         clear HB
         have HO_5 := n0_
         have HO_7 := n1_
         have HO_10 := n2_
         have BK156 := n3_
         have HB := n4_
         clear n0_ n1_ n2_ n3_ n4_
         refine start_ (n := 6) (S := fun w' => w'.cell? ⟨gb156, 0, none⟩ = some (.int .i64 x11_1) ∧ w'.cell? ⟨gb156, 1, none⟩ = some (.int .i64 (wrap64 ((wrap64 (x11_1 + ((rdOf ByteArray.empty t141 x33_1).size : Int))) + 1))) ∧ w'.cell? ⟨gb156, 2, none⟩ = some (.int .i64 x12_1) ∧ w'.cell? ⟨gb156, 3, none⟩ = some (.int .i64 (wrap64 ((wrap64 (x12_1 + ((rdOf ByteArray.empty t145 x33_1).size : Int))) + 1))) ∧ w'.cell? ⟨gb156, 4, none⟩ = some (.bool ((rdOf ByteArray.empty t141 x33_1).toList == (rdOf ByteArray.empty t145 x33_1).toList))) (ds := []) #[false, false, false, false, false, false] (by kernel_rfl) rfl rfl ⟨(blk_cell BK156.out 0).trans rfl, (blk_cell BK156.out 1).trans rfl, (blk_cell BK156.out 2).trans rfl, (blk_cell BK156.out 3).trans rfl, (blk_cell BK156.out 4).trans rfl⟩ (fun hHeld => ?_)
         generalize w25.drew = w26 at HO_5 HO_7 HO_10 BK156 HB hHeld ⊢
         refine pure_ (i := 0) (N := some 64) (v := ?_) (a' := ?_) #[true, false, false, false, false, false] rfl rfl (by kernel_rfl) (fun _ _ _ h => h) (Or.inl ⟨by rfl, ?_⟩) ?_ ?_
         rotate_left
         ·intro w'
          go_simp
          with_reducible rfl
         rotate_left
         ·simp only [Act.put, List.setIfInBounds_toArray, List.set_cons_zero, List.set_cons_succ, i64_w, i32_w]
          rfl
         refine pure_ (i := 2) (N := some 66) (v := ?_) (a' := ?_) #[true, false, true, false, false, false] rfl rfl (by kernel_rfl) (fun _ _ _ h => h) (Or.inl ⟨by rfl, ?_⟩) ?_ ?_
         rotate_left
         ·intro w'
          go_simp
          with_reducible rfl
         rotate_left
         ·simp only [Act.put, List.setIfInBounds_toArray, List.set_cons_zero, List.set_cons_succ, i64_w, i32_w]
          rfl
         refine take_ (i := 1) (N := some 65) (v := ?_) (a' := ?_) #[true, true, true, false, false, false] rfl rfl (by kernel_rfl) (fun _ _ _ h => h) (Or.inl ⟨by rfl, ?_⟩) hHeld ?_ ?_
         rotate_left
         ·rintro w' ⟨s0, s1, s2, s3, s4⟩
          go_simp
          with_reducible rfl
         rotate_left
         ·simp only [Act.put, List.setIfInBounds_toArray, List.set_cons_zero, List.set_cons_succ, i64_w, i32_w]
          rfl
         refine pure_ (i := 4) (N := some 11) (v := ?_) (a' := ?_) #[true, true, true, false, true, false] rfl rfl (by kernel_rfl) (fun _ _ _ h => h) (Or.inl ⟨by rfl, ?_⟩) ?_ ?_
         rotate_left
         ·intro w'
          go_simp
          with_reducible rfl
         rotate_left
         ·simp only [Act.put, List.setIfInBounds_toArray, List.set_cons_zero, List.set_cons_succ, i64_w, i32_w]
          rfl
         refine take_ (i := 3) (N := some 67) (v := ?_) (a' := ?_) #[true, true, true, true, true, false] rfl rfl (by kernel_rfl) (fun _ _ _ h => h) (Or.inl ⟨by rfl, ?_⟩) hHeld ?_ ?_
         rotate_left
         ·rintro w' ⟨s0, s1, s2, s3, s4⟩
          go_simp
          with_reducible rfl
         rotate_left
         ·simp only [Act.put, List.setIfInBounds_toArray, List.set_cons_zero, List.set_cons_succ, i64_w, i32_w]
          rfl
         refine pure_ (i := 5) (N := some 12) (v := ?_) (a' := ?_) #[true, true, true, true, true, true] rfl rfl (by kernel_rfl) (fun _ _ _ h => h) (Or.inl ⟨by rfl, ?_⟩) ?_ ?_
         rotate_left
         ·intro w'
          go_simp
          with_reducible rfl
         rotate_left
         ·simp only [Act.put, List.setIfInBounds_toArray, List.set_cons_zero, List.set_cons_succ, i64_w, i32_w]
          rfl
         refine done_ (by kernel_rfl) ?_
         have hcz27_0 : w26.cell? ⟨gb156, 0, none⟩ = some (.int .i64 x11_1) := (blk_cell BK156.out 0).trans rfl
         have hcz27_1 : w26.cell? ⟨gb156, 1, none⟩ = some (.int .i64 (wrap64 ((wrap64 (x11_1 + ((rdOf ByteArray.empty t141 x33_1).size : Int))) + 1))) := (blk_cell BK156.out 1).trans rfl
         have hcz27_2 : w26.cell? ⟨gb156, 2, none⟩ = some (.int .i64 x12_1) := (blk_cell BK156.out 2).trans rfl
         have hcz27_3 : w26.cell? ⟨gb156, 3, none⟩ = some (.int .i64 (wrap64 ((wrap64 (x12_1 + ((rdOf ByteArray.empty t145 x33_1).size : Int))) + 1))) := (blk_cell BK156.out 3).trans rfl
         have hcz27_4 : w26.cell? ⟨gb156, 4, none⟩ = some (.bool ((rdOf ByteArray.empty t141 x33_1).toList == (rdOf ByteArray.empty t145 x33_1).toList)) := (blk_cell BK156.out 4).trans rfl
         have hfz27_0 := blk_frozen BK156.out 0
         have hfz27_1 := blk_frozen BK156.out 1
         have hfz27_2 := blk_frozen BK156.out 2
         have hfz27_3 := blk_frozen BK156.out 3
         have hfz27_4 := blk_frozen BK156.out 4
         try go_wp2_with (first | ((with_reducible refine gate_builtin (b := .append) (xs := #[.tmp 68, .tmp 70]) rfl ?_); at_builtin; refine Kd.R_append k43 (w0 := w) w.heap.size rfl (.tmp 68) (.tmp 70) 51 43 (.agg #[(.int .i64 0), (.int .i64 0), (.int .i64 0), (.int .i64 0), (.bool false)]) 40 rfl Try.underlying51 info43 rfl (by decide) (by omega) u10 x10_1 (⟨x11_1, wrap64 ((wrap64 (x11_1 + ((rdOf ByteArray.empty t141 x33_1).size : Int))) + 1), x12_1, wrap64 ((wrap64 (x12_1 + ((rdOf ByteArray.empty t145 x33_1).size : Int))) + 1), ((rdOf ByteArray.empty t141 x33_1).toList == (rdOf ByteArray.empty t145 x33_1).toList)⟩ : S43) [.int .i64 x11_1, .int .i64 (wrap64 ((wrap64 (x11_1 + ((rdOf ByteArray.empty t141 x33_1).size : Int))) + 1)), .int .i64 x12_1, .int .i64 (wrap64 ((wrap64 (x12_1 + ((rdOf ByteArray.empty t145 x33_1).size : Int))) + 1)), .bool ((rdOf ByteArray.empty t141 x33_1).toList == (rdOf ByteArray.empty t145 x33_1).toList)] (fun k_ => k_ ≠ gb156) (fun _ => False) rfl rfl ?aP (fun _ hk => hk.elim) ?aF ?aO ?aB ?aS ?aL ?_; (case aP => exact k43_mkM _ _ _ (⟨x11_1, wrap64 ((wrap64 (x11_1 + ((rdOf ByteArray.empty t141 x33_1).size : Int))) + 1), x12_1, wrap64 ((wrap64 (x12_1 + ((rdOf ByteArray.empty t145 x33_1).size : Int))) + 1), ((rdOf ByteArray.empty t141 x33_1).toList == (rdOf ByteArray.empty t145 x33_1).toList)⟩ : S43)); (case aB => exact Z83); (case aF => exact (fun k_ hk => Kd.freshB (g := gb156) (o := .cells #[.int .i64 x11_1, .int .i64 (wrap64 ((wrap64 (x11_1 + ((rdOf ByteArray.empty t141 x33_1).size : Int))) + 1)), .int .i64 x12_1, .int .i64 (wrap64 ((wrap64 (x12_1 + ((rdOf ByteArray.empty t145 x33_1).size : Int))) + 1)), .bool ((rdOf ByteArray.empty t141 x33_1).toList == (rdOf ByteArray.empty t145 x33_1).toList)] 43 (0, 0)) Z36 k_ hk)); (case aO => exact Z24); (case aS => exact (below_size Z83)); (case aL => have := LMc17.out; omega); intro v158 w28 ho hb hg hat; rw [← Ny157.out] at ho; have n0_ := Aside0.mk (Kd.R_over' Z20 (Kd.R_typed Z24) (by decide) hg); have n1_ := Aside0.mk (Kd.R_over' (by (with_reducible repeat (first | apply Kd.R_alloc | apply Kd.R_drewN | apply Kd.R_drew)); exact HO_7.out) (Kd.R_typed Z24) (by decide) hg); have n2_ := Aside0.mk (blk_grown (g := gb156) (o := .cells #[.int .i64 x11_1, .int .i64 (wrap64 ((wrap64 (x11_1 + ((rdOf ByteArray.empty t141 x33_1).size : Int))) + 1)), .int .i64 x12_1, .int .i64 (wrap64 ((wrap64 (x12_1 + ((rdOf ByteArray.empty t145 x33_1).size : Int))) + 1)), .bool ((rdOf ByteArray.empty t141 x33_1).toList == (rdOf ByteArray.empty t145 x33_1).toList)] 43 (0, 0)) Z36 hg (Kd.R_away HO_10.out (fun _ hk => hk))); have n3_ := Aside0.mk (hb); have n4_ := Aside0.mk (ho); clear HO_5; clear HO_7; clear BK156; clear HB; clear HO_10; have HO_5 := n0_; have HO_7 := n1_; have BK156 := n2_; have HB := n3_; have HO159 := n4_; clear n0_ n1_ n2_ n3_ n4_; clear ho hb hg hat))
         go_roundg k1
         case measure => have := HK1.out; omega
         case rel => exact ⟨(y157), (wrap64 ((wrap64 (x11_1 + ((rdOf ByteArray.empty t141 x33_1).size : Int))) + 1)), (wrap64 ((wrap64 (x12_1 + ((rdOf ByteArray.empty t145 x33_1).size : Int))) + 1)), (wrap64 (x33_1 + 1)), Z0, Z0, Z0, H', ⟨by have := HK1.out; omega⟩, ⟨by (with_reducible repeat (first | apply Kd.R_alloc | apply Kd.R_drewN | apply Kd.R_drew)); exact HO_5.out⟩, ⟨by (with_reducible repeat (first | apply Kd.R_alloc | apply Kd.R_drewN | apply Kd.R_drew)); exact HO_7.out⟩, ⟨by (with_reducible repeat (first | apply Kd.R_alloc | apply Kd.R_drewN | apply Kd.R_drew)); exact Kd.R_mono HO159.out (fun _ hk => trivial)⟩, ⟨by repeat (first | (with_reducible first | exact HB.out | apply below_alloc | apply pw_below_drewN | apply below_drew1 | refine below_set ?_ GE156.out) | exact HB.out)⟩⟩
        ·rw [if_neg c17] at H
         exact absurd H (by simp)
       ·rw [if_neg c16] at H
        exact absurd H (by simp)
      ·rw [if_neg c15] at H
       exact absurd H (by simp)
     ·rw [if_neg c14] at H
      exact absurd H (by simp)
    ·rw [if_neg c13] at H
     have c13b0 : decide (x33_1 < ji5) = false := decide_eq_false c13
     clear c13
     obtain rfl := Option.some.inj H
     go_wp2
     go_ret
     exact ⟨_, by first | rfl | (simp [errW_none, errW_some] <;> rfl) | (simp only [← hji5]; first | rfl | (simp [errW_none, errW_some] <;> rfl)) | (simp [*, errW_none, errW_some] <;> rfl), by (with_reducible repeat (first | apply Kd.R_alloc | apply Kd.R_drewN | apply Kd.R_drew)); exact HO_10.out, by repeat (first | (with_reducible first | exact HB.out | apply below_alloc | apply pw_below_drewN | apply below_drew1) | exact HB.out)⟩
 ·rw [if_neg c6] at H
  exact absurd H (by simp)

/-! ### impl_PosThere: function 21 -/
def impl_PosThere.f (k : Nat) (a0 : ByteArray) (a1 : ByteArray) (a2 : Int) : Option (Int) := (impl_spansOf.f k a0 a1).bind fun t160 => ((spec_l4Back.f k t160 a2).bind fun t163 => (some t163))
theorem impl_PosThere.mono : ∀ a0 a1 a2 k, LeO (impl_PosThere.f k a0 a1 a2) (impl_PosThere.f (k + 1) a0 a1 a2) := by
 intro a0 a1 a2 k
 unfold impl_PosThere.f
 repeat' first
   | (with_reducible exact impl_spansOf.mono _ _ _)
   | (with_reducible exact spec_l4Back.mono _ _ _)
   | (with_reducible exact LeO.refl _)
   | (with_reducible exact LeO.none _)
   | (with_reducible refine LeO.ite ?_ ?_)
   | (with_reducible refine LeO.bind ?_ (fun _ => ?_))
   | exact impl_spansOf.mono _ _ _
   | exact spec_l4Back.mono _ _ _
   | exact LeO.none _
   | refine LeO.ite ?_ ?_
   | refine LeO.bind ?_ (fun _ => ?_)
-- BY HAND
def nxQ (a : Int) (x : ByteArray) : Int := wrap64 ((wrap64 (a + (x.size : Int))) + 1)
def prsQ : List ByteArray → List ByteArray → Int → Int → List S43
 | x :: L, y :: M, a, b => ⟨a, nxQ a x, b, nxQ b y, (x.toList == y.toList)⟩ :: prsQ L M (nxQ a x) (nxQ b y)
 | _, _, _, _ => []
theorem prsQ_end (L M : List ByteArray) (a b : Int) (h : L = [] ∨ M = []) : prsQ L M a b = [] := by
 rcases h with rfl | rfl
 ·rfl
 ·cases L <;> rfl
theorem rdOf_dropH (L : List ByteArray) (i : Nat) (h : i < L.length) : L.drop i = rdOf ByteArray.empty L (i : Int) :: L.drop (i + 1) := by
 rw [List.drop_eq_getElem_cons h]
 congr 1
 unfold rdOf
 rw [Int.toNat_natCast, List.getD_eq_getElem?_getD, List.getElem?_eq_getElem h]; rfl
theorem spans_part (L M : List ByteArray) (m : Nat) (hm : m = min L.length M.length) (hL : L.length ≤ 4611686018427387904) : ∀ (k i : Nat) (acc : List S43) (a b : Int) (r : List S43), i ≤ m →
  impl_spansOf.l0 k L M acc a b (m : Int) (i : Int) = some r → r = acc ++ prsQ (L.drop i) (M.drop i) a b := by
 intro k
 induction k with
 | zero => intro i acc a b r _ h; rw [impl_spansOf.l0] at h; cases h
 | succ k ih =>
  intro i acc a b r hi h
  rw [impl_spansOf.l0] at h
  by_cases c : i < m
  ·rw [if_pos (by omega), if_pos (by omega), if_pos (by omega), if_pos (by omega)] at h
   by_cases hx : acc.length < 3518437208883
   ·rw [if_pos hx, w_upL i (by omega)] at h
    rw [ih (i + 1) _ _ _ r (by omega) h, rdOf_dropH L i (by omega), rdOf_dropH M i (by omega), prsQ, List.append_assoc]; rfl
   ·rw [if_neg hx] at h; cases h
  ·rw [if_neg (by omega)] at h
   obtain rfl := Option.some.inj h
   rw [prsQ_end _ _ _ _ (by
    by_cases h2 : L.length ≤ M.length
    ·exact .inl (List.drop_of_length_le (by omega))
    ·exact .inr (List.drop_of_length_le (by omega))), List.append_nil]
/-- The lines' bytes, with their signs. -/
def tot : List ByteArray → Nat
 | [] => 0
 | x :: L => x.size + 1 + tot L
theorem lns_tot (s : ByteArray) : ∀ (n fr i : Nat), fr ≤ i → i + n = s.size → tot (Str.lns s n fr i).1 + fr ≤ s.size := by
 intro n
 induction n with
 | zero => intro fr i h1 h2; show 0 + fr ≤ s.size; omega
 | succ n ih =>
  intro fr i h1 h2
  rw [Str.lns]
  split
  ·have := ih (i + 1) (i + 1) (Nat.le_refl _) (by omega)
   show (s.extract fr i).size + 1 + tot _ + fr ≤ s.size
   rw [ByteArray.size_extract]
   omega
  ·exact ih fr (i + 1) (by omega) (by omega)
theorem nxQ_nat (b : Nat) (y : ByteArray) (h : b + y.size + 1 ≤ 4611686018427387904) : nxQ (b : Int) y = ((b + y.size + 1 : Nat) : Int) := by
 unfold nxQ
 rw [show wrap64 ((b : Int) + (y.size : Int)) = ((b + y.size : Nat) : Int) by rw [Lib.wrap_id (by omega) (by omega)]; omega, w_upL _ (by omega)]
theorem prsQ_above : ∀ (L M : List ByteArray) (a : Int) (b : Nat), b + tot M ≤ 4611686018427387904 → ∀ x ∈ prsQ L M a (b : Int), (b : Int) < x.f3
 | [], M, a, b, _, x, hx => by rw [prsQ_end _ _ _ _ (.inl rfl)] at hx; cases hx
 | u :: L, [], a, b, _, x, hx => by rw [prsQ_end _ _ _ _ (.inr rfl)] at hx; cases hx
 | u :: L, y :: M, a, b, h, x, hx => by
  have ht : tot (y :: M) = y.size + 1 + tot M := rfl
  rw [prsQ] at hx
  rcases List.mem_cons.1 hx with rfl | hx
  ·show (b : Int) < nxQ (b : Int) y
   rw [nxQ_nat b y (by omega)]; omega
  ·rw [nxQ_nat b y (by omega)] at hx
   have := prsQ_above L M _ _ (by omega) x hx
   omega
theorem prsQ_rise : ∀ (L M : List ByteArray) (a : Int) (b : Nat), b + tot M ≤ 4611686018427387904 → (prsQ L M a (b : Int)).Pairwise (fun x y => x.f3 ≤ y.f3)
 | [], M, a, b, _ => by rw [prsQ_end _ _ _ _ (.inl rfl)]; exact List.Pairwise.nil
 | u :: L, [], a, b, _ => by rw [prsQ_end _ _ _ _ (.inr rfl)]; exact List.Pairwise.nil
 | u :: L, y :: M, a, b, h => by
  have ht : tot (y :: M) = y.size + 1 + tot M := rfl
  rw [prsQ, nxQ_nat b y (by omega)]
  refine List.Pairwise.cons (fun x hx => ?_) (prsQ_rise L M _ _ (by omega))
  have := prsQ_above L M _ _ (by omega) x hx
  show ((b + y.size + 1 : Nat) : Int) ≤ x.f3
  omega
theorem rise_at (p : List S43) (h : p.Pairwise (fun x y => x.f3 ≤ y.f3)) (i j : Nat) (hij : i ≤ j) (hj : j < p.length) : (rd_T43 p (i : Int)).f3 ≤ (rd_T43 p (j : Int)).f3 := by
 have hr : ∀ (q : Nat) (hq : q < p.length), rd_T43 p (q : Int) = p[q]'hq := fun q hq => by
  unfold rd_T43
  rw [Int.toNat_natCast, List.getD_eq_getElem?_getD, List.getElem?_eq_getElem hq]; rfl
 rw [hr i (by omega), hr j hj]
 by_cases e : i = j
 ·subst e; exact Int.le_refl _
 ·exact List.pairwise_iff_getElem.1 h i j (by omega) hj (by omega)
/-- What l4Back says, by the first span that reaches behind the place. -/
theorem back_part (p : List S43) (at_ : Int) (hp : p.length ≤ 4611686018427387904) (q : Nat) (hq : q ≤ p.length) (h1 : ∀ t, t < q → (rd_T43 p (t : Int)).f3 ≤ at_) (h2 : q < p.length → at_ < (rd_T43 p (q : Int)).f3) :
  ∀ (k i : Nat) (x r : Int), i ≤ q → x = (if i = 0 then 0 else (rd_T43 p ((i : Int) - 1)).f1) → spec_l4Back.l0 k p at_ x (i : Int) = some r →
  r = (if q < p.length then (if (rd_T43 p (q : Int)).f4 = true ∧ (rd_T43 p (q : Int)).f2 < at_ then wrap64 ((wrap64 ((rd_T43 p (q : Int)).f0 + at_)) - (rd_T43 p (q : Int)).f2) else (rd_T43 p (q : Int)).f0) else (if q = 0 then 0 else (rd_T43 p ((q : Int) - 1)).f1)) := by
 intro k
 induction k with
 | zero => intro i x r _ _ h; rw [spec_l4Back.l0] at h; cases h
 | succ k ih =>
  intro i x r hi hx h
  rw [spec_l4Back.l0] at h
  by_cases c : (i : Int) < (p.length : Int)
  ·rw [if_pos c, if_pos (by omega)] at h
   by_cases c2 : i < q
   ·have := h1 i c2
    rw [if_pos (by omega), w_upL i (by omega)] at h
    exact ih (i + 1) _ r (by omega) (by rw [if_neg (by omega), show ((i + 1 : Nat) : Int) - 1 = (i : Int) by omega]) h
   ·obtain rfl : i = q := by omega
    have := h2 (by omega)
    rw [if_neg (by omega)] at h
    rw [if_pos (by omega)]
    by_cases c3 : (rd_T43 p (i : Int)).f4 = true
    ·rw [if_pos c3] at h
     by_cases c4 : at_ > (rd_T43 p (i : Int)).f2
     ·rw [if_pos c4] at h; rw [if_pos ⟨c3, c4⟩]; exact (Option.some.inj h).symm
     ·rw [if_neg c4] at h; rw [if_neg (fun h_ => c4 h_.2)]; exact (Option.some.inj h).symm
    ·rw [if_neg c3] at h; rw [if_neg (fun h_ => c3 h_.1)]; exact (Option.some.inj h).symm
  ·rw [if_neg c] at h
   obtain rfl := Option.some.inj h
   obtain rfl : i = q := by omega
   rw [if_neg (by omega)]
   exact hx
set_option maxHeartbeats 4000000 in
set_option maxRecDepth 100000 in
theorem there_fn (p : List S43) (A : Option Addr) (c : Nat) (at_ : Int) (W : World) (b0 b1 : Nat) (h0 : W.cell? ⟨b0, 0, none⟩ = some (.slice A p.length c)) (h1 : W.cell? ⟨b1, 0, none⟩ = some (.int .i64 at_)) (hC : Kd.C k43 W A p.length p) (i : Nat) (hi : i < p.length) :
  Calls Try.prog 62 #[.int .i64 i, .pointer (some ⟨b0, 0, none⟩), .pointer (some ⟨b1, 0, none⟩)] W fun e w' => e = .returned (.bool (decide (at_ < (rd_T43 p (i : Int)).f3))) ∧ ∃ q, w' = W.drewN q := by
 have p1 : 0 ≤ ((i : Nat) : Int) := by omega
 have q1 : ((i : Nat) : Int) < (p.length : Int) := by omega
 obtain ⟨ad, e1, x0, x1, x2, x3, x4⟩ := at_T43 hC (i : Int) p1 q1
 cases e1
 simp only [Int.toNat_natCast] at x0 x1 x2 x3 x4
 replace p1 := eq_true p1
 replace q1 := eq_true q1
 go_enter Try.func62, Try.ntmps62
 go_wp2
 go_quiet (fail)
 go_wp2
 go_ret
 exact ⟨rfl, _, rfl⟩
set_option maxHeartbeats 4000000 in
set_option maxRecDepth 100000 in
theorem there_calls (p : List S43) (A : Option Addr) (c : Nat) (at_ : Int) (w : World) (hc : p.length ≤ c) (hC : Kd.C k43 w A p.length p) (hp : p.length < 4611686018427387904)
  (hmono : ∀ i j, i ≤ j → j < p.length → (rd_T43 p (i : Int)).f3 ≤ (rd_T43 p (j : Int)).f3) (k : Nat) (r : Int) (hb : spec_l4Back.f k p at_ = some r) :
  Calls Try.prog 43 #[.slice A p.length c, .int .i64 at_] w fun e w' => e = .returned (.int .i64 r) ∧ Below w.heap.size w w' := by
 obtain ⟨W, hW⟩ : ∃ W, (w.alloc (.cells #[.slice A p.length c] 51)).alloc (.cells #[.int .i64 at_] 3) = W := ⟨_, rfl⟩
 have hB : Below w.heap.size w W := by
  rw [← hW]; exact ((Below.refl _ w).alloc (Nat.le_refl _) _).alloc (by simp) _
 have h0 : W.cell? ⟨w.heap.size, 0, none⟩ = some (.slice A p.length c) := by
  rw [← hW]; exact ((Boxed.new w 51 (.slice A p.length c)).alloc (.cells #[.int .i64 at_] 3)).cell
 have h1 : W.cell? ⟨w.heap.size + 1, 0, none⟩ = some (.int .i64 at_) := by
  rw [← hW]
  have h := (Boxed.new (w.alloc (.cells #[.slice A p.length c] 51)) 3 (.int .i64 at_)).cell
  rw [World.size_alloc] at h
  exact h
 have hC2 : Kd.C k43 W A p.length p := by rw [← hW]; exact Kd.C_alloc (Kd.C_alloc hC _) _
 have hs := Srch.search_calls 62 #[.pointer (some ⟨w.heap.size, 0, none⟩), .pointer (some ⟨w.heap.size + 1, 0, none⟩)] p.length (fun i => decide (at_ < (rd_T43 p (i : Int)).f3)) W (enters_of Try.func62 (by kernel_rfl) rfl) hp
  (fun m i hi => there_fn p A c at_ (W.drewN m) _ _ h0 h1 (Kd.C_drewN hC2 m) i hi)
  (fun a b hab hbn ha => decide_eq_true (by have := hmono a b hab hbn; have := of_decide_eq_true ha; omega))
 go_enter Try.func43, Try.ntmps43
 go_wp2_with (go_at_call 61; refine hs.mono ?_; rintro e w' ⟨q, m, rfl, rfl, hq, hq1, hq2⟩)
 have hval := back_part p at_ (by omega) q hq (fun t ht => by have := of_decide_eq_false (hq1 t ht); omega) (fun h => of_decide_eq_true (hq2 h)) k 0 0 r (Nat.zero_le _) (by simp) hb
 clear hs hq1 hq2 hW hb
 by_cases hlt : q < p.length
 ·rw [if_pos hlt] at hval
  have p1 : 0 ≤ ((q : Nat) : Int) := by omega
  have q1 : ((q : Nat) : Int) < (p.length : Int) := by omega
  have d1 : decide ((q : Int) < (p.length : Int)) = true := decide_eq_true q1
  obtain ⟨ad, e1, x0, x1, x2, x3, x4⟩ := at_T43 hC2 (q : Int) p1 q1
  cases e1
  simp only [Int.toNat_natCast] at x0 x1 x2 x3 x4
  replace p1 := eq_true p1
  replace q1 := eq_true q1
  by_cases hf : (rd_T43 p (q : Int)).f4 = true
  ·rw [hf] at x4
   by_cases ha : (rd_T43 p (q : Int)).f2 < at_
   ·rw [if_pos ⟨hf, ha⟩] at hval
    have d2 : decide ((rd_T43 p (q : Int)).f2 < at_) = true := decide_eq_true ha
    go_wp2
    go_quiet (fail)
    go_wp2
    go_quiet (fail)
    go_wp2
    go_ret
    exact ⟨by rw [hval]; rfl, by repeat (first | exact hB | apply pw_below_drewN)⟩
   ·rw [if_neg (fun h_ => ha h_.2)] at hval
    have d2 : decide ((rd_T43 p (q : Int)).f2 < at_) = false := decide_eq_false ha
    go_wp2
    go_quiet (fail)
    go_wp2
    go_ret
    exact ⟨by rw [hval]; rfl, by repeat (first | exact hB | apply pw_below_drewN)⟩
  ·rw [if_neg (fun h_ => hf h_.1)] at hval
   rw [Bool.eq_false_iff.mpr hf] at x4
   go_wp2
   go_quiet (fail)
   go_wp2
   go_ret
   exact ⟨by rw [hval]; rfl, by repeat (first | exact hB | apply pw_below_drewN)⟩
 ·rw [if_neg hlt] at hval
  have d1 : decide ((q : Int) < (p.length : Int)) = false := decide_eq_false (by omega)
  by_cases hz : q = 0
  ·subst hz
   rw [if_pos rfl] at hval
   go_wp2
   go_quiet (fail)
   go_wp2
   go_ret
   exact ⟨by rw [hval]; rfl, by repeat (first | exact hB | apply pw_below_drewN)⟩
  ·rw [if_neg hz] at hval
   obtain ⟨j, rfl⟩ : ∃ j, q = j + 1 := ⟨q - 1, by omega⟩
   rw [show ((j + 1 : Nat) : Int) - 1 = (j : Int) by omega] at hval
   have d1' : decide ((j : Int) + 1 < (p.length : Int)) = false := decide_eq_false (by omega)
   have d2 : decide (0 < ((j + 1 : Nat) : Int)) = true := decide_eq_true (by omega)
   have d2' : decide (0 < (j : Int) + 1) = true := decide_eq_true (by omega)
   have p1 : 0 ≤ ((j : Nat) : Int) := by omega
   have q1 : ((j : Nat) : Int) < (p.length : Int) := by omega
   obtain ⟨ad, e1, x0, x1, x2, x3, x4⟩ := at_T43 hC2 (j : Int) p1 q1
   cases e1
   simp only [Int.toNat_natCast] at x0 x1 x2 x3 x4
   replace p1 := eq_true p1
   replace q1 := eq_true q1
   have w1 : wrap64 (((j + 1 : Nat) : Int) - 1) = (j : Int) := by rw [Lib.wrap_id (by omega) (by omega)]; omega
   go_wp2
   go_quiet (fail)
   go_wp2
   go_ret
   exact ⟨by rw [hval]; rfl, by repeat (first | exact hB | apply pw_below_drewN)⟩
theorem impl_PosThere.calls (k : Nat) (a0 : ByteArray) (a1 : ByteArray) (a2 : Int) (r : Int) (w : World) (h : impl_PosThere.f k a0 a1 a2 = some r) :
  Calls Try.prog 21 #[.string a0, .string a1, .int .i64 a2] w fun e w' => e = .returned (.int .i64 r) ∧ Below w.heap.size w w' := by
 unfold impl_PosThere.f at h
 obtain ⟨p, h1, h2⟩ := Option.bind_eq_some_iff.mp h
 obtain ⟨r2, h3, h4⟩ := Option.bind_eq_some_iff.mp h2
 obtain rfl := Option.some.inj h4
 have hsp := impl_spansOf.calls k a0 a1 p w h1
 have hp : p.length ≤ 7036874417766 ∧ p.Pairwise (fun x y => x.f3 ≤ y.f3) := by
  unfold impl_spansOf.f at h1
  obtain ⟨⟨L, l2⟩, g1, g2⟩ := Option.bind_eq_some_iff.mp h1
  obtain ⟨⟨M, m2⟩, g3, g4⟩ := Option.bind_eq_some_iff.mp g2
  rw [if_pos (by omega)] at g4
  have hL := lines_size _ _ _ _ g1
  have hM := lines_size _ _ _ _ g3
  dsimp only at g4
  have hm : mn (L.length : Int) (M.length : Int) = ((min L.length M.length : Nat) : Int) := by unfold mn; split <;> omega
  rw [hm] at g4
  have e := spans_part L M _ rfl (by omega) k 0 _ 0 0 p (Nat.zero_le _) g4
  rw [List.drop_zero, List.drop_zero] at e
  have e' : p = prsQ L M 0 ((0 : Nat) : Int) := e
  have hlen : ∀ (L M : List ByteArray) (a b : Int), (prsQ L M a b).length ≤ L.length := fun L => by
   induction L with
   | nil => intro M a b; rw [prsQ_end _ _ _ _ (.inl rfl)]; exact Nat.le_refl _
   | cons x L ih =>
    intro M a b
    cases M with
    | nil => rw [prsQ_end _ _ _ _ (.inr rfl)]; exact Nat.zero_le _
    | cons y M => rw [prsQ, List.length_cons, List.length_cons]; have := ih M (nxQ a x) (nxQ b y); omega
  refine ⟨by rw [e']; have := hlen L M 0 ((0 : Nat) : Int); omega, ?_⟩
  rw [e']
  refine prsQ_rise L M 0 0 ?_
  unfold impl_StrLines.f at g3
  rw [if_pos (by omega)] at g3
  split at g3
  ·rename_i hs
   obtain ⟨⟨x1, x2⟩, k1, k2⟩ := Option.bind_eq_some_iff.mp g3
   have k3 := spec_lines_part a1 (by omega) k a1.size 0 0 [] (x1, x2) (Nat.zero_add _) (Nat.le_refl _) k1
   obtain ⟨rfl, rfl⟩ := Prod.mk.inj (Option.some.inj k2)
   obtain ⟨e1, _⟩ := Prod.mk.inj k3
   have e2 : x1 = (Str.lns a1 a1.size 0 0).1 := e1
   have := lns_tot a1 a1.size 0 0 (Nat.le_refl _) (Nat.zero_add _)
   show 0 + tot x1 ≤ _
   rw [e2]
   omega
  ·cases g3
 go_enter Try.func21, Try.ntmps21
 go_wp2_with (first | (go_at_call 42; refine hsp.mono ?_; rintro e w1 ⟨v, rfl, hv, hb1⟩; obtain ⟨A, c, rfl⟩ := Kd.R_slice hv) | (go_at_call 43; refine (there_calls p A c a2 w1 (Kd.R_reads' hv).2.1 (Kd.R_reads' hv).2.2 (by omega) (fun i j hij hj => rise_at p hp.2 i j hij hj) k r2 h3).mono ?_; rintro e w2 ⟨rfl, hb2⟩))
 go_ret
 exact ⟨rfl, below_step hb1 hb2⟩

/-! ### impl_PosPairs: function 23 -/
def impl_PosPairs.f (k : Nat) (a0 : ByteArray) (a1 : ByteArray) : Option ((List (S43))) := (impl_spansOf.f k a0 a1).bind fun t164 => (some t164)
theorem impl_PosPairs.mono : ∀ a0 a1 k, LeO (impl_PosPairs.f k a0 a1) (impl_PosPairs.f (k + 1) a0 a1) := by
 intro a0 a1 k
 unfold impl_PosPairs.f
 repeat' first
   | (with_reducible exact impl_spansOf.mono _ _ _)
   | (with_reducible exact LeO.refl _)
   | (with_reducible exact LeO.none _)
   | (with_reducible refine LeO.ite ?_ ?_)
   | (with_reducible refine LeO.bind ?_ (fun _ => ?_))
   | exact impl_spansOf.mono _ _ _
   | exact LeO.none _
   | refine LeO.ite ?_ ?_
   | refine LeO.bind ?_ (fun _ => ?_)
set_option maxHeartbeats 8000000 in
set_option maxRecDepth 100000 in
theorem impl_PosPairs.calls (k : Nat) (a0 : ByteArray) (a1 : ByteArray) (r : List (S43)) (w : World) (h : impl_PosPairs.f k a0 a1 = some r) :
  Calls Try.prog 23 #[.string a0, .string a1] w fun e w' => ∃ v0_ : Value, e = .returned (v0_) ∧ Kd.R k43 43 w' w.heap.size (fun _ => True) v0_ r ∧ Below w.heap.size w w' := by
 have HB := Aside0.mk (Below.refl w.heap.size w)
 have H : ((impl_spansOf.f k a0 a1).bind fun t164 => (some t164)) = some r := h
 clear h
 replace H := Option.bind_eq_some_iff.mp H
 obtain ⟨t164, A30, H⟩ := H
 replace H : (some t164) = some r := H
 have A3 := Aside0.mk A30
 clear A30
 obtain rfl := Option.some.inj H
 go_enter Try.func23, Try.ntmps23
 go_wp2_with (first | ((with_reducible refine gate_callee (f := 42) rfl ?_); refine goesL_ (some 7) rfl rfl Try.func42 (by kernel_rfl) rfl #[.string a0, .string a1] rfl Z75 ?_; (with_reducible refine (impl_spansOf.calls k a0 a1 t164 _ A3.out).mono ?_); rintro e w4 ⟨v165, rfl, ho0, hb⟩; refine ⟨_, rfl, ?_⟩; have n0_ := Aside0.mk (Kd.R_lower ho0 (below_size Z71)); have n1_ := Aside0.mk (below_step Z71 hb); clear HB; have HO166 := n0_; have HB := n1_; clear n0_ n1_; (try clear hb); (try clear ho0)))
 go_ret
 exact ⟨_, by first | rfl | (simp [errW_none, errW_some] <;> rfl) | (simp [*, errW_none, errW_some] <;> rfl), by (with_reducible repeat (first | apply Kd.R_alloc | apply Kd.R_drewN | apply Kd.R_drew)); exact HO166.out, by repeat (first | (with_reducible first | exact HB.out | apply below_alloc | apply pw_below_drewN | apply below_drew1) | exact HB.out)⟩

/-! ### spec_l2Byte: function 59 -/
def spec_l2Byte.f (a0 : Int) : Option (Bool) := if a0 ≥ 97 then (if a0 ≤ 122 then (some true) else (if a0 ≥ 48 then (if a0 ≤ 57 then (some true) else (some (a0 == 32))) else (some (a0 == 32)))) else (if a0 ≥ 48 then (if a0 ≤ 57 then (some true) else (some (a0 == 32))) else (some (a0 == 32)))
set_option maxHeartbeats 8000000 in
set_option maxRecDepth 100000 in
theorem spec_l2Byte.calls (a0 : Int) (r : Bool) (w : World) (h : spec_l2Byte.f a0 = some r) :
  Calls Try.prog 59 #[.int .u8 a0] w fun e w' => e = .returned (.bool r) ∧ Drawn0 w w' := by
 have H : (if a0 ≥ 97 then (if a0 ≤ 122 then (some true) else (if a0 ≥ 48 then (if a0 ≤ 57 then (some true) else (some (a0 == 32))) else (some (a0 == 32)))) else (if a0 ≥ 48 then (if a0 ≤ 57 then (some true) else (some (a0 == 32))) else (some (a0 == 32)))) = some r := h
 clear h
 by_cases c2 : a0 ≥ 97
 ·rw [if_pos c2] at H
  have c2b0 : decide (97 ≤ a0) = true := decide_eq_true c2
  clear c2
  by_cases c3 : a0 ≤ 122
  ·rw [if_pos c3] at H
   have c3b0 : decide (a0 ≤ 122) = true := decide_eq_true c3
   clear c3
   obtain rfl := Option.some.inj H
   go_enter Try.func59, Try.ntmps59
   go_wp2
   go_ret
   exact ⟨by first | rfl | (simp; done) | (simp [*]; done), by repeat (first | exact Drawn0.refl _ | apply Drawn0.step)⟩
  ·rw [if_neg c3] at H
   have c3b0 : decide (a0 ≤ 122) = false := decide_eq_false c3
   clear c3
   by_cases c4 : a0 ≥ 48
   ·rw [if_pos c4] at H
    have c4b0 : decide (48 ≤ a0) = true := decide_eq_true c4
    clear c4
    by_cases c5 : a0 ≤ 57
    ·rw [if_pos c5] at H
     have c5b0 : decide (a0 ≤ 57) = true := decide_eq_true c5
     clear c5
     obtain rfl := Option.some.inj H
     go_enter Try.func59, Try.ntmps59
     go_wp2
     go_ret
     exact ⟨by first | rfl | (simp; done) | (simp [*]; done), by repeat (first | exact Drawn0.refl _ | apply Drawn0.step)⟩
    ·rw [if_neg c5] at H
     have c5b0 : decide (a0 ≤ 57) = false := decide_eq_false c5
     clear c5
     obtain rfl := Option.some.inj H
     go_enter Try.func59, Try.ntmps59
     go_wp2
     go_ret
     exact ⟨by first | rfl | (simp; done) | (simp [*]; done), by repeat (first | exact Drawn0.refl _ | apply Drawn0.step)⟩
   ·rw [if_neg c4] at H
    have c4b0 : decide (48 ≤ a0) = false := decide_eq_false c4
    clear c4
    obtain rfl := Option.some.inj H
    go_enter Try.func59, Try.ntmps59
    go_wp2
    go_ret
    exact ⟨by first | rfl | (simp; done) | (simp [*]; done), by repeat (first | exact Drawn0.refl _ | apply Drawn0.step)⟩
 ·rw [if_neg c2] at H
  have c2b0 : decide (97 ≤ a0) = false := decide_eq_false c2
  clear c2
  by_cases c6 : a0 ≥ 48
  ·rw [if_pos c6] at H
   have c6b0 : decide (48 ≤ a0) = true := decide_eq_true c6
   clear c6
   by_cases c7 : a0 ≤ 57
   ·rw [if_pos c7] at H
    have c7b0 : decide (a0 ≤ 57) = true := decide_eq_true c7
    clear c7
    obtain rfl := Option.some.inj H
    go_enter Try.func59, Try.ntmps59
    go_wp2
    go_ret
    exact ⟨by first | rfl | (simp; done) | (simp [*]; done), by repeat (first | exact Drawn0.refl _ | apply Drawn0.step)⟩
   ·rw [if_neg c7] at H
    have c7b0 : decide (a0 ≤ 57) = false := decide_eq_false c7
    clear c7
    obtain rfl := Option.some.inj H
    go_enter Try.func59, Try.ntmps59
    go_wp2
    go_ret
    exact ⟨by first | rfl | (simp; done) | (simp [*]; done), by repeat (first | exact Drawn0.refl _ | apply Drawn0.step)⟩
  ·rw [if_neg c6] at H
   have c6b0 : decide (48 ≤ a0) = false := decide_eq_false c6
   clear c6
   obtain rfl := Option.some.inj H
   go_enter Try.func59, Try.ntmps59
   go_wp2
   go_ret
   exact ⟨by first | rfl | (simp; done) | (simp [*]; done), by repeat (first | exact Drawn0.refl _ | apply Drawn0.step)⟩

/-! ### spec_LinOk: function 39 -/
def spec_LinOk.l0 : Nat → ByteArray → Int → Option (Bool)
 | 0, _, _ => none
 | k + 1, x0, x3 => if x3 < (x0.size : Int) then (if 0 ≤ x3 then ((spec_l2Byte.f (bt x0 x3)).bind fun t167 => (if t167 = true then (spec_LinOk.l0 k x0 (wrap64 (x3 + 1))) else (some false))) else (none)) else (some true)
def spec_LinOk.f (k : Nat) (a0 : ByteArray) : Option (Bool) := if (a0.size : Int) > 16 then (some false) else (spec_LinOk.l0 k a0 0)
theorem spec_LinOk.mono_l : ∀ k, (∀ y0 y1, LeO (spec_LinOk.l0 k y0 y1) (spec_LinOk.l0 (k + 1) y0 y1))
 | 0 => fun _ _ r h => by simp [spec_LinOk.l0] at h
 | k + 1 => by
  have ih0 := spec_LinOk.mono_l k
  ·intro y0 y1
   unfold spec_LinOk.l0
   repeat' first
   | (with_reducible exact ih0 _ _)
   | (with_reducible exact LeO.refl _)
   | (with_reducible exact LeO.none _)
   | (with_reducible refine LeO.ite ?_ ?_)
   | (with_reducible refine LeO.bind ?_ (fun _ => ?_))
   | exact ih0 _ _
   | exact LeO.none _
   | refine LeO.ite ?_ ?_
   | refine LeO.bind ?_ (fun _ => ?_)
theorem spec_LinOk.mono : ∀ a0 k, LeO (spec_LinOk.f k a0) (spec_LinOk.f (k + 1) a0) := by
 intro a0 k
 have ih0 := spec_LinOk.mono_l k
 unfold spec_LinOk.f
 repeat' first
   | (with_reducible exact ih0 _ _)
   | (with_reducible exact LeO.refl _)
   | (with_reducible exact LeO.none _)
   | (with_reducible refine LeO.ite ?_ ?_)
   | (with_reducible refine LeO.bind ?_ (fun _ => ?_))
   | exact ih0 _ _
   | exact LeO.none _
   | refine LeO.ite ?_ ?_
   | refine LeO.bind ?_ (fun _ => ?_)
set_option maxHeartbeats 8000000 in
set_option maxRecDepth 100000 in
theorem spec_LinOk.calls (k : Nat) (a0 : ByteArray) (r : Bool) (w : World) (h : spec_LinOk.f k a0 = some r) :
  Calls Try.prog 39 #[.string a0] w fun e w' => e = .returned (.bool r) ∧ Drawn0 w w' := by
 have H : (if (a0.size : Int) > 16 then (some false) else (spec_LinOk.l0 k a0 0)) = some r := h
 clear h
 by_cases c2 : (a0.size : Int) > 16
 ·rw [if_pos c2] at H
  have c2b0 : decide (16 < (a0.size : Int)) = true := decide_eq_true c2
  have c2b1 : decide (16 < a0.size) = true := decide_eq_true (by omega)
  clear c2
  obtain rfl := Option.some.inj H
  go_enter Try.func39, Try.ntmps39
  go_wp2
  go_ret
  exact ⟨by first | rfl | (simp; done) | (simp [*]; done), by repeat (first | exact Drawn0.refl _ | apply Drawn0.step)⟩
 ·rw [if_neg c2] at H
  have c2b0 : decide (16 < (a0.size : Int)) = false := decide_eq_false c2
  have c2b1 : decide (16 < a0.size) = false := decide_eq_false (by omega)
  clear c2
  have H' := Aside0.mk H
  clear H
  go_enter Try.func39, Try.ntmps39
  go_wp2
  go_loopg [3] k (fun kq v3 w' => ∃ (x3_1 : Int), v3 = .int .i64 x3_1 ∧ Aside0 (spec_LinOk.l0 kq a0 x3_1 = some r) ∧ Aside0 (kq ≤ k) ∧ Drawn0 w w')
  case atStart => exact ⟨(0), Z0, H', ⟨Nat.le_refl _⟩, by repeat (first | exact Drawn0.refl _ | apply Drawn0.step)⟩
  case round =>
   clear H'
   try clear c2
   try clear c2b0
   try clear c2b1
   try clear p2
   obtain ⟨x3_1, rfl, HA, HK1, ⟨m1, rfl⟩⟩ := hrel
   cases gk with
   | zero => exact absurd HA.out (by simp [spec_LinOk.l0])
   | succ k1 =>
    have H := HA.out
    clear HA
    simp only [spec_LinOk.l0] at H
    by_cases c3 : x3_1 < (a0.size : Int)
    ·rw [if_pos c3] at H
     have c3b0 : decide (x3_1 < (a0.size : Int)) = true := decide_eq_true c3
     clear c3
     by_cases c4 : 0 ≤ x3_1
     ·rw [if_pos c4] at H
      have c4b0 : decide (0 ≤ x3_1) = true := decide_eq_true c4
      clear c4
      replace H := Option.bind_eq_some_iff.mp H
      obtain ⟨t167, A60, H⟩ := H
      replace H : (if t167 = true then (spec_LinOk.l0 k1 a0 (wrap64 (x3_1 + 1))) else (some false)) = some r := H
      have A6 := Aside0.mk A60
      clear A60
      by_cases c7 : t167 = true
      ·subst c7
       have H1 : (spec_LinOk.l0 k1 a0 (wrap64 (x3_1 + 1))) = some r := by rw [if_pos rfl] at H; exact H
       clear H
       have H := H1
       clear H1
       have H' := Aside0.mk H
       clear H
       have p5 : 0 ≤ (x3_1 : Int) := of_decide_eq_true Z11
       have q5 : x3_1 < (a0.size : Int) := of_decide_eq_true Z11
       have hx5 := bt_at a0 x3_1
       replace p5 := eq_true p5
       replace q5 := eq_true q5
       go_wp2_with (first | ((with_reducible refine gate_callee (f := 59) rfl ?_); refine goesL_ (some 16) rfl rfl Try.func59 (by kernel_rfl) rfl #[.int .u8 (bt a0 x3_1)] rfl Z75 ?_; (with_reducible refine (spec_l2Byte.calls (bt a0 x3_1) true _ A6.out).mono ?_); rintro e w' ⟨rfl, ⟨nd, rfl⟩⟩; refine ⟨_, rfl, ?_⟩))
       go_roundg k1
       case measure => have := HK1.out; omega
       case rel => exact ⟨(wrap64 (x3_1 + 1)), Z0, H', ⟨by have := HK1.out; omega⟩, by repeat (first | exact Drawn0.refl _ | apply Drawn0.step)⟩
      ·replace c7 := Bool.eq_false_iff.mpr c7
       subst c7
       have H1 : (some false) = some r := by rw [if_neg (show ¬ (false = true) by decide)] at H; exact H
       clear H
       have H := H1
       clear H1
       obtain rfl := Option.some.inj H
       have p5 : 0 ≤ (x3_1 : Int) := of_decide_eq_true Z11
       have q5 : x3_1 < (a0.size : Int) := of_decide_eq_true Z11
       have hx5 := bt_at a0 x3_1
       replace p5 := eq_true p5
       replace q5 := eq_true q5
       go_wp2_with (first | ((with_reducible refine gate_callee (f := 59) rfl ?_); refine goesL_ (some 16) rfl rfl Try.func59 (by kernel_rfl) rfl #[.int .u8 (bt a0 x3_1)] rfl Z75 ?_; (with_reducible refine (spec_l2Byte.calls (bt a0 x3_1) false _ A6.out).mono ?_); rintro e w' ⟨rfl, ⟨nd, rfl⟩⟩; refine ⟨_, rfl, ?_⟩))
       go_ret
       exact ⟨by first | rfl | (simp; done) | (simp [*]; done), by repeat (first | exact Drawn0.refl _ | apply Drawn0.step)⟩
     ·rw [if_neg c4] at H
      exact absurd H (by simp)
    ·rw [if_neg c3] at H
     have c3b0 : decide (x3_1 < (a0.size : Int)) = false := decide_eq_false c3
     clear c3
     obtain rfl := Option.some.inj H
     go_wp2
     go_ret
     exact ⟨by first | rfl | (simp; done) | (simp [*]; done), by repeat (first | exact Drawn0.refl _ | apply Drawn0.step)⟩

end Go.Proofs.Ytmahgffkkdggcaa.QFnPosThere
