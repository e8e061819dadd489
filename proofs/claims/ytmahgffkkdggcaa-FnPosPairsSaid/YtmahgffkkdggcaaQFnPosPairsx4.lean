-- Laid by a program of this repo (wip/tools/sprint.py): print.py's functions and walks; the contracts named 'BY HAND' are proved by hand.
import Derived.Test.YtmahgffkkdggcaaQFnPosPairsx2
import Derived.Test.YtmahgffkkdggcaaQFnPosPairsx1
import Derived.Test.YtmahgffkkdggcaaQFnPosPairsx0
import Derived.Test.YtmahgffkkdggcaaQFnPosPairsx3
namespace Go.Proofs.Ytmahgffkkdggcaa.QFnPosPairs
open Go.RowKit Go.Proofs.YtmahgffkkdggcaaW.PrintWords Go.Proofs.YtmahgffkkdggcaaW.PrintLast Go.Proofs.YtmahgffkkdggcaaW.PrintMore
attribute [local go_sem] max2_int min2_int max_two min_two max_three min_three max_four min_four   -- for this text's walks alone
set_option linter.unusedVariables false
set_option linter.unusedSimpArgs false

/-! ### impl_spansOf: function 42 -/
theorem lines_size (k : Nat) (s : ByteArray) (L : List ByteArray) (r : ByteArray) (h : impl_StrLines.f k s = some (L, r)) : (L.length : Int) ≤ 7036874417766 := by
 unfold impl_StrLines.f at h
 rw [if_pos (by omega)] at h
 by_cases hs : ((s.size : Int) : Int).toNat ≤ 7036874417766
 ·rw [if_pos hs] at h
  obtain ⟨⟨x1, x2⟩, h1, h2⟩ := Option.bind_eq_some_iff.mp h
  have h3 := spec_lines_part s (by omega) k s.size 0 0 [] (x1, x2) (Nat.zero_add _) (Nat.le_refl _) h1
  obtain ⟨rfl, rfl⟩ := Prod.mk.inj (Option.some.inj h2)
  obtain ⟨e1, _⟩ := Prod.mk.inj h3
  have hc := Str.lns_count s s.size 0 0 (Nat.zero_add _)
  have hc2 := List.count_le_length (l := s.data.toList.drop 0) (a := (59 : UInt8))
  have hd : (s.data.toList.drop 0).length = s.size := by simp
  have e2 : x1 = (Str.lns s s.size 0 0).1 := e1
  show ((x1.length : Nat) : Int) ≤ 7036874417766
  rw [e2]
  omega
 ·rw [if_neg hs] at h; cases h
def impl_spansOf.l0 : Nat → List ByteArray → List ByteArray → List (S43) → Int → Int → Int → Int → Option ((List (S43)))
 | 0, _, _, _, _, _, _, _ => none
 | k + 1, x5, x7, x10, x11, x12, x32, x33 => if x33 < x32 then (if 0 ≤ x33 then (if x33 < (x5.length : Int) then (if x33 < (x7.length : Int) then (if x10.length < 3518437208883 then (impl_spansOf.l0 k x5 x7 (x10 ++ [(⟨x11, wrap64 ((wrap64 (x11 + ((rdOf ByteArray.empty x5 x33).size : Int))) + 1), x12, wrap64 ((wrap64 (x12 + ((rdOf ByteArray.empty x7 x33).size : Int))) + 1), ((rdOf ByteArray.empty x5 x33).toList == (rdOf ByteArray.empty x7 x33).toList)⟩ : S43)]) (wrap64 ((wrap64 (x11 + ((rdOf ByteArray.empty x5 x33).size : Int))) + 1)) (wrap64 ((wrap64 (x12 + ((rdOf ByteArray.empty x7 x33).size : Int))) + 1)) x32 (wrap64 (x33 + 1))) else (none)) else (none)) else (none)) else (none)) else (some x10)
def impl_spansOf.f (k : Nat) (a0 : ByteArray) (a1 : ByteArray) : Option ((List (S43))) := (impl_StrLines.f k a0).bind fun bt138 => ((impl_StrLines.f k a1).bind fun bt142 => (if 0 ≤ 7036874417766 then (impl_spansOf.l0 k bt138.1 bt142.1 (List.replicate 0 z43) 0 0 (mn (bt138.1.length : Int) (bt142.1.length : Int)) 0) else (none)))
theorem impl_spansOf.mono_l : ∀ k, (∀ y0 y1 y2 y3 y4 y5 y6, LeO (impl_spansOf.l0 k y0 y1 y2 y3 y4 y5 y6) (impl_spansOf.l0 (k + 1) y0 y1 y2 y3 y4 y5 y6))
 | 0 => fun _ _ _ _ _ _ _ r h => by simp [impl_spansOf.l0] at h
 | k + 1 => by
  have ih0 := impl_spansOf.mono_l k
  ·intro y0 y1 y2 y3 y4 y5 y6
   unfold impl_spansOf.l0
   repeat' first
   | (with_reducible exact ih0 _ _ _ _ _ _ _)
   | (with_reducible exact impl_StrLines.mono _ _)
   | (with_reducible exact LeO.refl _)
   | (with_reducible exact LeO.none _)
   | (with_reducible refine LeO.ite ?_ ?_)
   | (with_reducible refine LeO.bind ?_ (fun _ => ?_))
   | exact ih0 _ _ _ _ _ _ _
   | exact impl_StrLines.mono _ _
   | exact LeO.none _
   | refine LeO.ite ?_ ?_
   | refine LeO.bind ?_ (fun _ => ?_)
theorem impl_spansOf.mono : ∀ a0 a1 k, LeO (impl_spansOf.f k a0 a1) (impl_spansOf.f (k + 1) a0 a1) := by
 intro a0 a1 k
 have ih0 := impl_spansOf.mono_l k
 unfold impl_spansOf.f
 repeat' first
   | (with_reducible exact ih0 _ _ _ _ _ _ _)
   | (with_reducible exact impl_StrLines.mono _ _)
   | (with_reducible exact LeO.refl _)
   | (with_reducible exact LeO.none _)
   | (with_reducible refine LeO.ite ?_ ?_)
   | (with_reducible refine LeO.bind ?_ (fun _ => ?_))
   | exact ih0 _ _ _ _ _ _ _
   | exact impl_StrLines.mono _ _
   | exact LeO.none _
   | refine LeO.ite ?_ ?_
   | refine LeO.bind ?_ (fun _ => ?_)
def impl_spansOf.T9 : Bool × List (List Nat × List Nat) := (true, [([], []), ([], []), ([], []), ([], []), ([2, 3], [2, 3]), ([4], [4]), ([5], [5]), ([1, 6], [1, 6]), ([7], [7]), ([], []), ([], []), ([], []), ([], []), ([11, 12], [11, 12]), ([13], [13]), ([14], [14]), ([10, 15], [10, 15]), ([16], [16]), ([], []), ([], []), ([18, 19], [18, 19]), ([20], [20]), ([], []), ([], []), ([22, 23], [22, 23]), ([24], [24]), ([21, 25], [21, 25]), ([0, 8, 9, 17, 26], [0, 8, 9, 17, 26]), ([], []), ([28, 27, 0, 1, 2, 3, 4, 5, 6, 7, 8, 9, 10, 11, 12, 13, 14, 15, 16, 17, 18, 19, 20, 21, 22, 23, 24, 25, 26, 27, 28], [27, 28])])
def impl_spansOf.B9 : List Nat := [0, 0, 0, 0, 12, 28, 60, 126, 254, 0, 0, 0, 0, 6144, 14336, 30720, 64512, 130048, 0, 0, 786432, 1835008, 0, 0, 12582912, 29360128, 66846720, 134217727, 0, 536870911]
theorem impl_spansOf.tab9 : rtab .any (opsOf Try.f42 9) = impl_spansOf.T9 := by kernel_rfl
theorem impl_spansOf.bits9 : waitsOk impl_spansOf.T9.2 impl_spansOf.B9 = true := by kernel_rfl
set_option maxHeartbeats 8000000 in
set_option maxRecDepth 100000 in
theorem impl_spansOf.calls (k : Nat) (a0 : ByteArray) (a1 : ByteArray) (r : List (S43)) (w : World) (h : impl_spansOf.f k a0 a1 = some r) :
  Calls Try.prog 42 #[.string a0, .string a1] w fun e w' => ∃ v0_ : Value, e = .returned (v0_) ∧ Kd.R k43 43 w' w.heap.size (fun _ => True) v0_ r ∧ Below w.heap.size w w' := by
 have hu43 := Try.underlying43
 have HB := Aside0.mk (Below.refl w.heap.size w)
 have H : ((impl_StrLines.f k a0).bind fun bt138 => ((impl_StrLines.f k a1).bind fun bt142 => (if 0 ≤ 7036874417766 then (impl_spansOf.l0 k bt138.1 bt142.1 (List.replicate 0 z43) 0 0 (mn (bt138.1.length : Int) (bt142.1.length : Int)) 0) else (none)))) = some r := h
 clear h
 replace H := Option.bind_eq_some_iff.mp H
 obtain ⟨⟨t138, t139⟩, A30, H⟩ := H
 replace H : ((impl_StrLines.f k a1).bind fun bt142 => (if 0 ≤ 7036874417766 then (impl_spansOf.l0 k t138 bt142.1 (List.replicate 0 z43) 0 0 (mn (t138.length : Int) (bt142.1.length : Int)) 0) else (none))) = some r := H
 have A3 := Aside0.mk A30
 clear A30
 replace H := Option.bind_eq_some_iff.mp H
 obtain ⟨⟨t142, t143⟩, A40, H⟩ := H
 replace H : (if 0 ≤ 7036874417766 then (impl_spansOf.l0 k t138 t142 (List.replicate 0 z43) 0 0 (mn (t138.length : Int) (t142.length : Int)) 0) else (none)) = some r := H
 have A4 := Aside0.mk A40
 clear A40
 obtain ⟨ji5, hji5⟩ : ∃ j_ : Int, (mn (t138.length : Int) (t142.length : Int)) = j_ := ⟨_, rfl⟩
 replace H : (if 0 ≤ 7036874417766 then (impl_spansOf.l0 k t138 t142 (List.replicate 0 z43) 0 0 ji5 0) else (none)) = some r := by first | (rw [hji5] at H; exact H) | (simp only [hji5] at H ⊢; exact H)
 (try rw [hji5] at A3)
 (try rw [hji5] at A4)
 (try (have hji5l : 0 ≤ ji5 := by (rw [← hji5]; unfold mn; (repeat' split) <;> omega)))
 (try (have hji5m : 0 ≤ ji5 := by omega))
 have hji5_ : (if (t142.length : Int) < (t138.length : Int) then (t142.length : Int) else (t138.length : Int)) = ji5 := hji5
 have HSZ := Aside0.mk (lines_size _ _ _ _ A3.out)
 have hji5n : (if t142.length < t138.length then (t142.length : Int) else (t138.length : Int)) = ji5 := by (rw [← hji5]); (unfold mn); (split <;> split <;> omega)
 have HSJ := Aside0.mk (show ji5 ≤ 7036874417766 from by (have h1_ := HSZ.out); (rw [← hji5]); (unfold mn); (split <;> omega))
 by_cases c6 : 0 ≤ 7036874417766
 ·rw [if_pos c6] at H
  have c6b0 := eq_true c6
  have c6b1 : decide (0 ≤ 7036874417766) = true := decide_eq_true c6
  clear c6
  obtain ⟨y146, hy146⟩ : ∃ y_ : List (S43), y_ = (List.replicate 0 z43) := ⟨_, rfl⟩
  replace H : (impl_spansOf.l0 k t138 t142 y146 0 0 ji5 0) = some r := by first | (rw [hy146]; with_reducible exact H) | (have H2_ := (Option.bind_some _ _).symm.trans H; rw [hy146]; with_reducible exact H2_) | (have H2_ := (Option.bind_some _ _).symm.trans H; with_reducible exact H2_) | with_reducible exact H | (rw [hy146]; exact H) | exact H
  have Ny146 := Aside0.mk hy146
  clear hy146
  have H' := Aside0.mk H
  clear H
  go_enter Try.func42, Try.ntmps42
  go_wp2_with (first | ((with_reducible refine gate_callee (f := 14) rfl ?_); refine goesL_ (some 17) rfl rfl Try.func14 (by kernel_rfl) rfl #[.string a0] rfl Z84 ?_; (with_reducible refine (impl_StrLines.calls k a0 t138 t139 _ A3.out).mono ?_); rintro e w7 ⟨v140, rfl, ho0, hb⟩; refine ⟨_, rfl, ?_⟩; have n0_ := Aside0.mk (Kd.R_lower ho0 (below_size Z80)); have n1_ := Aside0.mk (below_step Z80 hb); clear HB; have HO141 := n0_; have HB := n1_; clear n0_ n1_; (try clear hb); (try clear ho0)) | ((with_reducible refine gate_callee (f := 14) rfl ?_); refine goesL_ (some 22) rfl rfl Try.func14 (by kernel_rfl) rfl #[.string a1] rfl Z84 ?_; (with_reducible refine (impl_StrLines.calls k a1 t142 t143 _ A4.out).mono ?_); rintro e w8 ⟨v144, rfl, ho0, hb⟩; refine ⟨_, rfl, ?_⟩; have n0_ := Aside0.mk (Kd.R_elder' Z9 (Kd.R_base ho0) hb); have n1_ := Aside0.mk (Kd.R_lower (Kd.R_new' ho0 (Kd.R_lt Z9)) (below_size Z80)); have n2_ := Aside0.mk (below_step Z80 hb); clear HO141; clear HB; have HO141 := n0_; have HO145 := n1_; have HB := n2_; clear n0_ n1_ n2_; (try clear hb); (try clear ho0); obtain ⟨Ao9, co9, eo9⟩ := Kd.R_slice HO141.out; subst eo9; obtain ⟨Ao10, co10, eo10⟩ := Kd.R_slice HO145.out; subst eo10) | ((with_reducible refine gate_dst (N := 31) rfl ?_); refine Lib.R_makecap k43 _ 43 rfl (N := 31) rfl 51 _ _ rfl 0 rfl rfl Try.underlying51 (.agg #[(.int .i64 0), (.int .i64 0), (.int .i64 0), (.int .i64 0), (.bool false)]) 40 info43 rfl (by decide) (by omega) z43 (ok := fun _ => True) (okp := fun _ => True) (k43_mkM _ _ _ z43 ) (fun _ hk => hk) trivial Z85 Z85 (Below.refl _ _) (Nat.le_refl _) ?_; intro v147 w11 ho12 hb hg_ hnew_; clear hg_ hnew_; (first | rw [← Ny146.out] at ho12 | (simp only [Int.reduceToNat] at ho12; rw [← Ny146.out] at ho12)); have n0_ := Aside0.mk (Kd.R_below Z9 hb); have n1_ := Aside0.mk (Kd.R_below (by (with_reducible repeat (first | apply Kd.R_alloc | apply Kd.R_drewN | apply Kd.R_drew)); exact HO145.out) hb); have n2_ := Aside0.mk (Kd.R_lower ho12 (below_size Z80)); have n3_ := Aside0.mk (below_step Z80 hb); clear HO141; clear HO145; clear HB; have HO141 := n0_; have HO145 := n1_; have HO148 := n2_; have HB := n3_; clear n0_ n1_ n2_ n3_; clear hb ho12))
  go_loopg [10, 11, 12, 33] k (fun kq v10 v11 v12 v33 w' => ∃ (x10_1 : List (S43)) (x11_1 : Int) (x12_1 : Int) (x33_1 : Int), v11 = .int .i64 x11_1 ∧ v12 = .int .i64 x12_1 ∧ v33 = .int .i64 x33_1 ∧ Aside0 (impl_spansOf.l0 kq t138 t142 x10_1 x11_1 x12_1 ji5 x33_1 = some r) ∧ Aside0 (kq ≤ k) ∧ Aside0 (Kd.R Kd.string 9 w' w.heap.size (fun k_ => some k_ ≠ ((.slice Ao10 t142.length co10) : Value).ownBlock) (.slice Ao9 t138.length co9) t138) ∧ Aside0 (Kd.R Kd.string 9 w' w.heap.size (fun k_ => some k_ ≠ ((.slice Ao9 t138.length co9) : Value).ownBlock) (.slice Ao10 t142.length co10) t142) ∧ Aside0 (Kd.R k43 43 w' w.heap.size (fun _ => True) v10 x10_1) ∧ Aside0 (Below w.heap.size w w'))
  case atStart => exact ⟨(y146), (0), (0), (0), Z1, Z1, Z1, H', ⟨Nat.le_refl _⟩, ⟨by (with_reducible repeat (first | apply Kd.R_alloc | apply Kd.R_drewN | apply Kd.R_drew)); exact Kd.R_mono HO141.out (fun _ hk => hk.2)⟩, ⟨by (with_reducible repeat (first | apply Kd.R_alloc | apply Kd.R_drewN | apply Kd.R_drew)); exact Kd.R_mono HO145.out (fun _ hk => hk.2)⟩, ⟨by (with_reducible repeat (first | apply Kd.R_alloc | apply Kd.R_drewN | apply Kd.R_drew)); exact HO148.out⟩, ⟨by repeat (first | (with_reducible first | exact HB.out | apply below_alloc | apply pw_below_drewN | apply below_drew1) | exact HB.out)⟩⟩
  case round =>
   clear H'
   try clear c1
   try clear p2
   try clear c4
   try clear c6
   try clear c6b0
   try clear c6b1
   obtain ⟨x10_1, x11_1, x12_1, x33_1, rfl, rfl, rfl, HA, HK1, HO_5, HO_7, HO_10, HB⟩ := hrel
   cases gk with
   | zero => exact absurd HA.out (by simp [impl_spansOf.l0])
   | succ k1 =>
    have H := HA.out
    clear HA
    simp only [impl_spansOf.l0] at H
    by_cases c13 : x33_1 < ji5
    ·rw [if_pos c13] at H
     have c13b0 : decide (x33_1 < ji5) = true := decide_eq_true c13
     clear c13
     by_cases c14 : 0 ≤ x33_1
     ·rw [if_pos c14] at H
      have c14b0 : decide (0 ≤ x33_1) = true := decide_eq_true c14
      clear c14
      by_cases c15 : x33_1 < (t138.length : Int)
      ·rw [if_pos c15] at H
       have c15b0 : decide (x33_1 < (t138.length : Int)) = true := decide_eq_true c15
       clear c15
       by_cases c16 : x33_1 < (t142.length : Int)
       ·rw [if_pos c16] at H
        have c16b0 : decide (x33_1 < (t142.length : Int)) = true := decide_eq_true c16
        clear c16
        by_cases c17 : x10_1.length < 3518437208883
        ·rw [if_pos c17] at H
         have LMc17 := Aside0.mk c17
         clear c17
         obtain ⟨y154, hy154⟩ : ∃ y_ : List (S43), y_ = (x10_1 ++ [(⟨x11_1, wrap64 ((wrap64 (x11_1 + ((rdOf ByteArray.empty t138 x33_1).size : Int))) + 1), x12_1, wrap64 ((wrap64 (x12_1 + ((rdOf ByteArray.empty t142 x33_1).size : Int))) + 1), ((rdOf ByteArray.empty t138 x33_1).toList == (rdOf ByteArray.empty t142 x33_1).toList)⟩ : S43)]) := ⟨_, rfl⟩
         replace H : (impl_spansOf.l0 k1 t138 t142 y154 (wrap64 ((wrap64 (x11_1 + ((rdOf ByteArray.empty t138 x33_1).size : Int))) + 1)) (wrap64 ((wrap64 (x12_1 + ((rdOf ByteArray.empty t142 x33_1).size : Int))) + 1)) ji5 (wrap64 (x33_1 + 1))) = some r := by first | (rw [hy154]; with_reducible exact H) | (have H2_ := (Option.bind_some _ _).symm.trans H; rw [hy154]; with_reducible exact H2_) | (have H2_ := (Option.bind_some _ _).symm.trans H; with_reducible exact H2_) | with_reducible exact H | (rw [hy154]; exact H) | exact H
         have Ny154 := Aside0.mk hy154
         clear hy154
         have H' := Aside0.mk H
         clear H
         try go_wp2
         have n0_ := Aside0.mk (Kd.R_drew HO_5.out)
         have n1_ := Aside0.mk (Kd.R_drew HO_7.out)
         have n2_ := Aside0.mk (Kd.R_drew HO_10.out)
         have n3_ := Aside0.mk (below_drew1 HB.out)
         clear HO_5
         clear HO_7
         clear HO_10
         clear HB
         have HO_5 := n0_
         have HO_7 := n1_
         have HO_10 := n2_
         have HB := n3_
         clear n0_ n1_ n2_ n3_
         have p149 : 0 ≤ (x33_1 : Int) := of_decide_eq_true Z2
         have q149 : x33_1 < (t138.length : Int) := of_decide_eq_true Z2
         obtain ⟨ad149, e149, hx149_0⟩ := Kd.at_string (Kd.R_reads' HO_5.out).2.2 x33_1 p149 q149
         cases e149
         replace p149 := eq_true p149
         replace q149 := eq_true q149
         have p150 : 0 ≤ (x33_1 : Int) := of_decide_eq_true Z2
         have q150 : x33_1 < (t142.length : Int) := of_decide_eq_true Z2
         obtain ⟨ad150, e150, hx150_0⟩ := Kd.at_string (Kd.R_reads' HO_7.out).2.2 x33_1 p150 q150
         cases e150
         replace p150 := eq_true p150
         replace q150 := eq_true q150
         have p151 : 0 ≤ (x33_1 : Int) := of_decide_eq_true Z2
         have q151 : x33_1 < (t138.length : Int) := of_decide_eq_true Z2
         obtain ⟨ad151, e151, hx151_0⟩ := Kd.at_string (Kd.R_reads' HO_5.out).2.2 x33_1 p151 q151
         obtain rfl : ad149 = ad151 := (by injection e151)
         replace p151 := eq_true p151
         replace q151 := eq_true q151
         have p152 : 0 ≤ (x33_1 : Int) := of_decide_eq_true Z2
         have q152 : x33_1 < (t142.length : Int) := of_decide_eq_true Z2
         obtain ⟨ad152, e152, hx152_0⟩ := Kd.at_string (Kd.R_reads' HO_7.out).2.2 x33_1 p152 q152
         obtain rfl : ad150 = ad152 := (by injection e152)
         replace p152 := eq_true p152
         replace q152 := eq_true q152
         refine start_ (n := 30) (S := fun w' => w'.cell? (ad149.add (x33_1).toNat) = some (.string (rdOf ByteArray.empty t138 x33_1)) ∧ w'.cell? (ad150.add (x33_1).toNat) = some (.string (rdOf ByteArray.empty t142 x33_1)) ∧ w'.cell? (ad149.add (x33_1).toNat) = some (.string (rdOf ByteArray.empty t138 x33_1)) ∧ w'.cell? (ad150.add (x33_1).toNat) = some (.string (rdOf ByteArray.empty t142 x33_1))) (ds := []) #[false, false, false, false, false, false, false, false, false, false, false, false, false, false, false, false, false, false, false, false, false, false, false, false, false, false, false, false, false, false] (by kernel_rfl) rfl rfl ⟨hx149_0, hx150_0, hx151_0, hx152_0⟩ (fun hHeld => ?_); refine with_tabW impl_spansOf.tab9 impl_spansOf.bits9 (fun HT_ HW_ => ?_)
         generalize wr.drew = w18 at HO_5 HO_7 HO_10 HB hx149_0 hx150_0 hx151_0 hx152_0 hHeld ⊢
         refine pure_ (i := 0) (N := some 36) (v := ?_) (a' := ?_) #[true, false, false, false, false, false, false, false, false, false, false, false, false, false, false, false, false, false, false, false, false, false, false, false, false, false, false, false, false, false] rfl rfl (any_of HT_.out (by kernel_rfl)) (fun _ _ _ h => h) (Or.inl ⟨by rfl, ?_⟩) ?_ ?_
         rotate_left
         ·intro w'
          go_simp
          with_reducible rfl
         rotate_left
         ·simp only [Act.put, List.setIfInBounds_toArray, List.set_cons_zero, List.set_cons_succ, i64_w, i32_w]
          rfl
         refine pure_ (i := 1) (N := some 37) (v := ?_) (a' := ?_) #[true, true, false, false, false, false, false, false, false, false, false, false, false, false, false, false, false, false, false, false, false, false, false, false, false, false, false, false, false, false] rfl rfl (any_of HT_.out (by kernel_rfl)) (fun _ _ _ h => h) (Or.inl ⟨by rfl, ?_⟩) ?_ ?_
         rotate_left
         ·intro w'
          go_simp
          with_reducible rfl
         rotate_left
         ·simp only [Act.put, List.setIfInBounds_toArray, List.set_cons_zero, List.set_cons_succ, i64_w, i32_w]
          rfl
         refine pure_ (i := 2) (N := some 38) (v := ?_) (a' := ?_) #[true, true, true, false, false, false, false, false, false, false, false, false, false, false, false, false, false, false, false, false, false, false, false, false, false, false, false, false, false, false] rfl rfl (any_of HT_.out (by kernel_rfl)) (fun _ _ _ h => h) (Or.inl ⟨by rfl, ?_⟩) ?_ ?_
         rotate_left
         ·intro w'
          go_simp
          with_reducible rfl
         rotate_left
         ·simp only [Act.put, List.setIfInBounds_toArray, List.set_cons_zero, List.set_cons_succ, i64_w, i32_w]
          rfl
         refine pure_ (i := 3) (N := some 39) (v := ?_) (a' := ?_) #[true, true, true, true, false, false, false, false, false, false, false, false, false, false, false, false, false, false, false, false, false, false, false, false, false, false, false, false, false, false] rfl rfl (any_of HT_.out (by kernel_rfl)) (fun _ _ _ h => h) (Or.inl ⟨by rfl, ?_⟩) ?_ ?_
         rotate_left
         ·intro w'
          go_simp
          with_reducible rfl
         rotate_left
         ·simp only [Act.put, List.setIfInBounds_toArray, List.set_cons_zero, List.set_cons_succ, i64_w, i32_w]
          rfl
         refine pure_ (i := 4) (N := some 40) (v := ?_) (a' := ?_) #[true, true, true, true, true, false, false, false, false, false, false, false, false, false, false, false, false, false, false, false, false, false, false, false, false, false, false, false, false, false] rfl rfl (any_of HT_.out (by kernel_rfl)) (fun _ _ _ h => h) (Or.inl ⟨by rfl, ?_⟩) ?_ ?_
         rotate_left
         ·intro w'
          go_simp
          with_reducible rfl
         rotate_left
         ·simp only [Act.put, List.setIfInBounds_toArray, List.set_cons_zero, List.set_cons_succ, i64_w, i32_w]
          rfl
         refine pure_ (i := 9) (N := some 45) (v := ?_) (a' := ?_) #[true, true, true, true, true, false, false, false, false, true, false, false, false, false, false, false, false, false, false, false, false, false, false, false, false, false, false, false, false, false] rfl rfl (any_of HT_.out (by kernel_rfl)) (fun _ _ _ h => h) (Or.inl ⟨by rfl, ?_⟩) ?_ ?_
         rotate_left
         ·intro w'
          go_simp
          with_reducible rfl
         rotate_left
         ·simp only [Act.put, List.setIfInBounds_toArray, List.set_cons_zero, List.set_cons_succ, i64_w, i32_w]
          rfl
         refine pure_ (i := 10) (N := some 46) (v := ?_) (a' := ?_) #[true, true, true, true, true, false, false, false, false, true, true, false, false, false, false, false, false, false, false, false, false, false, false, false, false, false, false, false, false, false] rfl rfl (any_of HT_.out (by kernel_rfl)) (fun _ _ _ h => h) (Or.inl ⟨by rfl, ?_⟩) ?_ ?_
         rotate_left
         ·intro w'
          go_simp
          with_reducible rfl
         rotate_left
         ·simp only [Act.put, List.setIfInBounds_toArray, List.set_cons_zero, List.set_cons_succ, i64_w, i32_w]
          rfl
         refine pure_ (i := 11) (N := some 47) (v := ?_) (a' := ?_) #[true, true, true, true, true, false, false, false, false, true, true, true, false, false, false, false, false, false, false, false, false, false, false, false, false, false, false, false, false, false] rfl rfl (any_of HT_.out (by kernel_rfl)) (fun _ _ _ h => h) (Or.inl ⟨by rfl, ?_⟩) ?_ ?_
         rotate_left
         ·intro w'
          go_simp
          with_reducible rfl
         rotate_left
         ·simp only [Act.put, List.setIfInBounds_toArray, List.set_cons_zero, List.set_cons_succ, i64_w, i32_w]
          rfl
         refine pure_ (i := 12) (N := some 48) (v := ?_) (a' := ?_) #[true, true, true, true, true, false, false, false, false, true, true, true, true, false, false, false, false, false, false, false, false, false, false, false, false, false, false, false, false, false] rfl rfl (any_of HT_.out (by kernel_rfl)) (fun _ _ _ h => h) (Or.inl ⟨by rfl, ?_⟩) ?_ ?_
         rotate_left
         ·intro w'
          go_simp
          with_reducible rfl
         rotate_left
         ·simp only [Act.put, List.setIfInBounds_toArray, List.set_cons_zero, List.set_cons_succ, i64_w, i32_w]
          rfl
         refine pure_ (i := 13) (N := some 49) (v := ?_) (a' := ?_) #[true, true, true, true, true, false, false, false, false, true, true, true, true, true, false, false, false, false, false, false, false, false, false, false, false, false, false, false, false, false] rfl rfl (any_of HT_.out (by kernel_rfl)) (fun _ _ _ h => h) (Or.inl ⟨by rfl, ?_⟩) ?_ ?_
         rotate_left
         ·intro w'
          go_simp
          with_reducible rfl
         rotate_left
         ·simp only [Act.put, List.setIfInBounds_toArray, List.set_cons_zero, List.set_cons_succ, i64_w, i32_w]
          rfl
         refine pure_ (i := 18) (N := some 54) (v := ?_) (a' := ?_) #[true, true, true, true, true, false, false, false, false, true, true, true, true, true, false, false, false, false, true, false, false, false, false, false, false, false, false, false, false, false] rfl rfl (any_of HT_.out (by kernel_rfl)) (fun _ _ _ h => h) (Or.inl ⟨by rfl, ?_⟩) ?_ ?_
         rotate_left
         ·intro w'
          go_simp
          with_reducible rfl
         rotate_left
         ·simp only [Act.put, List.setIfInBounds_toArray, List.set_cons_zero, List.set_cons_succ, i64_w, i32_w]
          rfl
         refine pure_ (i := 19) (N := some 55) (v := ?_) (a' := ?_) #[true, true, true, true, true, false, false, false, false, true, true, true, true, true, false, false, false, false, true, true, false, false, false, false, false, false, false, false, false, false] rfl rfl (any_of HT_.out (by kernel_rfl)) (fun _ _ _ h => h) (Or.inl ⟨by rfl, ?_⟩) ?_ ?_
         rotate_left
         ·intro w'
          go_simp
          with_reducible rfl
         rotate_left
         ·simp only [Act.put, List.setIfInBounds_toArray, List.set_cons_zero, List.set_cons_succ, i64_w, i32_w]
          rfl
         refine pure_ (i := 20) (N := some 56) (v := ?_) (a' := ?_) #[true, true, true, true, true, false, false, false, false, true, true, true, true, true, false, false, false, false, true, true, true, false, false, false, false, false, false, false, false, false] rfl rfl (any_of HT_.out (by kernel_rfl)) (fun _ _ _ h => h) (Or.inl ⟨by rfl, ?_⟩) ?_ ?_
         rotate_left
         ·intro w'
          go_simp
          with_reducible rfl
         rotate_left
         ·simp only [Act.put, List.setIfInBounds_toArray, List.set_cons_zero, List.set_cons_succ, i64_w, i32_w]
          rfl
         refine pure_ (i := 22) (N := some 58) (v := ?_) (a' := ?_) #[true, true, true, true, true, false, false, false, false, true, true, true, true, true, false, false, false, false, true, true, true, false, true, false, false, false, false, false, false, false] rfl rfl (any_of HT_.out (by kernel_rfl)) (fun _ _ _ h => h) (Or.inl ⟨by rfl, ?_⟩) ?_ ?_
         rotate_left
         ·intro w'
          go_simp
          with_reducible rfl
         rotate_left
         ·simp only [Act.put, List.setIfInBounds_toArray, List.set_cons_zero, List.set_cons_succ, i64_w, i32_w]
          rfl
         refine pure_ (i := 23) (N := some 59) (v := ?_) (a' := ?_) #[true, true, true, true, true, false, false, false, false, true, true, true, true, true, false, false, false, false, true, true, true, false, true, true, false, false, false, false, false, false] rfl rfl (any_of HT_.out (by kernel_rfl)) (fun _ _ _ h => h) (Or.inl ⟨by rfl, ?_⟩) ?_ ?_
         rotate_left
         ·intro w'
          go_simp
          with_reducible rfl
         rotate_left
         ·simp only [Act.put, List.setIfInBounds_toArray, List.set_cons_zero, List.set_cons_succ, i64_w, i32_w]
          rfl
         refine pure_ (i := 24) (N := some 60) (v := ?_) (a' := ?_) #[true, true, true, true, true, false, false, false, false, true, true, true, true, true, false, false, false, false, true, true, true, false, true, true, true, false, false, false, false, false] rfl rfl (any_of HT_.out (by kernel_rfl)) (fun _ _ _ h => h) (Or.inl ⟨by rfl, ?_⟩) ?_ ?_
         rotate_left
         ·intro w'
          go_simp
          with_reducible rfl
         rotate_left
         ·simp only [Act.put, List.setIfInBounds_toArray, List.set_cons_zero, List.set_cons_succ, i64_w, i32_w]
          rfl
         refine take_ (i := 5) (N := some 41) (v := ?_) (a' := ?_) #[true, true, true, true, true, true, false, false, false, true, true, true, true, true, false, false, false, false, true, true, true, false, true, true, true, false, false, false, false, false] rfl rfl (take_ofW HT_.out HW_.out (by kernel_rfl)) (fun _ _ _ h => h) (Or.inl ⟨by rfl, ?_⟩) hHeld ?_ ?_
         rotate_left
         ·rintro w' ⟨s0, s1, s2, s3⟩
          go_simp
          with_reducible rfl
         rotate_left
         ·simp only [Act.put, List.setIfInBounds_toArray, List.set_cons_zero, List.set_cons_succ, i64_w, i32_w]
          rfl
         refine pure_ (i := 6) (N := some 42) (v := ?_) (a' := ?_) #[true, true, true, true, true, true, true, false, false, true, true, true, true, true, false, false, false, false, true, true, true, false, true, true, true, false, false, false, false, false] rfl rfl (any_of HT_.out (by kernel_rfl)) (fun _ _ _ h => h) (Or.inl ⟨by rfl, ?_⟩) ?_ ?_
         rotate_left
         ·intro w'
          go_simp
          with_reducible rfl
         rotate_left
         ·simp only [Act.put, List.setIfInBounds_toArray, List.set_cons_zero, List.set_cons_succ, i64_w, i32_w]
          rfl
         refine pure_ (i := 7) (N := some 43) (v := ?_) (a' := ?_) #[true, true, true, true, true, true, true, true, false, true, true, true, true, true, false, false, false, false, true, true, true, false, true, true, true, false, false, false, false, false] rfl rfl (any_of HT_.out (by kernel_rfl)) (fun _ _ _ h => h) (Or.inl ⟨by rfl, ?_⟩) ?_ ?_
         rotate_left
         ·intro w'
          go_simp
          with_reducible rfl
         rotate_left
         ·simp only [Act.put, List.setIfInBounds_toArray, List.set_cons_zero, List.set_cons_succ, i64_w, i32_w]
          rfl
         refine pure_ (i := 8) (N := some 44) (v := ?_) (a' := ?_) #[true, true, true, true, true, true, true, true, true, true, true, true, true, true, false, false, false, false, true, true, true, false, true, true, true, false, false, false, false, false] rfl rfl (any_of HT_.out (by kernel_rfl)) (fun _ _ _ h => h) (Or.inl ⟨by rfl, ?_⟩) ?_ ?_
         rotate_left
         ·intro w'
          go_simp
          with_reducible rfl
         rotate_left
         ·simp only [Act.put, List.setIfInBounds_toArray, List.set_cons_zero, List.set_cons_succ, i64_w, i32_w]
          rfl
         refine take_ (i := 14) (N := some 50) (v := ?_) (a' := ?_) #[true, true, true, true, true, true, true, true, true, true, true, true, true, true, true, false, false, false, true, true, true, false, true, true, true, false, false, false, false, false] rfl rfl (take_ofW HT_.out HW_.out (by kernel_rfl)) (fun _ _ _ h => h) (Or.inl ⟨by rfl, ?_⟩) hHeld ?_ ?_
         rotate_left
         ·rintro w' ⟨s0, s1, s2, s3⟩
          go_simp
          with_reducible rfl
         rotate_left
         ·simp only [Act.put, List.setIfInBounds_toArray, List.set_cons_zero, List.set_cons_succ, i64_w, i32_w]
          rfl
         refine pure_ (i := 15) (N := some 51) (v := ?_) (a' := ?_) #[true, true, true, true, true, true, true, true, true, true, true, true, true, true, true, true, false, false, true, true, true, false, true, true, true, false, false, false, false, false] rfl rfl (any_of HT_.out (by kernel_rfl)) (fun _ _ _ h => h) (Or.inl ⟨by rfl, ?_⟩) ?_ ?_
         rotate_left
         ·intro w'
          go_simp
          with_reducible rfl
         rotate_left
         ·simp only [Act.put, List.setIfInBounds_toArray, List.set_cons_zero, List.set_cons_succ, i64_w, i32_w]
          rfl
         refine pure_ (i := 16) (N := some 52) (v := ?_) (a' := ?_) #[true, true, true, true, true, true, true, true, true, true, true, true, true, true, true, true, true, false, true, true, true, false, true, true, true, false, false, false, false, false] rfl rfl (any_of HT_.out (by kernel_rfl)) (fun _ _ _ h => h) (Or.inl ⟨by rfl, ?_⟩) ?_ ?_
         rotate_left
         ·intro w'
          go_simp
          with_reducible rfl
         rotate_left
         ·simp only [Act.put, List.setIfInBounds_toArray, List.set_cons_zero, List.set_cons_succ, i64_w, i32_w]
          rfl
         refine pure_ (i := 17) (N := some 53) (v := ?_) (a' := ?_) #[true, true, true, true, true, true, true, true, true, true, true, true, true, true, true, true, true, true, true, true, true, false, true, true, true, false, false, false, false, false] rfl rfl (any_of HT_.out (by kernel_rfl)) (fun _ _ _ h => h) (Or.inl ⟨by rfl, ?_⟩) ?_ ?_
         rotate_left
         ·intro w'
          go_simp
          with_reducible rfl
         rotate_left
         ·simp only [Act.put, List.setIfInBounds_toArray, List.set_cons_zero, List.set_cons_succ, i64_w, i32_w]
          rfl
         refine take_ (i := 21) (N := some 57) (v := ?_) (a' := ?_) #[true, true, true, true, true, true, true, true, true, true, true, true, true, true, true, true, true, true, true, true, true, true, true, true, true, false, false, false, false, false] rfl rfl (take_ofW HT_.out HW_.out (by kernel_rfl)) (fun _ _ _ h => h) (Or.inl ⟨by rfl, ?_⟩) hHeld ?_ ?_
         rotate_left
         ·rintro w' ⟨s0, s1, s2, s3⟩
          go_simp
          with_reducible rfl
         rotate_left
         ·simp only [Act.put, List.setIfInBounds_toArray, List.set_cons_zero, List.set_cons_succ, i64_w, i32_w]
          rfl
         refine take_ (i := 25) (N := some 61) (v := ?_) (a' := ?_) #[true, true, true, true, true, true, true, true, true, true, true, true, true, true, true, true, true, true, true, true, true, true, true, true, true, true, false, false, false, false] rfl rfl (take_ofW HT_.out HW_.out (by kernel_rfl)) (fun _ _ _ h => h) (Or.inl ⟨by rfl, ?_⟩) hHeld ?_ ?_
         rotate_left
         ·rintro w' ⟨s0, s1, s2, s3⟩
          go_simp
          with_reducible rfl
         rotate_left
         ·simp only [Act.put, List.setIfInBounds_toArray, List.set_cons_zero, List.set_cons_succ, i64_w, i32_w]
          rfl
         refine pure_ (i := 26) (N := some 62) (v := ?_) (a' := ?_) #[true, true, true, true, true, true, true, true, true, true, true, true, true, true, true, true, true, true, true, true, true, true, true, true, true, true, true, false, false, false] rfl rfl (any_of HT_.out (by kernel_rfl)) (fun _ _ _ h => h) (Or.inl ⟨by rfl, ?_⟩) ?_ ?_
         rotate_left
         ·intro w'
          go_simp
          with_reducible rfl
         rotate_left
         ·simp only [Act.put, List.setIfInBounds_toArray, List.set_cons_zero, List.set_cons_succ, i64_w, i32_w]
          rfl
         refine pure_ (i := 27) (N := some 63) (v := ?_) (a' := ?_) #[true, true, true, true, true, true, true, true, true, true, true, true, true, true, true, true, true, true, true, true, true, true, true, true, true, true, true, true, false, false] rfl rfl (any_of HT_.out (by kernel_rfl)) (fun _ _ _ h => h) (Or.inl ⟨by rfl, ?_⟩) ?_ ?_
         rotate_left
         ·intro w'
          go_simp
          with_reducible rfl
         rotate_left
         ·simp only [Act.put, List.setIfInBounds_toArray, List.set_cons_zero, List.set_cons_succ, i64_w, i32_w]
          rfl
         refine one_ (i := 28) (N := some 14) #[true, true, true, true, true, true, true, true, true, true, true, true, true, true, true, true, true, true, true, true, true, true, true, true, true, true, true, true, true, false] rfl rfl (one_of HT_.out (by kernel_rfl)) (by decide) (fun K hK => ?_)
         refine box_step ?hg (N := 14) ?hd (cs := #[.int .i64 0, .int .i64 0, .int .i64 0, .int .i64 0, .bool false]) (t := 43) ?hr ?_; (case hd => rfl); (case hg => rfl); (case hr => first | (go_simp; done) | (go_simp; rfl))
         intro gb153 hg w19 hbox hb
         have HS0_ := (hb.cell (World.block_lt_of_cell? _ _ (hHeld.1))).trans (hHeld.1)
         have HS1_ := (hb.cell (World.block_lt_of_cell? _ _ (hHeld.2.1))).trans (hHeld.2.1)
         have HS2_ := (hb.cell (World.block_lt_of_cell? _ _ (hHeld.2.2.1))).trans (hHeld.2.2.1)
         have HS3_ := (hb.cell (World.block_lt_of_cell? _ _ (hHeld.2.2.2))).trans (hHeld.2.2.2)
         have n0_ := Aside0.mk (Kd.R_below Z5 hb)
         have n1_ := Aside0.mk (Kd.R_below (by (with_reducible repeat (first | apply Kd.R_alloc | apply Kd.R_drewN | apply Kd.R_drew)); exact HO_7.out) hb)
         have n2_ := Aside0.mk (Kd.R_below (Kd.R_elderB Z10 gb153 (Nat.le_of_eq hg.symm)) hb)
         have n3_ := Aside0.mk (below_step Z80 hb)
         have n4_ := Aside0.mk (hbox)
         have n5_ := Aside0.mk ((Z196 : w.heap.size ≤ gb153))
         have n6_ := Aside0.mk ((Z196 : w.heap.size ≤ gb153))
         clear HO_5
         clear HO_7
         clear HO_10
         clear HB
         have HO_5 := n0_
         have HO_7 := n1_
         have HO_10 := n2_
         have HB := n3_
         have BK153 := n4_
         have GW153 := n5_
         have GE153 := n6_
         clear n0_ n1_ n2_ n3_ n4_ n5_ n6_
         clear hb hbox hg
         refine hK.out _ _ ⟨HS0_, HS1_, HS2_, HS3_⟩ (fun hHeld => ?_)
         clear hK K
         refine norm_ (a' := ?_) ?_ ?_
         rotate_left
         ·show Act.put _ (some 14) _ = _
          simp only [Act.put, List.setIfInBounds_toArray, List.set_cons_zero, List.set_cons_succ, i64_w, i32_w]
          rfl
         refine one_ (i := 29) (N := none) #[true, true, true, true, true, true, true, true, true, true, true, true, true, true, true, true, true, true, true, true, true, true, true, true, true, true, true, true, true, true] rfl rfl (one_of HT_.out (by kernel_rfl)) (by decide) (fun K hK => ?_)
         have hs20 : w19.cell? ⟨gb153, 0, none⟩ = some (.int .i64 0) := (blk_cell BK153.out 0).trans rfl
         have hfs20 := blk_frozen BK153.out 0
         have hs21 : w19.cell? ⟨gb153, 1, none⟩ = some (.int .i64 0) := (blk_cell BK153.out 1).trans rfl
         have hfs21 := blk_frozen BK153.out 1
         have hs22 : w19.cell? ⟨gb153, 2, none⟩ = some (.int .i64 0) := (blk_cell BK153.out 2).trans rfl
         have hfs22 := blk_frozen BK153.out 2
         have hs23 : w19.cell? ⟨gb153, 3, none⟩ = some (.int .i64 0) := (blk_cell BK153.out 3).trans rfl
         have hfs23 := blk_frozen BK153.out 3
         have hs24 : w19.cell? ⟨gb153, 4, none⟩ = some (.bool false) := (blk_cell BK153.out 4).trans rfl
         have hfs24 := blk_frozen BK153.out 4
         refine skip_ (w1 := ?_) (by rfl) rfl ?_ ?_
         rotate_left
         ·go_simp
          rfl
         refine hK.out _ _ ⟨((cell_far (p := ⟨gb153, _, none⟩) Z178 _).trans (((cell_far (p := ⟨gb153, _, none⟩) Z178 _).trans (((cell_far (p := ⟨gb153, _, none⟩) Z178 _).trans (((cell_far (p := ⟨gb153, _, none⟩) Z178 _).trans (((cell_far (p := ⟨gb153, _, none⟩) Z178 _).trans (hHeld.1)))))))))), ((cell_far (p := ⟨gb153, _, none⟩) Z179 _).trans (((cell_far (p := ⟨gb153, _, none⟩) Z179 _).trans (((cell_far (p := ⟨gb153, _, none⟩) Z179 _).trans (((cell_far (p := ⟨gb153, _, none⟩) Z179 _).trans (((cell_far (p := ⟨gb153, _, none⟩) Z179 _).trans (hHeld.2.1)))))))))), ((cell_far (p := ⟨gb153, _, none⟩) Z178 _).trans (((cell_far (p := ⟨gb153, _, none⟩) Z178 _).trans (((cell_far (p := ⟨gb153, _, none⟩) Z178 _).trans (((cell_far (p := ⟨gb153, _, none⟩) Z178 _).trans (((cell_far (p := ⟨gb153, _, none⟩) Z178 _).trans (hHeld.2.2.1)))))))))), ((cell_far (p := ⟨gb153, _, none⟩) Z179 _).trans (((cell_far (p := ⟨gb153, _, none⟩) Z179 _).trans (((cell_far (p := ⟨gb153, _, none⟩) Z179 _).trans (((cell_far (p := ⟨gb153, _, none⟩) Z179 _).trans (((cell_far (p := ⟨gb153, _, none⟩) Z179 _).trans (hHeld.2.2.2))))))))))⟩ (fun hHeld => ?_)
         clear hK K
         refine done_ (done_of HT_.out (by kernel_rfl)) ?_
         try go_wp2
         have n0_ : Aside0 (Kd.R Kd.string 9 (((((w19.setCell ⟨gb153, 0, none⟩ (.int .i64 x11_1)).setCell ⟨gb153, 1, none⟩ (.int .i64 (wrap64 ((wrap64 (x11_1 + ((rdOf ByteArray.empty t138 x33_1).size : Int))) + 1)))).setCell ⟨gb153, 2, none⟩ (.int .i64 x12_1)).setCell ⟨gb153, 3, none⟩ (.int .i64 (wrap64 ((wrap64 (x12_1 + ((rdOf ByteArray.empty t142 x33_1).size : Int))) + 1)))).setCell ⟨gb153, 4, none⟩ (.bool ((rdOf ByteArray.empty t138 x33_1).toList == (rdOf ByteArray.empty t142 x33_1).toList))) w.heap.size (fun k_ => some k_ ≠ (.slice (some ad150) t142.length co10 : Value).ownBlock) (.slice (some ad149) t138.length co9) t138) := ⟨by (with_reducible repeat (first | apply Kd.R_alloc | apply Kd.R_drewN | apply Kd.R_drew)); exact Kd.R_mono (Kd.R_far (p := ⟨gb153, 4, none⟩) (Kd.R_far (p := ⟨gb153, 3, none⟩) (Kd.R_far (p := ⟨gb153, 2, none⟩) (Kd.R_far (p := ⟨gb153, 1, none⟩) (Kd.R_far (p := ⟨gb153, 0, none⟩) (Kd.R_types HO_5.out BK153.out (by decide)) (fun _ hk => hk.2) (.int .i64 x11_1)) (fun _ hk => hk.2) (.int .i64 (wrap64 ((wrap64 (x11_1 + ((rdOf ByteArray.empty t138 x33_1).size : Int))) + 1)))) (fun _ hk => hk.2) (.int .i64 x12_1)) (fun _ hk => hk.2) (.int .i64 (wrap64 ((wrap64 (x12_1 + ((rdOf ByteArray.empty t142 x33_1).size : Int))) + 1)))) (fun _ hk => hk.2) (.bool ((rdOf ByteArray.empty t138 x33_1).toList == (rdOf ByteArray.empty t142 x33_1).toList))) (fun _ hk => hk.1)⟩
         have n1_ : Aside0 (Kd.R Kd.string 9 (((((w19.setCell ⟨gb153, 0, none⟩ (.int .i64 x11_1)).setCell ⟨gb153, 1, none⟩ (.int .i64 (wrap64 ((wrap64 (x11_1 + ((rdOf ByteArray.empty t138 x33_1).size : Int))) + 1)))).setCell ⟨gb153, 2, none⟩ (.int .i64 x12_1)).setCell ⟨gb153, 3, none⟩ (.int .i64 (wrap64 ((wrap64 (x12_1 + ((rdOf ByteArray.empty t142 x33_1).size : Int))) + 1)))).setCell ⟨gb153, 4, none⟩ (.bool ((rdOf ByteArray.empty t138 x33_1).toList == (rdOf ByteArray.empty t142 x33_1).toList))) w.heap.size (fun k_ => some k_ ≠ (.slice (some ad149) t138.length co9 : Value).ownBlock) (.slice (some ad150) t142.length co10) t142) := ⟨by (with_reducible repeat (first | apply Kd.R_alloc | apply Kd.R_drewN | apply Kd.R_drew)); exact Kd.R_mono (Kd.R_far (p := ⟨gb153, 4, none⟩) (Kd.R_far (p := ⟨gb153, 3, none⟩) (Kd.R_far (p := ⟨gb153, 2, none⟩) (Kd.R_far (p := ⟨gb153, 1, none⟩) (Kd.R_far (p := ⟨gb153, 0, none⟩) (Kd.R_types HO_7.out BK153.out (by decide)) (fun _ hk => hk.2) (.int .i64 x11_1)) (fun _ hk => hk.2) (.int .i64 (wrap64 ((wrap64 (x11_1 + ((rdOf ByteArray.empty t138 x33_1).size : Int))) + 1)))) (fun _ hk => hk.2) (.int .i64 x12_1)) (fun _ hk => hk.2) (.int .i64 (wrap64 ((wrap64 (x12_1 + ((rdOf ByteArray.empty t142 x33_1).size : Int))) + 1)))) (fun _ hk => hk.2) (.bool ((rdOf ByteArray.empty t138 x33_1).toList == (rdOf ByteArray.empty t142 x33_1).toList))) (fun _ hk => hk.1)⟩
         have n2_ : Aside0 (Kd.R k43 43 (((((w19.setCell ⟨gb153, 0, none⟩ (.int .i64 x11_1)).setCell ⟨gb153, 1, none⟩ (.int .i64 (wrap64 ((wrap64 (x11_1 + ((rdOf ByteArray.empty t138 x33_1).size : Int))) + 1)))).setCell ⟨gb153, 2, none⟩ (.int .i64 x12_1)).setCell ⟨gb153, 3, none⟩ (.int .i64 (wrap64 ((wrap64 (x12_1 + ((rdOf ByteArray.empty t142 x33_1).size : Int))) + 1)))).setCell ⟨gb153, 4, none⟩ (.bool ((rdOf ByteArray.empty t138 x33_1).toList == (rdOf ByteArray.empty t142 x33_1).toList))) w.heap.size (fun k_ => k_ ≠ gb153) u10 x10_1) := ⟨by (with_reducible repeat (first | apply Kd.R_alloc | apply Kd.R_drewN | apply Kd.R_drew)); exact Kd.R_mono (Kd.R_far (p := ⟨gb153, 4, none⟩) (Kd.R_far (p := ⟨gb153, 3, none⟩) (Kd.R_far (p := ⟨gb153, 2, none⟩) (Kd.R_far (p := ⟨gb153, 1, none⟩) (Kd.R_far (p := ⟨gb153, 0, none⟩) (Kd.R_mono HO_10.out (fun k_ hk => (⟨hk, hk.2⟩ : _ ∧ k_ ≠ gb153))) (fun _ hk => hk.2) (.int .i64 x11_1)) (fun _ hk => hk.2) (.int .i64 (wrap64 ((wrap64 (x11_1 + ((rdOf ByteArray.empty t138 x33_1).size : Int))) + 1)))) (fun _ hk => hk.2) (.int .i64 x12_1)) (fun _ hk => hk.2) (.int .i64 (wrap64 ((wrap64 (x12_1 + ((rdOf ByteArray.empty t142 x33_1).size : Int))) + 1)))) (fun _ hk => hk.2) (.bool ((rdOf ByteArray.empty t138 x33_1).toList == (rdOf ByteArray.empty t142 x33_1).toList))) (fun _ hk => hk.1.2)⟩
         have n3_ : Aside0 ((((((w19.setCell ⟨gb153, 0, none⟩ (.int .i64 x11_1)).setCell ⟨gb153, 1, none⟩ (.int .i64 (wrap64 ((wrap64 (x11_1 + ((rdOf ByteArray.empty t138 x33_1).size : Int))) + 1)))).setCell ⟨gb153, 2, none⟩ (.int .i64 x12_1)).setCell ⟨gb153, 3, none⟩ (.int .i64 (wrap64 ((wrap64 (x12_1 + ((rdOf ByteArray.empty t142 x33_1).size : Int))) + 1)))).setCell ⟨gb153, 4, none⟩ (.bool ((rdOf ByteArray.empty t138 x33_1).toList == (rdOf ByteArray.empty t142 x33_1).toList))).heap[gb153]? = some (.cells #[.int .i64 x11_1, .int .i64 (wrap64 ((wrap64 (x11_1 + ((rdOf ByteArray.empty t138 x33_1).size : Int))) + 1)), .int .i64 x12_1, .int .i64 (wrap64 ((wrap64 (x12_1 + ((rdOf ByteArray.empty t142 x33_1).size : Int))) + 1)), .bool ((rdOf ByteArray.empty t138 x33_1).toList == (rdOf ByteArray.empty t142 x33_1).toList)] 43 (0, 0))) := ⟨by (with_reducible repeat (first | refine blk_drewN ?_ _ | refine blk_drew ?_ | refine blk_alloc ?_ _)); refine blk_put (cs := #[.int .i64 x11_1, .int .i64 (wrap64 ((wrap64 (x11_1 + ((rdOf ByteArray.empty t138 x33_1).size : Int))) + 1)), .int .i64 x12_1, .int .i64 (wrap64 ((wrap64 (x12_1 + ((rdOf ByteArray.empty t142 x33_1).size : Int))) + 1)), .bool false]) ?_ 4 _ rfl; (with_reducible repeat (first | refine blk_drewN ?_ _ | refine blk_drew ?_ | refine blk_alloc ?_ _)); refine blk_put (cs := #[.int .i64 x11_1, .int .i64 (wrap64 ((wrap64 (x11_1 + ((rdOf ByteArray.empty t138 x33_1).size : Int))) + 1)), .int .i64 x12_1, .int .i64 0, .bool false]) ?_ 3 _ rfl; (with_reducible repeat (first | refine blk_drewN ?_ _ | refine blk_drew ?_ | refine blk_alloc ?_ _)); refine blk_put (cs := #[.int .i64 x11_1, .int .i64 (wrap64 ((wrap64 (x11_1 + ((rdOf ByteArray.empty t138 x33_1).size : Int))) + 1)), .int .i64 0, .int .i64 0, .bool false]) ?_ 2 _ rfl; (with_reducible repeat (first | refine blk_drewN ?_ _ | refine blk_drew ?_ | refine blk_alloc ?_ _)); refine blk_put (cs := #[.int .i64 x11_1, .int .i64 0, .int .i64 0, .int .i64 0, .bool false]) ?_ 1 _ rfl; (with_reducible repeat (first | refine blk_drewN ?_ _ | refine blk_drew ?_ | refine blk_alloc ?_ _)); refine blk_put (cs := #[.int .i64 0, .int .i64 0, .int .i64 0, .int .i64 0, .bool false]) ?_ 0 _ rfl; (with_reducible repeat (first | refine blk_drewN ?_ _ | refine blk_drew ?_ | refine blk_alloc ?_ _)); exact BK153.out⟩
         have n4_ : Aside0 (Below w.heap.size w (((((w19.setCell ⟨gb153, 0, none⟩ (.int .i64 x11_1)).setCell ⟨gb153, 1, none⟩ (.int .i64 (wrap64 ((wrap64 (x11_1 + ((rdOf ByteArray.empty t138 x33_1).size : Int))) + 1)))).setCell ⟨gb153, 2, none⟩ (.int .i64 x12_1)).setCell ⟨gb153, 3, none⟩ (.int .i64 (wrap64 ((wrap64 (x12_1 + ((rdOf ByteArray.empty t142 x33_1).size : Int))) + 1)))).setCell ⟨gb153, 4, none⟩ (.bool ((rdOf ByteArray.empty t138 x33_1).toList == (rdOf ByteArray.empty t142 x33_1).toList)))) := ⟨by repeat (first | (with_reducible first | exact HB.out | apply below_alloc | apply pw_below_drewN | apply below_drew1 | refine below_set ?_ GE153.out) | exact HB.out)⟩
         (try clear HO_5)
         (try clear HO_7)
         (try clear HO_10)
         (try clear BK153)
         (try clear HB)
         generalize (((((w19.setCell ⟨gb153, 0, none⟩ (.int .i64 x11_1)).setCell ⟨gb153, 1, none⟩ (.int .i64 (wrap64 ((wrap64 (x11_1 + ((rdOf ByteArray.empty t138 x33_1).size : Int))) + 1)))).setCell ⟨gb153, 2, none⟩ (.int .i64 x12_1)).setCell ⟨gb153, 3, none⟩ (.int .i64 (wrap64 ((wrap64 (x12_1 + ((rdOf ByteArray.empty t142 x33_1).size : Int))) + 1)))).setCell ⟨gb153, 4, none⟩ (.bool ((rdOf ByteArray.empty t138 x33_1).toList == (rdOf ByteArray.empty t142 x33_1).toList))) = w25 at n0_ n1_ n2_ n3_ n4_ ⊢
         have HO_5 := n0_
         have HO_7 := n1_
         have HO_10 := n2_
         have BK153 := n3_
         have HB := n4_
         clear n0_ n1_ n2_ n3_ n4_
         have n0_ := Aside0.mk (Kd.R_drew HO_5.out)
         have n1_ := Aside0.mk (Kd.R_drew HO_7.out)
         have n2_ := Aside0.mk (Kd.R_drew HO_10.out)
         have n3_ := Aside0.mk (blk_drew BK153.out)
         have n4_ := Aside0.mk (below_drew1 HB.out)
         clear HO_5
         clear HO_7
         clear HO_10
         clear BK153
         clear HB
         have HO_5 := n0_
         have HO_7 := n1_
         have HO_10 := n2_
         have BK153 := n3_
         have HB := n4_
         clear n0_ n1_ n2_ n3_ n4_
         refine start_ (n := 6) (S := fun w' => w'.cell? ⟨gb153, 0, none⟩ = some (.int .i64 x11_1) ∧ w'.cell? ⟨gb153, 1, none⟩ = some (.int .i64 (wrap64 ((wrap64 (x11_1 + ((rdOf ByteArray.empty t138 x33_1).size : Int))) + 1))) ∧ w'.cell? ⟨gb153, 2, none⟩ = some (.int .i64 x12_1) ∧ w'.cell? ⟨gb153, 3, none⟩ = some (.int .i64 (wrap64 ((wrap64 (x12_1 + ((rdOf ByteArray.empty t142 x33_1).size : Int))) + 1))) ∧ w'.cell? ⟨gb153, 4, none⟩ = some (.bool ((rdOf ByteArray.empty t138 x33_1).toList == (rdOf ByteArray.empty t142 x33_1).toList))) (ds := []) #[false, false, false, false, false, false] (by kernel_rfl) rfl rfl ⟨(blk_cell BK153.out 0).trans rfl, (blk_cell BK153.out 1).trans rfl, (blk_cell BK153.out 2).trans rfl, (blk_cell BK153.out 3).trans rfl, (blk_cell BK153.out 4).trans rfl⟩ (fun hHeld => ?_)
         generalize w25.drew = w26 at HO_5 HO_7 HO_10 BK153 HB hHeld ⊢
         refine pure_ (i := 0) (N := some 64) (v := ?_) (a' := ?_) #[true, false, false, false, false, false] rfl rfl (by kernel_rfl) (fun _ _ _ h => h) (Or.inl ⟨by rfl, ?_⟩) ?_ ?_
         rotate_left
         ·intro w'
          go_simp
          with_reducible rfl
         rotate_left
         ·simp only [Act.put, List.setIfInBounds_toArray, List.set_cons_zero, List.set_cons_succ, i64_w, i32_w]
          rfl
         refine pure_ (i := 2) (N := some 66) (v := ?_) (a' := ?_) #[true, false, true, false, false, false] rfl rfl (by kernel_rfl) (fun _ _ _ h => h) (Or.inl ⟨by rfl, ?_⟩) ?_ ?_
         rotate_left
         ·intro w'
          go_simp
          with_reducible rfl
         rotate_left
         ·simp only [Act.put, List.setIfInBounds_toArray, List.set_cons_zero, List.set_cons_succ, i64_w, i32_w]
          rfl
         refine take_ (i := 1) (N := some 65) (v := ?_) (a' := ?_) #[true, true, true, false, false, false] rfl rfl (by kernel_rfl) (fun _ _ _ h => h) (Or.inl ⟨by rfl, ?_⟩) hHeld ?_ ?_
         rotate_left
         ·rintro w' ⟨s0, s1, s2, s3, s4⟩
          go_simp
          with_reducible rfl
         rotate_left
         ·simp only [Act.put, List.setIfInBounds_toArray, List.set_cons_zero, List.set_cons_succ, i64_w, i32_w]
          rfl
         refine pure_ (i := 4) (N := some 11) (v := ?_) (a' := ?_) #[true, true, true, false, true, false] rfl rfl (by kernel_rfl) (fun _ _ _ h => h) (Or.inl ⟨by rfl, ?_⟩) ?_ ?_
         rotate_left
         ·intro w'
          go_simp
          with_reducible rfl
         rotate_left
         ·simp only [Act.put, List.setIfInBounds_toArray, List.set_cons_zero, List.set_cons_succ, i64_w, i32_w]
          rfl
         refine take_ (i := 3) (N := some 67) (v := ?_) (a' := ?_) #[true, true, true, true, true, false] rfl rfl (by kernel_rfl) (fun _ _ _ h => h) (Or.inl ⟨by rfl, ?_⟩) hHeld ?_ ?_
         rotate_left
         ·rintro w' ⟨s0, s1, s2, s3, s4⟩
          go_simp
          with_reducible rfl
         rotate_left
         ·simp only [Act.put, List.setIfInBounds_toArray, List.set_cons_zero, List.set_cons_succ, i64_w, i32_w]
          rfl
         refine pure_ (i := 5) (N := some 12) (v := ?_) (a' := ?_) #[true, true, true, true, true, true] rfl rfl (by kernel_rfl) (fun _ _ _ h => h) (Or.inl ⟨by rfl, ?_⟩) ?_ ?_
         rotate_left
         ·intro w'
          go_simp
          with_reducible rfl
         rotate_left
         ·simp only [Act.put, List.setIfInBounds_toArray, List.set_cons_zero, List.set_cons_succ, i64_w, i32_w]
          rfl
         refine done_ (by kernel_rfl) ?_
         have hcz27_0 : w26.cell? ⟨gb153, 0, none⟩ = some (.int .i64 x11_1) := (blk_cell BK153.out 0).trans rfl
         have hcz27_1 : w26.cell? ⟨gb153, 1, none⟩ = some (.int .i64 (wrap64 ((wrap64 (x11_1 + ((rdOf ByteArray.empty t138 x33_1).size : Int))) + 1))) := (blk_cell BK153.out 1).trans rfl
         have hcz27_2 : w26.cell? ⟨gb153, 2, none⟩ = some (.int .i64 x12_1) := (blk_cell BK153.out 2).trans rfl
         have hcz27_3 : w26.cell? ⟨gb153, 3, none⟩ = some (.int .i64 (wrap64 ((wrap64 (x12_1 + ((rdOf ByteArray.empty t142 x33_1).size : Int))) + 1))) := (blk_cell BK153.out 3).trans rfl
         have hcz27_4 : w26.cell? ⟨gb153, 4, none⟩ = some (.bool ((rdOf ByteArray.empty t138 x33_1).toList == (rdOf ByteArray.empty t142 x33_1).toList)) := (blk_cell BK153.out 4).trans rfl
         have hfz27_0 := blk_frozen BK153.out 0
         have hfz27_1 := blk_frozen BK153.out 1
         have hfz27_2 := blk_frozen BK153.out 2
         have hfz27_3 := blk_frozen BK153.out 3
         have hfz27_4 := blk_frozen BK153.out 4
         try go_wp2_with (first | ((with_reducible refine gate_builtin (b := .append) (xs := #[.tmp 68, .tmp 70]) rfl ?_); at_builtin; refine Kd.R_append k43 (w0 := w) w.heap.size rfl (.tmp 68) (.tmp 70) 51 43 (.agg #[(.int .i64 0), (.int .i64 0), (.int .i64 0), (.int .i64 0), (.bool false)]) 40 rfl Try.underlying51 info43 rfl (by decide) (by omega) u10 x10_1 (⟨x11_1, wrap64 ((wrap64 (x11_1 + ((rdOf ByteArray.empty t138 x33_1).size : Int))) + 1), x12_1, wrap64 ((wrap64 (x12_1 + ((rdOf ByteArray.empty t142 x33_1).size : Int))) + 1), ((rdOf ByteArray.empty t138 x33_1).toList == (rdOf ByteArray.empty t142 x33_1).toList)⟩ : S43) [.int .i64 x11_1, .int .i64 (wrap64 ((wrap64 (x11_1 + ((rdOf ByteArray.empty t138 x33_1).size : Int))) + 1)), .int .i64 x12_1, .int .i64 (wrap64 ((wrap64 (x12_1 + ((rdOf ByteArray.empty t142 x33_1).size : Int))) + 1)), .bool ((rdOf ByteArray.empty t138 x33_1).toList == (rdOf ByteArray.empty t142 x33_1).toList)] (fun k_ => k_ ≠ gb153) (fun _ => False) rfl rfl ?aP (fun _ hk => hk.elim) ?aF ?aO ?aB ?aS ?aL ?_; (case aP => exact k43_mkM _ _ _ (⟨x11_1, wrap64 ((wrap64 (x11_1 + ((rdOf ByteArray.empty t138 x33_1).size : Int))) + 1), x12_1, wrap64 ((wrap64 (x12_1 + ((rdOf ByteArray.empty t142 x33_1).size : Int))) + 1), ((rdOf ByteArray.empty t138 x33_1).toList == (rdOf ByteArray.empty t142 x33_1).toList)⟩ : S43)); (case aB => exact Z92); (case aF => exact (fun k_ hk => Kd.freshB (g := gb153) (o := .cells #[.int .i64 x11_1, .int .i64 (wrap64 ((wrap64 (x11_1 + ((rdOf ByteArray.empty t138 x33_1).size : Int))) + 1)), .int .i64 x12_1, .int .i64 (wrap64 ((wrap64 (x12_1 + ((rdOf ByteArray.empty t142 x33_1).size : Int))) + 1)), .bool ((rdOf ByteArray.empty t138 x33_1).toList == (rdOf ByteArray.empty t142 x33_1).toList)] 43 (0, 0)) Z25 k_ hk)); (case aO => exact Z10); (case aS => exact (below_size Z92)); (case aL => have := LMc17.out; omega); intro v155 w28 ho hb hg hat; rw [← Ny154.out] at ho; have n0_ := Aside0.mk (Kd.R_over' Z5 (Kd.R_typed Z10) (by decide) hg); have n1_ := Aside0.mk (Kd.R_over' (by (with_reducible repeat (first | apply Kd.R_alloc | apply Kd.R_drewN | apply Kd.R_drew)); exact HO_7.out) (Kd.R_typed Z10) (by decide) hg); have n2_ := Aside0.mk (blk_grown (g := gb153) (o := .cells #[.int .i64 x11_1, .int .i64 (wrap64 ((wrap64 (x11_1 + ((rdOf ByteArray.empty t138 x33_1).size : Int))) + 1)), .int .i64 x12_1, .int .i64 (wrap64 ((wrap64 (x12_1 + ((rdOf ByteArray.empty t142 x33_1).size : Int))) + 1)), .bool ((rdOf ByteArray.empty t138 x33_1).toList == (rdOf ByteArray.empty t142 x33_1).toList)] 43 (0, 0)) Z25 hg (Kd.R_away HO_10.out (fun _ hk => hk))); have n3_ := Aside0.mk (hb); have n4_ := Aside0.mk (ho); clear HO_5; clear HO_7; clear BK153; clear HB; clear HO_10; have HO_5 := n0_; have HO_7 := n1_; have BK153 := n2_; have HB := n3_; have HO156 := n4_; clear n0_ n1_ n2_ n3_ n4_; clear ho hb hg hat))
         go_roundg k1
         case measure => have := HK1.out; omega
         case rel => exact ⟨(y154), (wrap64 ((wrap64 (x11_1 + ((rdOf ByteArray.empty t138 x33_1).size : Int))) + 1)), (wrap64 ((wrap64 (x12_1 + ((rdOf ByteArray.empty t142 x33_1).size : Int))) + 1)), (wrap64 (x33_1 + 1)), Z1, Z1, Z1, H', ⟨by have := HK1.out; omega⟩, ⟨by (with_reducible repeat (first | apply Kd.R_alloc | apply Kd.R_drewN | apply Kd.R_drew)); exact HO_5.out⟩, ⟨by (with_reducible repeat (first | apply Kd.R_alloc | apply Kd.R_drewN | apply Kd.R_drew)); exact HO_7.out⟩, ⟨by (with_reducible repeat (first | apply Kd.R_alloc | apply Kd.R_drewN | apply Kd.R_drew)); exact Kd.R_mono HO156.out (fun _ hk => trivial)⟩, ⟨by repeat (first | (with_reducible first | exact HB.out | apply below_alloc | apply pw_below_drewN | apply below_drew1 | refine below_set ?_ GE153.out) | exact HB.out)⟩⟩
        ·rw [if_neg c17] at H
         exact absurd H (by simp)
       ·rw [if_neg c16] at H
        exact absurd H (by simp)
      ·rw [if_neg c15] at H
       exact absurd H (by simp)
     ·rw [if_neg c14] at H
      exact absurd H (by simp)
    ·rw [if_neg c13] at H
     have c13b0 : decide (x33_1 < ji5) = false := decide_eq_false c13
     clear c13
     obtain rfl := Option.some.inj H
     go_wp2
     go_ret
     exact ⟨_, by first | rfl | (simp [errW_none, errW_some] <;> rfl) | (simp only [← hji5]; first | rfl | (simp [errW_none, errW_some] <;> rfl)) | (simp [*, errW_none, errW_some] <;> rfl), by (with_reducible repeat (first | apply Kd.R_alloc | apply Kd.R_drewN | apply Kd.R_drew)); exact HO_10.out, by repeat (first | (with_reducible first | exact HB.out | apply below_alloc | apply pw_below_drewN | apply below_drew1) | exact HB.out)⟩
 ·rw [if_neg c6] at H
  exact absurd H (by simp)

/-! ### impl_PosPairs: function 23 -/
def impl_PosPairs.f (k : Nat) (a0 : ByteArray) (a1 : ByteArray) : Option ((List (S43))) := (impl_spansOf.f k a0 a1).bind fun t157 => (some t157)
theorem impl_PosPairs.mono : ∀ a0 a1 k, LeO (impl_PosPairs.f k a0 a1) (impl_PosPairs.f (k + 1) a0 a1) := by
 intro a0 a1 k
 unfold impl_PosPairs.f
 repeat' first
   | (with_reducible exact impl_spansOf.mono _ _ _)
   | (with_reducible exact LeO.refl _)
   | (with_reducible exact LeO.none _)
   | (with_reducible refine LeO.ite ?_ ?_)
   | (with_reducible refine LeO.bind ?_ (fun _ => ?_))
   | exact impl_spansOf.mono _ _ _
   | exact LeO.none _
   | refine LeO.ite ?_ ?_
   | refine LeO.bind ?_ (fun _ => ?_)
set_option maxHeartbeats 8000000 in
set_option maxRecDepth 100000 in
theorem impl_PosPairs.calls (k : Nat) (a0 : ByteArray) (a1 : ByteArray) (r : List (S43)) (w : World) (h : impl_PosPairs.f k a0 a1 = some r) :
  Calls Try.prog 23 #[.string a0, .string a1] w fun e w' => ∃ v0_ : Value, e = .returned (v0_) ∧ Kd.R k43 43 w' w.heap.size (fun _ => True) v0_ r ∧ Below w.heap.size w w' := by
 have HB := Aside0.mk (Below.refl w.heap.size w)
 have H : ((impl_spansOf.f k a0 a1).bind fun t157 => (some t157)) = some r := h
 clear h
 replace H := Option.bind_eq_some_iff.mp H
 obtain ⟨t157, A30, H⟩ := H
 replace H : (some t157) = some r := H
 have A3 := Aside0.mk A30
 clear A30
 obtain rfl := Option.some.inj H
 go_enter Try.func23, Try.ntmps23
 go_wp2_with (first | ((with_reducible refine gate_callee (f := 42) rfl ?_); refine goesL_ (some 7) rfl rfl Try.func42 (by kernel_rfl) rfl #[.string a0, .string a1] rfl Z84 ?_; (with_reducible refine (impl_spansOf.calls k a0 a1 t157 _ A3.out).mono ?_); rintro e w4 ⟨v158, rfl, ho0, hb⟩; refine ⟨_, rfl, ?_⟩; have n0_ := Aside0.mk (Kd.R_lower ho0 (below_size Z80)); have n1_ := Aside0.mk (below_step Z80 hb); clear HB; have HO159 := n0_; have HB := n1_; clear n0_ n1_; (try clear hb); (try clear ho0)))
 go_ret
 exact ⟨_, by first | rfl | (simp [errW_none, errW_some] <;> rfl) | (simp [*, errW_none, errW_some] <;> rfl), by (with_reducible repeat (first | apply Kd.R_alloc | apply Kd.R_drewN | apply Kd.R_drew)); exact HO159.out, by repeat (first | (with_reducible first | exact HB.out | apply below_alloc | apply pw_below_drewN | apply below_drew1) | exact HB.out)⟩

/-! ### spec_l2Byte: function 59 -/
def spec_l2Byte.f (a0 : Int) : Option (Bool) := if a0 ≥ 97 then (if a0 ≤ 122 then (some true) else (if a0 ≥ 48 then (if a0 ≤ 57 then (some true) else (some (a0 == 32))) else (some (a0 == 32)))) else (if a0 ≥ 48 then (if a0 ≤ 57 then (some true) else (some (a0 == 32))) else (some (a0 == 32)))
set_option maxHeartbeats 8000000 in
set_option maxRecDepth 100000 in
theorem spec_l2Byte.calls (a0 : Int) (r : Bool) (w : World) (h : spec_l2Byte.f a0 = some r) :
  Calls Try.prog 59 #[.int .u8 a0] w fun e w' => e = .returned (.bool r) ∧ Drawn0 w w' := by
 have H : (if a0 ≥ 97 then (if a0 ≤ 122 then (some true) else (if a0 ≥ 48 then (if a0 ≤ 57 then (some true) else (some (a0 == 32))) else (some (a0 == 32)))) else (if a0 ≥ 48 then (if a0 ≤ 57 then (some true) else (some (a0 == 32))) else (some (a0 == 32)))) = some r := h
 clear h
 by_cases c2 : a0 ≥ 97
 ·rw [if_pos c2] at H
  have c2b0 : decide (97 ≤ a0) = true := decide_eq_true c2
  clear c2
  by_cases c3 : a0 ≤ 122
  ·rw [if_pos c3] at H
   have c3b0 : decide (a0 ≤ 122) = true := decide_eq_true c3
   clear c3
   obtain rfl := Option.some.inj H
   go_enter Try.func59, Try.ntmps59
   go_wp2
   go_ret
   exact ⟨by first | rfl | (simp; done) | (simp [*]; done), by repeat (first | exact Drawn0.refl _ | apply Drawn0.step)⟩
  ·rw [if_neg c3] at H
   have c3b0 : decide (a0 ≤ 122) = false := decide_eq_false c3
   clear c3
   by_cases c4 : a0 ≥ 48
   ·rw [if_pos c4] at H
    have c4b0 : decide (48 ≤ a0) = true := decide_eq_true c4
    clear c4
    by_cases c5 : a0 ≤ 57
    ·rw [if_pos c5] at H
     have c5b0 : decide (a0 ≤ 57) = true := decide_eq_true c5
     clear c5
     obtain rfl := Option.some.inj H
     go_enter Try.func59, Try.ntmps59
     go_wp2
     go_ret
     exact ⟨by first | rfl | (simp; done) | (simp [*]; done), by repeat (first | exact Drawn0.refl _ | apply Drawn0.step)⟩
    ·rw [if_neg c5] at H
     have c5b0 : decide (a0 ≤ 57) = false := decide_eq_false c5
     clear c5
     obtain rfl := Option.some.inj H
     go_enter Try.func59, Try.ntmps59
     go_wp2
     go_ret
     exact ⟨by first | rfl | (simp; done) | (simp [*]; done), by repeat (first | exact Drawn0.refl _ | apply Drawn0.step)⟩
   ·rw [if_neg c4] at H
    have c4b0 : decide (48 ≤ a0) = false := decide_eq_false c4
    clear c4
    obtain rfl := Option.some.inj H
    go_enter Try.func59, Try.ntmps59
    go_wp2
    go_ret
    exact ⟨by first | rfl | (simp; done) | (simp [*]; done), by repeat (first | exact Drawn0.refl _ | apply Drawn0.step)⟩
 ·rw [if_neg c2] at H
  have c2b0 : decide (97 ≤ a0) = false := decide_eq_false c2
  clear c2
  by_cases c6 : a0 ≥ 48
  ·rw [if_pos c6] at H
   have c6b0 : decide (48 ≤ a0) = true := decide_eq_true c6
   clear c6
   by_cases c7 : a0 ≤ 57
   ·rw [if_pos c7] at H
    have c7b0 : decide (a0 ≤ 57) = true := decide_eq_true c7
    clear c7
    obtain rfl := Option.some.inj H
    go_enter Try.func59, Try.ntmps59
    go_wp2
    go_ret
    exact ⟨by first | rfl | (simp; done) | (simp [*]; done), by repeat (first | exact Drawn0.refl _ | apply Drawn0.step)⟩
   ·rw [if_neg c7] at H
    have c7b0 : decide (a0 ≤ 57) = false := decide_eq_false c7
    clear c7
    obtain rfl := Option.some.inj H
    go_enter Try.func59, Try.ntmps59
    go_wp2
    go_ret
    exact ⟨by first | rfl | (simp; done) | (simp [*]; done), by repeat (first | exact Drawn0.refl _ | apply Drawn0.step)⟩
  ·rw [if_neg c6] at H
   have c6b0 : decide (48 ≤ a0) = false := decide_eq_false c6
   clear c6
   obtain rfl := Option.some.inj H
   go_enter Try.func59, Try.ntmps59
   go_wp2
   go_ret
   exact ⟨by first | rfl | (simp; done) | (simp [*]; done), by repeat (first | exact Drawn0.refl _ | apply Drawn0.step)⟩

/-! ### spec_LinOk: function 39 -/
def spec_LinOk.l0 : Nat → ByteArray → Int → Option (Bool)
 | 0, _, _ => none
 | k + 1, x0, x3 => if x3 < (x0.size : Int) then (if 0 ≤ x3 then ((spec_l2Byte.f (bt x0 x3)).bind fun t160 => (if t160 = true then (spec_LinOk.l0 k x0 (wrap64 (x3 + 1))) else (some false))) else (none)) else (some true)
def spec_LinOk.f (k : Nat) (a0 : ByteArray) : Option (Bool) := if (a0.size : Int) > 16 then (some false) else (spec_LinOk.l0 k a0 0)
theorem spec_LinOk.mono_l : ∀ k, (∀ y0 y1, LeO (spec_LinOk.l0 k y0 y1) (spec_LinOk.l0 (k + 1) y0 y1))
 | 0 => fun _ _ r h => by simp [spec_LinOk.l0] at h
 | k + 1 => by
  have ih0 := spec_LinOk.mono_l k
  ·intro y0 y1
   unfold spec_LinOk.l0
   repeat' first
   | (with_reducible exact ih0 _ _)
   | (with_reducible exact LeO.refl _)
   | (with_reducible exact LeO.none _)
   | (with_reducible refine LeO.ite ?_ ?_)
   | (with_reducible refine LeO.bind ?_ (fun _ => ?_))
   | exact ih0 _ _
   | exact LeO.none _
   | refine LeO.ite ?_ ?_
   | refine LeO.bind ?_ (fun _ => ?_)
theorem spec_LinOk.mono : ∀ a0 k, LeO (spec_LinOk.f k a0) (spec_LinOk.f (k + 1) a0) := by
 intro a0 k
 have ih0 := spec_LinOk.mono_l k
 unfold spec_LinOk.f
 repeat' first
   | (with_reducible exact ih0 _ _)
   | (with_reducible exact LeO.refl _)
   | (with_reducible exact LeO.none _)
   | (with_reducible refine LeO.ite ?_ ?_)
   | (with_reducible refine LeO.bind ?_ (fun _ => ?_))
   | exact ih0 _ _
   | exact LeO.none _
   | refine LeO.ite ?_ ?_
   | refine LeO.bind ?_ (fun _ => ?_)
set_option maxHeartbeats 8000000 in
set_option maxRecDepth 100000 in
theorem spec_LinOk.calls (k : Nat) (a0 : ByteArray) (r : Bool) (w : World) (h : spec_LinOk.f k a0 = some r) :
  Calls Try.prog 39 #[.string a0] w fun e w' => e = .returned (.bool r) ∧ Drawn0 w w' := by
 have H : (if (a0.size : Int) > 16 then (some false) else (spec_LinOk.l0 k a0 0)) = some r := h
 clear h
 by_cases c2 : (a0.size : Int) > 16
 ·rw [if_pos c2] at H
  have c2b0 : decide (16 < (a0.size : Int)) = true := decide_eq_true c2
  have c2b1 : decide (16 < a0.size) = true := decide_eq_true (by omega)
  clear c2
  obtain rfl := Option.some.inj H
  go_enter Try.func39, Try.ntmps39
  go_wp2
  go_ret
  exact ⟨by first | rfl | (simp; done) | (simp [*]; done), by repeat (first | exact Drawn0.refl _ | apply Drawn0.step)⟩
 ·rw [if_neg c2] at H
  have c2b0 : decide (16 < (a0.size : Int)) = false := decide_eq_false c2
  have c2b1 : decide (16 < a0.size) = false := decide_eq_false (by omega)
  clear c2
  have H' := Aside0.mk H
  clear H
  go_enter Try.func39, Try.ntmps39
  go_wp2
  go_loopg [3] k (fun kq v3 w' => ∃ (x3_1 : Int), v3 = .int .i64 x3_1 ∧ Aside0 (spec_LinOk.l0 kq a0 x3_1 = some r) ∧ Aside0 (kq ≤ k) ∧ Drawn0 w w')
  case atStart => exact ⟨(0), Z1, H', ⟨Nat.le_refl _⟩, by repeat (first | exact Drawn0.refl _ | apply Drawn0.step)⟩
  case round =>
   clear H'
   try clear c2
   try clear c2b0
   try clear c2b1
   try clear p2
   obtain ⟨x3_1, rfl, HA, HK1, ⟨m1, rfl⟩⟩ := hrel
   cases gk with
   | zero => exact absurd HA.out (by simp [spec_LinOk.l0])
   | succ k1 =>
    have H := HA.out
    clear HA
    simp only [spec_LinOk.l0] at H
    by_cases c3 : x3_1 < (a0.size : Int)
    ·rw [if_pos c3] at H
     have c3b0 : decide (x3_1 < (a0.size : Int)) = true := decide_eq_true c3
     clear c3
     by_cases c4 : 0 ≤ x3_1
     ·rw [if_pos c4] at H
      have c4b0 : decide (0 ≤ x3_1) = true := decide_eq_true c4
      clear c4
      replace H := Option.bind_eq_some_iff.mp H
      obtain ⟨t160, A60, H⟩ := H
      replace H : (if t160 = true then (spec_LinOk.l0 k1 a0 (wrap64 (x3_1 + 1))) else (some false)) = some r := H
      have A6 := Aside0.mk A60
      clear A60
      by_cases c7 : t160 = true
      ·subst c7
       have H1 : (spec_LinOk.l0 k1 a0 (wrap64 (x3_1 + 1))) = some r := by rw [if_pos rfl] at H; exact H
       clear H
       have H := H1
       clear H1
       have H' := Aside0.mk H
       clear H
       have p5 : 0 ≤ (x3_1 : Int) := of_decide_eq_true Z2
       have q5 : x3_1 < (a0.size : Int) := of_decide_eq_true Z2
       have hx5 := bt_at a0 x3_1
       replace p5 := eq_true p5
       replace q5 := eq_true q5
       go_wp2_with (first | ((with_reducible refine gate_callee (f := 59) rfl ?_); refine goesL_ (some 16) rfl rfl Try.func59 (by kernel_rfl) rfl #[.int .u8 (bt a0 x3_1)] rfl Z84 ?_; (with_reducible refine (spec_l2Byte.calls (bt a0 x3_1) true _ A6.out).mono ?_); rintro e w' ⟨rfl, ⟨nd, rfl⟩⟩; refine ⟨_, rfl, ?_⟩))
       go_roundg k1
       case measure => have := HK1.out; omega
       case rel => exact ⟨(wrap64 (x3_1 + 1)), Z1, H', ⟨by have := HK1.out; omega⟩, by repeat (first | exact Drawn0.refl _ | apply Drawn0.step)⟩
      ·replace c7 := Bool.eq_false_iff.mpr c7
       subst c7
       have H1 : (some false) = some r := by rw [if_neg (show ¬ (false = true) by decide)] at H; exact H
       clear H
       have H := H1
       clear H1
       obtain rfl := Option.some.inj H
       have p5 : 0 ≤ (x3_1 : Int) := of_decide_eq_true Z2
       have q5 : x3_1 < (a0.size : Int) := of_decide_eq_true Z2
       have hx5 := bt_at a0 x3_1
       replace p5 := eq_true p5
       replace q5 := eq_true q5
       go_wp2_with (first | ((with_reducible refine gate_callee (f := 59) rfl ?_); refine goesL_ (some 16) rfl rfl Try.func59 (by kernel_rfl) rfl #[.int .u8 (bt a0 x3_1)] rfl Z84 ?_; (with_reducible refine (spec_l2Byte.calls (bt a0 x3_1) false _ A6.out).mono ?_); rintro e w' ⟨rfl, ⟨nd, rfl⟩⟩; refine ⟨_, rfl, ?_⟩))
       go_ret
       exact ⟨by first | rfl | (simp; done) | (simp [*]; done), by repeat (first | exact Drawn0.refl _ | apply Drawn0.step)⟩
     ·rw [if_neg c4] at H
      exact absurd H (by simp)
    ·rw [if_neg c3] at H
     have c3b0 : decide (x3_1 < (a0.size : Int)) = false := decide_eq_false c3
     clear c3
     obtain rfl := Option.some.inj H
     go_wp2
     go_ret
     exact ⟨by first | rfl | (simp; done) | (simp [*]; done), by repeat (first | exact Drawn0.refl _ | apply Drawn0.step)⟩

/-! ### impl_lineByte: function 47 -/
def impl_lineByte.f (a0 : Int) : Option (Bool) := if a0 ≥ 97 then (if a0 ≤ 122 then (some true) else (if a0 ≥ 48 then (if a0 ≤ 57 then (some true) else (some (a0 == 32))) else (some (a0 == 32)))) else (if a0 ≥ 48 then (if a0 ≤ 57 then (some true) else (some (a0 == 32))) else (some (a0 == 32)))
set_option maxHeartbeats 8000000 in
set_option maxRecDepth 100000 in
theorem impl_lineByte.calls (a0 : Int) (r : Bool) (w : World) (h : impl_lineByte.f a0 = some r) :
  Calls Try.prog 47 #[.int .u8 a0] w fun e w' => e = .returned (.bool r) ∧ Drawn0 w w' := by
 have H : (if a0 ≥ 97 then (if a0 ≤ 122 then (some true) else (if a0 ≥ 48 then (if a0 ≤ 57 then (some true) else (some (a0 == 32))) else (some (a0 == 32)))) else (if a0 ≥ 48 then (if a0 ≤ 57 then (some true) else (some (a0 == 32))) else (some (a0 == 32)))) = some r := h
 clear h
 by_cases c2 : a0 ≥ 97
 ·rw [if_pos c2] at H
  have c2b0 : decide (97 ≤ a0) = true := decide_eq_true c2
  clear c2
  by_cases c3 : a0 ≤ 122
  ·rw [if_pos c3] at H
   have c3b0 : decide (a0 ≤ 122) = true := decide_eq_true c3
   clear c3
   obtain rfl := Option.some.inj H
   go_enter Try.func47, Try.ntmps47
   go_wp2
   go_ret
   exact ⟨by first | rfl | (simp; done) | (simp [*]; done), by repeat (first | exact Drawn0.refl _ | apply Drawn0.step)⟩
  ·rw [if_neg c3] at H
   have c3b0 : decide (a0 ≤ 122) = false := decide_eq_false c3
   clear c3
   by_cases c4 : a0 ≥ 48
   ·rw [if_pos c4] at H
    have c4b0 : decide (48 ≤ a0) = true := decide_eq_true c4
    clear c4
    by_cases c5 : a0 ≤ 57
    ·rw [if_pos c5] at H
     have c5b0 : decide (a0 ≤ 57) = true := decide_eq_true c5
     clear c5
     obtain rfl := Option.some.inj H
     go_enter Try.func47, Try.ntmps47
     go_wp2
     go_ret
     exact ⟨by first | rfl | (simp; done) | (simp [*]; done), by repeat (first | exact Drawn0.refl _ | apply Drawn0.step)⟩
    ·rw [if_neg c5] at H
     have c5b0 : decide (a0 ≤ 57) = false := decide_eq_false c5
     clear c5
     obtain rfl := Option.some.inj H
     go_enter Try.func47, Try.ntmps47
     go_wp2
     go_ret
     exact ⟨by first | rfl | (simp; done) | (simp [*]; done), by repeat (first | exact Drawn0.refl _ | apply Drawn0.step)⟩
   ·rw [if_neg c4] at H
    have c4b0 : decide (48 ≤ a0) = false := decide_eq_false c4
    clear c4
    obtain rfl := Option.some.inj H
    go_enter Try.func47, Try.ntmps47
    go_wp2
    go_ret
    exact ⟨by first | rfl | (simp; done) | (simp [*]; done), by repeat (first | exact Drawn0.refl _ | apply Drawn0.step)⟩
 ·rw [if_neg c2] at H
  have c2b0 : decide (97 ≤ a0) = false := decide_eq_false c2
  clear c2
  by_cases c6 : a0 ≥ 48
  ·rw [if_pos c6] at H
   have c6b0 : decide (48 ≤ a0) = true := decide_eq_true c6
   clear c6
   by_cases c7 : a0 ≤ 57
   ·rw [if_pos c7] at H
    have c7b0 : decide (a0 ≤ 57) = true := decide_eq_true c7
    clear c7
    obtain rfl := Option.some.inj H
    go_enter Try.func47, Try.ntmps47
    go_wp2
    go_ret
    exact ⟨by first | rfl | (simp; done) | (simp [*]; done), by repeat (first | exact Drawn0.refl _ | apply Drawn0.step)⟩
   ·rw [if_neg c7] at H
    have c7b0 : decide (a0 ≤ 57) = false := decide_eq_false c7
    clear c7
    obtain rfl := Option.some.inj H
    go_enter Try.func47, Try.ntmps47
    go_wp2
    go_ret
    exact ⟨by first | rfl | (simp; done) | (simp [*]; done), by repeat (first | exact Drawn0.refl _ | apply Drawn0.step)⟩
  ·rw [if_neg c6] at H
   have c6b0 : decide (48 ≤ a0) = false := decide_eq_false c6
   clear c6
   obtain rfl := Option.some.inj H
   go_enter Try.func47, Try.ntmps47
   go_wp2
   go_ret
   exact ⟨by first | rfl | (simp; done) | (simp [*]; done), by repeat (first | exact Drawn0.refl _ | apply Drawn0.step)⟩

end Go.Proofs.Ytmahgffkkdggcaa.QFnPosPairs
