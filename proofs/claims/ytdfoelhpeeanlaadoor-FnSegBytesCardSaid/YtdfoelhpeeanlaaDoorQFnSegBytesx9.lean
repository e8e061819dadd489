-- Laid by a program of this repo (wip/tools/sprint.py): print.py's functions and walks; the contracts named 'BY HAND' are proved by hand.
import Derived.Test.YtdfoelhpeeanlaaDoorQFnSegBytesx6
import Derived.Test.YtdfoelhpeeanlaaDoorQFnSegBytesx4
import Derived.Test.YtdfoelhpeeanlaaDoorQFnSegBytesx2
import Derived.Test.YtdfoelhpeeanlaaDoorQFnSegBytesx1
import Derived.Test.YtdfoelhpeeanlaaDoorQFnSegBytesx0
import Derived.Test.YtdfoelhpeeanlaaDoorQFnSegBytesx3
import Derived.Test.YtdfoelhpeeanlaaDoorQFnSegBytesx5
import Derived.Test.YtdfoelhpeeanlaaDoorQFnSegBytesx7
import Derived.Test.YtdfoelhpeeanlaaDoorQFnSegBytesx8
namespace Go.Proofs.YtdfoelhpeeanlaaDoor.QFnSegBytes
open Go.RowKit Go.Proofs.YtdfoelhpeeanlaaDoorW.PrintWords Go.Proofs.YtdfoelhpeeanlaaDoorW.PrintLast Go.Proofs.YtdfoelhpeeanlaaDoorW.PrintMore
attribute [local go_sem] max2_int min2_int max_two min_two max_three min_three max_four min_four   -- for this text's walks alone
set_option linter.unusedVariables false
set_option linter.unusedSimpArgs false

/-! ### spec_DrawSegRead: function 21 -/
def spec_DrawSegRead.f (k : Nat) (l0 : List Int) : Option (List Int) := (spec_l20Open.f l0).bind fun bt424 => ((spec_l20Seg.f k bt424.1 bt424.2 99999).bind fun bt427 => ((spec_SegBytes.f k bt427.1 bt427.2.1 bt427.2.2.1 bt427.2.2.2.1 bt427.2.2.2.2.1 bt427.2.2.2.2.2.1 bt427.2.2.2.2.2.2.1).bind fun t435 => ((spec_l20Rd_pick.f k bt424.1 bt427.2.2.2.2.2.2.2 4).bind fun bt438 => (if bt438.1 = 0 then ((spec_l20Turn.f k bt424.1 bt438.2 t435).bind fun bt440 => (some bt440.1)) else (if bt438.1 = 1 then ((spec_l20Turn.f k bt424.1 bt438.2 t435).bind fun bt444 => (if (bt444.1.length : Int) > 2 then (if 0 ≤ (wrap64 ((bt444.1.length : Int) - 2)) then (if (wrap64 ((bt444.1.length : Int) - 2)) ≤ (bt444.1.length : Int) then ((spec_SegSum.f k (bt444.1.take ((wrap64 ((bt444.1.length : Int) - 2)) : Int).toNat)).bind fun t456 => ((spec_l5Put.f (bt444.1.take ((wrap64 ((bt444.1.length : Int) - 2)) : Int).toNat) t456).bind fun t457 => (some t457))) else (none)) else (none)) else (some bt444.1))) else (some t435))))))
theorem spec_DrawSegRead.mono : ∀ a0 k, LeO (spec_DrawSegRead.f k a0) (spec_DrawSegRead.f (k + 1) a0) := by
 intro a0 k
 unfold spec_DrawSegRead.f
 repeat' first
   | (with_reducible exact spec_SegBytes.mono _ _ _ _ _ _ _ _)
   | (with_reducible exact spec_SegSum.mono _ _)
   | (with_reducible exact spec_l20Rd_pick.mono _ _ _ _)
   | (with_reducible exact spec_l20Seg.mono _ _ _ _)
   | (with_reducible exact spec_l20Turn.mono _ _ _ _)
   | (with_reducible exact LeO.refl _)
   | (with_reducible exact LeO.none _)
   | (with_reducible refine LeO.ite ?_ ?_)
   | (with_reducible refine LeO.bind ?_ (fun _ => ?_))
   | exact spec_SegBytes.mono _ _ _ _ _ _ _ _
   | exact spec_SegSum.mono _ _
   | exact spec_l20Rd_pick.mono _ _ _ _
   | exact spec_l20Seg.mono _ _ _ _
   | exact spec_l20Turn.mono _ _ _ _
   | exact LeO.none _
   | refine LeO.ite ?_ ?_
   | refine LeO.bind ?_ (fun _ => ?_)
def spec_DrawSegRead.T9 : Bool × List (List Nat × List Nat) := (true, [([], []), ([], []), ([1], [1]), ([2], [2]), ([0, 3], [0, 3]), ([], []), ([], []), ([6], [6]), ([7], [7]), ([5, 8], [5, 8]), ([9], [9]), ([4, 10, 10], [4, 10]), ([11, 11, 0, 1, 2, 3, 4, 5, 6, 7, 8, 9, 10, 11], [11])])
def spec_DrawSegRead.B9 : List Nat := [0, 0, 2, 6, 15, 0, 0, 64, 192, 480, 992, 2047, 4095]
theorem spec_DrawSegRead.tab9 : rtab .any (opsOf Tryd.f21 9) = spec_DrawSegRead.T9 := by kernel_rfl
theorem spec_DrawSegRead.bits9 : waitsOk spec_DrawSegRead.T9.2 spec_DrawSegRead.B9 = true := by kernel_rfl
set_option maxHeartbeats 8000000 in
set_option maxRecDepth 100000 in
theorem spec_DrawSegRead.calls (k : Nat) (A0 : Option Addr) (c0 : Nat) (l0 : List Int) (r : List Int) (w : World) (hr0 : Kd.C (Kd.int .u8) w A0 l0.length l0) (hc0 : l0.length ≤ c0) (h : spec_DrawSegRead.f k l0 = some r) :
  Calls Tryd.prog 21 #[.slice A0 l0.length c0] w fun e w' => ∃ v0_ : Value, e = .returned (v0_) ∧ Kd.R (Kd.int .u8) 5 w' w.heap.size (fun _ => True) v0_ r ∧ Below w.heap.size w w' := by
 have HR0 := Aside0.mk hr0
 have HC0 := Aside0.mk hc0
 clear hr0 hc0
 have HB := Aside0.mk (Below.refl w.heap.size w)
 have H : ((spec_l20Open.f l0).bind fun bt424 => ((spec_l20Seg.f k bt424.1 bt424.2 99999).bind fun bt427 => ((spec_SegBytes.f k bt427.1 bt427.2.1 bt427.2.2.1 bt427.2.2.2.1 bt427.2.2.2.2.1 bt427.2.2.2.2.2.1 bt427.2.2.2.2.2.2.1).bind fun t435 => ((spec_l20Rd_pick.f k bt424.1 bt427.2.2.2.2.2.2.2 4).bind fun bt438 => (if bt438.1 = 0 then ((spec_l20Turn.f k bt424.1 bt438.2 t435).bind fun bt440 => (some bt440.1)) else (if bt438.1 = 1 then ((spec_l20Turn.f k bt424.1 bt438.2 t435).bind fun bt444 => (if (bt444.1.length : Int) > 2 then (if 0 ≤ (wrap64 ((bt444.1.length : Int) - 2)) then (if (wrap64 ((bt444.1.length : Int) - 2)) ≤ (bt444.1.length : Int) then ((spec_SegSum.f k (bt444.1.take ((wrap64 ((bt444.1.length : Int) - 2)) : Int).toNat)).bind fun t456 => ((spec_l5Put.f (bt444.1.take ((wrap64 ((bt444.1.length : Int) - 2)) : Int).toNat) t456).bind fun t457 => (some t457))) else (none)) else (none)) else (some bt444.1))) else (some t435))))))) = some r := h
 clear h
 replace H := Option.bind_eq_some_iff.mp H
 obtain ⟨⟨t424, t425⟩, A20, H⟩ := H
 replace H : ((spec_l20Seg.f k t424 t425 99999).bind fun bt427 => ((spec_SegBytes.f k bt427.1 bt427.2.1 bt427.2.2.1 bt427.2.2.2.1 bt427.2.2.2.2.1 bt427.2.2.2.2.2.1 bt427.2.2.2.2.2.2.1).bind fun t435 => ((spec_l20Rd_pick.f k t424 bt427.2.2.2.2.2.2.2 4).bind fun bt438 => (if bt438.1 = 0 then ((spec_l20Turn.f k t424 bt438.2 t435).bind fun bt440 => (some bt440.1)) else (if bt438.1 = 1 then ((spec_l20Turn.f k t424 bt438.2 t435).bind fun bt444 => (if (bt444.1.length : Int) > 2 then (if 0 ≤ (wrap64 ((bt444.1.length : Int) - 2)) then (if (wrap64 ((bt444.1.length : Int) - 2)) ≤ (bt444.1.length : Int) then ((spec_SegSum.f k (bt444.1.take ((wrap64 ((bt444.1.length : Int) - 2)) : Int).toNat)).bind fun t456 => ((spec_l5Put.f (bt444.1.take ((wrap64 ((bt444.1.length : Int) - 2)) : Int).toNat) t456).bind fun t457 => (some t457))) else (none)) else (none)) else (some bt444.1))) else (some t435)))))) = some r := H
 have A2 := Aside0.mk A20
 clear A20
 replace H := Option.bind_eq_some_iff.mp H
 obtain ⟨⟨t427, t428, t429, t430, t431, t432, t433, t434⟩, A30, H⟩ := H
 replace H : ((spec_SegBytes.f k t427 t428 t429 t430 t431 t432 t433).bind fun t435 => ((spec_l20Rd_pick.f k t424 t434 4).bind fun bt438 => (if bt438.1 = 0 then ((spec_l20Turn.f k t424 bt438.2 t435).bind fun bt440 => (some bt440.1)) else (if bt438.1 = 1 then ((spec_l20Turn.f k t424 bt438.2 t435).bind fun bt444 => (if (bt444.1.length : Int) > 2 then (if 0 ≤ (wrap64 ((bt444.1.length : Int) - 2)) then (if (wrap64 ((bt444.1.length : Int) - 2)) ≤ (bt444.1.length : Int) then ((spec_SegSum.f k (bt444.1.take ((wrap64 ((bt444.1.length : Int) - 2)) : Int).toNat)).bind fun t456 => ((spec_l5Put.f (bt444.1.take ((wrap64 ((bt444.1.length : Int) - 2)) : Int).toNat) t456).bind fun t457 => (some t457))) else (none)) else (none)) else (some bt444.1))) else (some t435))))) = some r := H
 have A3 := Aside0.mk A30
 clear A30
 replace H := Option.bind_eq_some_iff.mp H
 obtain ⟨t435, A40, H⟩ := H
 replace H : ((spec_l20Rd_pick.f k t424 t434 4).bind fun bt438 => (if bt438.1 = 0 then ((spec_l20Turn.f k t424 bt438.2 t435).bind fun bt440 => (some bt440.1)) else (if bt438.1 = 1 then ((spec_l20Turn.f k t424 bt438.2 t435).bind fun bt444 => (if (bt444.1.length : Int) > 2 then (if 0 ≤ (wrap64 ((bt444.1.length : Int) - 2)) then (if (wrap64 ((bt444.1.length : Int) - 2)) ≤ (bt444.1.length : Int) then ((spec_SegSum.f k (bt444.1.take ((wrap64 ((bt444.1.length : Int) - 2)) : Int).toNat)).bind fun t456 => ((spec_l5Put.f (bt444.1.take ((wrap64 ((bt444.1.length : Int) - 2)) : Int).toNat) t456).bind fun t457 => (some t457))) else (none)) else (none)) else (some bt444.1))) else (some t435)))) = some r := H
 have A4 := Aside0.mk A40
 clear A40
 replace H := Option.bind_eq_some_iff.mp H
 obtain ⟨⟨t438, t439⟩, A50, H⟩ := H
 replace H : (if t438 = 0 then ((spec_l20Turn.f k t424 t439 t435).bind fun bt440 => (some bt440.1)) else (if t438 = 1 then ((spec_l20Turn.f k t424 t439 t435).bind fun bt444 => (if (bt444.1.length : Int) > 2 then (if 0 ≤ (wrap64 ((bt444.1.length : Int) - 2)) then (if (wrap64 ((bt444.1.length : Int) - 2)) ≤ (bt444.1.length : Int) then ((spec_SegSum.f k (bt444.1.take ((wrap64 ((bt444.1.length : Int) - 2)) : Int).toNat)).bind fun t456 => ((spec_l5Put.f (bt444.1.take ((wrap64 ((bt444.1.length : Int) - 2)) : Int).toNat) t456).bind fun t457 => (some t457))) else (none)) else (none)) else (some bt444.1))) else (some t435))) = some r := H
 have A5 := Aside0.mk A50
 clear A50
 by_cases c6 : t438 = 0
 ·rw [if_pos c6] at H
  have c6b0 : (t438 == 0) = true := beq_iff_eq.mpr c6
  have c6b1 : (t438 != 0) = false := bne_eq_false_iff_eq.mpr c6
  clear c6
  replace H := Option.bind_eq_some_iff.mp H
  obtain ⟨⟨t440, t443⟩, A70, H⟩ := H
  replace H : (some t440) = some r := H
  have A7 := Aside0.mk A70
  clear A70
  obtain rfl := Option.some.inj H
  go_enter Tryd.func21, Tryd.ntmps21
  go_wp2_with (first | ((with_reducible refine gate_callee (f := 27) rfl ?_); refine goesL_ (some 7) rfl rfl Tryd.func27 (by kernel_rfl) rfl #[.slice A0 l0.length c0] rfl Z44 ?_; (with_reducible refine (spec_l20Open.calls _ _ l0 t424 t425 w _ ?side1 ?side2 ?side3 A2.out).mono ?_); (case side1 => exact Z41); (case side2 => exact HR0.out); (case side3 => exact HC0.out); rintro e w8 ⟨g426, rfl, hi, hb, hb2⟩; refine ⟨_, rfl, ?_⟩; have n0_ := Aside0.mk (hb); have n1_ := Aside0.mk (hi); clear HB; have HB := n0_; have HI426 := n1_; clear n0_ n1_; (try clear hb); (try clear hb2); (try clear hi)) | ((with_reducible refine gate_callee (f := 26) rfl ?_); refine goesL_ (some 9) rfl rfl Tryd.func26 (by kernel_rfl) rfl #[.pointer (some ⟨g426, 0, none⟩), .int .i64 99999] rfl Z44 ?_; (with_reducible refine (spec_l20Seg.calls k g426 t424 t425 99999 t427 t428 t429 t430 t431 t432 t433 t434 w _ ?side1 ?side2 A3.out).mono ?_); (case side1 => exact Z49); (case side2 => exact Z68); rintro e w9 ⟨rfl, hi, hb, hk⟩; refine ⟨_, rfl, ?_⟩; have n0_ := Aside0.mk (hb); have n1_ := Aside0.mk (hi); clear HB; clear HI426; have HB := n0_; have HI426 := n1_; clear n0_ n1_; (try clear hb); (try clear hk); (try clear hi)) | ((with_reducible refine gate_callee (f := 15) rfl ?_); refine goesL_ (some 10) rfl rfl Tryd.func15 (by kernel_rfl) rfl #[.agg #[.int .i64 t427, .int .i64 t428, .int .i64 t429, .int .i64 t430, .int .i64 t431, .int .i64 t432, .string t433]] rfl Z44 ?_; (with_reducible refine (spec_SegBytes.calls k t427 t428 t429 t430 t431 t432 t433 t435 _ A4.out).mono ?_); rintro e w10 ⟨v436, rfl, ho0, hb⟩; refine ⟨_, rfl, ?_⟩; have n0_ := Aside0.mk (Kd.R_lower ho0 (below_size Z69)); have n1_ := Aside0.mk (IsS64.below Z50 hb); have n2_ := Aside0.mk (below_step Z69 hb); clear HI426; clear HB; have HO437 := n0_; have HI426 := n1_; have HB := n2_; clear n0_ n1_ n2_; (try clear hb); (try clear ho0)) | ((with_reducible refine gate_callee (f := 38) rfl ?_); refine goesL_ (some 12) rfl rfl Tryd.func38 (by kernel_rfl) rfl #[.pointer (some ⟨g426, 0, none⟩), .int .i64 4] rfl Z44 ?_; (with_reducible refine (spec_l20Rd_pick.calls k g426 t424 t434 4 t438 t439 w _ ?side1 ?side2 A5.out).mono ?_); (case side1 => exact Z49); (case side2 => exact Z68); rintro e w11 ⟨rfl, hi, hb, hk⟩; refine ⟨_, rfl, ?_⟩; have n0_ := Aside0.mk (Kd.R_mono (Kd.R_keep (IsS64.apart (show IsS64 w _ g426 t424 t434 from by repeat (first | (with_reducible first | exact HI426.out | apply IsS64.alloc | apply IsS64.drewN | apply IsS64.drew | apply IsS64.set_1) | exact HI426.out)) Z17 (by decide)) hk (fun _ h => h.2)) (fun _ h => h.1)); have n1_ := Aside0.mk (hb); have n2_ := Aside0.mk (hi); clear HO437; clear HB; clear HI426; have HO437 := n0_; have HB := n1_; have HI426 := n2_; clear n0_ n1_ n2_; (try clear hb); (try clear hk); (try clear hi); obtain ⟨Ao12, co12, eo12⟩ := Kd.R_slice HO437.out; subst eo12) | ((with_reducible refine gate_callee (f := 39) rfl ?_); refine goesL_ (some 17) rfl rfl Tryd.func39 (by kernel_rfl) rfl #[.pointer (some ⟨g426, 0, none⟩), .slice Ao12 t435.length co12] rfl Z44 ?_; (with_reducible refine (spec_l20Turn.calls k g426 t424 t439 _ _ t435 t440 t443 w _ ?side1 ?side2 ?side3 ?side4 ?side5 A7.out).mono ?_); (case side1 => exact Z49); (case side2 => exact Z68); (case side3 => exact Z63); (case side4 => exact (Kd.R_reads' HO437.out).2.1); (case side5 => exact far_slice (IsS64.own_ne HI426.out HO437.out (by decide))); rintro e w13 ⟨v441, rfl, ho0, hi, hb, hk⟩; refine ⟨_, rfl, ?_⟩; have n0_ := Aside0.mk (Kd.R_mono (Kd.R_told (Kd.R_oldK (IsS64.apart (show IsS64 w _ g426 t424 t439 from by repeat (first | (with_reducible first | exact HI426.out | apply IsS64.alloc | apply IsS64.drewN | apply IsS64.drew | apply IsS64.set_1) | exact HI426.out)) Z17 (by decide)) hk) (Kd.R_base ho0)) (fun _ h_ => h_.1)); have n1_ := Aside0.mk (Kd.R_lower (Kd.R_new' ho0 (Kd.R_lt Z17)) (below_size Z69)); have n2_ := Aside0.mk (hb); have n3_ := Aside0.mk (hi); clear HO437; clear HB; clear HI426; have HO437 := n0_; have HO442 := n1_; have HB := n2_; have HI426 := n3_; clear n0_ n1_ n2_ n3_; (try clear hb); (try clear hk); (try clear hi); (try clear ho0)))
  go_ret
  exact ⟨_, by first | rfl | (simp [errW_none, errW_some] <;> rfl) | (simp [*, errW_none, errW_some] <;> rfl), by (with_reducible repeat (first | apply Kd.R_alloc | apply Kd.R_drewN | apply Kd.R_drew)); exact Kd.R_mono HO442.out (fun _ hk => trivial), by repeat (first | (with_reducible first | exact HB.out | apply below_alloc | apply pw_below_drewN | apply below_drew1 | refine below_set ?_ (IsS64.ge HI426.out)) | exact HB.out)⟩
 ·rw [if_neg c6] at H
  have c6b0 : (t438 == 0) = false := beq_eq_false_iff_ne.mpr c6
  have c6b1 : (t438 != 0) = true := bne_iff_ne.mpr c6
  by_cases c14 : t438 = 1
  ·rw [if_pos c14] at H
   have c14b0 : (t438 == 1) = true := beq_iff_eq.mpr c14
   have c14b1 : (t438 != 1) = false := bne_eq_false_iff_eq.mpr c14
   clear c14
   replace H := Option.bind_eq_some_iff.mp H
   obtain ⟨⟨t444, t447⟩, A150, H⟩ := H
   replace H : (if (t444.length : Int) > 2 then (if 0 ≤ (wrap64 ((t444.length : Int) - 2)) then (if (wrap64 ((t444.length : Int) - 2)) ≤ (t444.length : Int) then ((spec_SegSum.f k (t444.take ((wrap64 ((t444.length : Int) - 2)) : Int).toNat)).bind fun t456 => ((spec_l5Put.f (t444.take ((wrap64 ((t444.length : Int) - 2)) : Int).toNat) t456).bind fun t457 => (some t457))) else (none)) else (none)) else (some t444)) = some r := H
   have A15 := Aside0.mk A150
   clear A150
   by_cases c16 : (t444.length : Int) > 2
   ·rw [if_pos c16] at H
    have c16b0 : decide (2 < (t444.length : Int)) = true := decide_eq_true c16
    have c16b1 : decide (2 < t444.length) = true := decide_eq_true (by omega)
    clear c16
    obtain ⟨ji17, hji17⟩ : ∃ j_ : Int, (wrap64 ((t444.length : Int) - 2)) = j_ := ⟨_, rfl⟩
    replace H : (if 0 ≤ (ji17) then (if (ji17) ≤ (t444.length : Int) then ((spec_SegSum.f k (t444.take ((ji17) : Int).toNat)).bind fun t456 => ((spec_l5Put.f (t444.take ((ji17) : Int).toNat) t456).bind fun t457 => (some t457))) else (none)) else (none)) = some r := by first | (rw [hji17] at H; exact H) | (simp only [hji17] at H ⊢; exact H)
    (try rw [hji17] at A2)
    (try rw [hji17] at A3)
    (try rw [hji17] at A4)
    (try rw [hji17] at A5)
    (try rw [hji17] at A15)
    have hji17w : (IntKind.i64.wrap ((t444.length : Int) - 2)) = ji17 := (i64_w _).trans hji17
    by_cases c18 : 0 ≤ (ji17)
    ·rw [if_pos c18] at H
     have c18b0 := eq_true c18
     have c18b1 : decide (0 ≤ (ji17)) = true := decide_eq_true c18
     clear c18
     by_cases c19 : (ji17) ≤ (t444.length : Int)
     ·rw [if_pos c19] at H
      have c19b0 := eq_true c19
      have c19b1 : decide ((ji17) ≤ (t444.length : Int)) = true := decide_eq_true c19
      clear c19
      obtain ⟨y448, hy448⟩ : ∃ y_ : List Int, y_ = (t444.take ((ji17) : Int).toNat) := ⟨_, rfl⟩
      replace H : ((spec_SegSum.f k (t444.take ((ji17) : Int).toNat)).bind fun t456 => ((spec_l5Put.f y448 t456).bind fun t457 => (some t457))) = some r := by first | (rw [hy448]; with_reducible exact H) | (have H2_ := (Option.bind_some _ _).symm.trans H; rw [hy448]; with_reducible exact H2_) | (have H2_ := (Option.bind_some _ _).symm.trans H; with_reducible exact H2_) | with_reducible exact H | (rw [hy448]; exact H) | exact H
      have Ny448 := Aside0.mk hy448
      clear hy448
      have c20b0 := eq_true (of_decide_eq_true Z2 : 0 ≤ (ji17))
      have c21b0 := eq_true (of_decide_eq_true Z2 : (ji17) ≤ (t444.length : Int))
      obtain ⟨y452, hy452⟩ : ∃ y_ : List Int, y_ = (t444.take ((ji17) : Int).toNat) := ⟨_, rfl⟩
      replace H : ((spec_SegSum.f k y452).bind fun t456 => ((spec_l5Put.f y448 t456).bind fun t457 => (some t457))) = some r := by first | (rw [hy452]; with_reducible exact H) | (have H2_ := (Option.bind_some _ _).symm.trans H; rw [hy452]; with_reducible exact H2_) | (have H2_ := (Option.bind_some _ _).symm.trans H; with_reducible exact H2_) | with_reducible exact H | (rw [hy452]; exact H) | exact H
      have Ny452 := Aside0.mk hy452
      clear hy452
      replace H := Option.bind_eq_some_iff.mp H
      obtain ⟨t456, A220, H⟩ := H
      replace H : ((spec_l5Put.f y448 t456).bind fun t457 => (some t457)) = some r := H
      have A22 := Aside0.mk A220
      clear A220
      replace H := Option.bind_eq_some_iff.mp H
      obtain ⟨t457, A230, H⟩ := H
      replace H : (some t457) = some r := H
      have A23 := Aside0.mk A230
      clear A230
      obtain rfl := Option.some.inj H
      go_enter Tryd.func21, Tryd.ntmps21
      try go_wp2_with (first | ((with_reducible refine gate_callee (f := 27) rfl ?_); refine goesL_ (some 7) rfl rfl Tryd.func27 (by kernel_rfl) rfl #[.slice A0 l0.length c0] rfl Z44 ?_; (with_reducible refine (spec_l20Open.calls _ _ l0 t424 t425 w _ ?side1 ?side2 ?side3 A2.out).mono ?_); (case side1 => exact Z41); (case side2 => exact HR0.out); (case side3 => exact HC0.out); rintro e w24 ⟨g426, rfl, hi, hb, hb2⟩; refine ⟨_, rfl, ?_⟩; have n0_ := Aside0.mk (hb); have n1_ := Aside0.mk (hi); clear HB; have HB := n0_; have HI426 := n1_; clear n0_ n1_; (try clear hb); (try clear hb2); (try clear hi)) | ((with_reducible refine gate_callee (f := 26) rfl ?_); refine goesL_ (some 9) rfl rfl Tryd.func26 (by kernel_rfl) rfl #[.pointer (some ⟨g426, 0, none⟩), .int .i64 99999] rfl Z44 ?_; (with_reducible refine (spec_l20Seg.calls k g426 t424 t425 99999 t427 t428 t429 t430 t431 t432 t433 t434 w _ ?side1 ?side2 A3.out).mono ?_); (case side1 => exact Z49); (case side2 => exact Z68); rintro e w25 ⟨rfl, hi, hb, hk⟩; refine ⟨_, rfl, ?_⟩; have n0_ := Aside0.mk (hb); have n1_ := Aside0.mk (hi); clear HB; clear HI426; have HB := n0_; have HI426 := n1_; clear n0_ n1_; (try clear hb); (try clear hk); (try clear hi)) | ((with_reducible refine gate_callee (f := 15) rfl ?_); refine goesL_ (some 10) rfl rfl Tryd.func15 (by kernel_rfl) rfl #[.agg #[.int .i64 t427, .int .i64 t428, .int .i64 t429, .int .i64 t430, .int .i64 t431, .int .i64 t432, .string t433]] rfl Z44 ?_; (with_reducible refine (spec_SegBytes.calls k t427 t428 t429 t430 t431 t432 t433 t435 _ A4.out).mono ?_); rintro e w26 ⟨v436, rfl, ho0, hb⟩; refine ⟨_, rfl, ?_⟩; have n0_ := Aside0.mk (Kd.R_lower ho0 (below_size Z69)); have n1_ := Aside0.mk (IsS64.below Z50 hb); have n2_ := Aside0.mk (below_step Z69 hb); clear HI426; clear HB; have HO437 := n0_; have HI426 := n1_; have HB := n2_; clear n0_ n1_ n2_; (try clear hb); (try clear ho0)) | ((with_reducible refine gate_callee (f := 38) rfl ?_); refine goesL_ (some 12) rfl rfl Tryd.func38 (by kernel_rfl) rfl #[.pointer (some ⟨g426, 0, none⟩), .int .i64 4] rfl Z44 ?_; (with_reducible refine (spec_l20Rd_pick.calls k g426 t424 t434 4 t438 t439 w _ ?side1 ?side2 A5.out).mono ?_); (case side1 => exact Z49); (case side2 => exact Z68); rintro e w27 ⟨rfl, hi, hb, hk⟩; refine ⟨_, rfl, ?_⟩; have n0_ := Aside0.mk (Kd.R_mono (Kd.R_keep (IsS64.apart (show IsS64 w _ g426 t424 t434 from by repeat (first | (with_reducible first | exact HI426.out | apply IsS64.alloc | apply IsS64.drewN | apply IsS64.drew | apply IsS64.set_1) | exact HI426.out)) Z17 (by decide)) hk (fun _ h => h.2)) (fun _ h => h.1)); have n1_ := Aside0.mk (hb); have n2_ := Aside0.mk (hi); clear HO437; clear HB; clear HI426; have HO437 := n0_; have HB := n1_; have HI426 := n2_; clear n0_ n1_ n2_; (try clear hb); (try clear hk); (try clear hi); obtain ⟨Ao28, co28, eo28⟩ := Kd.R_slice HO437.out; subst eo28) | ((with_reducible refine gate_callee (f := 39) rfl ?_); refine goesL_ (some 22) rfl rfl Tryd.func39 (by kernel_rfl) rfl #[.pointer (some ⟨g426, 0, none⟩), .slice Ao28 t435.length co28] rfl Z44 ?_; (with_reducible refine (spec_l20Turn.calls k g426 t424 t439 _ _ t435 t444 t447 w _ ?side1 ?side2 ?side3 ?side4 ?side5 A15.out).mono ?_); (case side1 => exact Z49); (case side2 => exact Z68); (case side3 => exact Z63); (case side4 => exact (Kd.R_reads' HO437.out).2.1); (case side5 => exact far_slice (IsS64.own_ne HI426.out HO437.out (by decide))); rintro e w29 ⟨v445, rfl, ho0, hi, hb, hk⟩; refine ⟨_, rfl, ?_⟩; have n0_ := Aside0.mk (Kd.R_mono (Kd.R_told (Kd.R_oldK (IsS64.apart (show IsS64 w _ g426 t424 t439 from by repeat (first | (with_reducible first | exact HI426.out | apply IsS64.alloc | apply IsS64.drewN | apply IsS64.drew | apply IsS64.set_1) | exact HI426.out)) Z17 (by decide)) hk) (Kd.R_base ho0)) (fun _ h_ => h_.1)); have n1_ := Aside0.mk (Kd.R_lower (Kd.R_new' ho0 (Kd.R_lt Z17)) (below_size Z69)); have n2_ := Aside0.mk (hb); have n3_ := Aside0.mk (hi); clear HO437; clear HB; clear HI426; have HO437 := n0_; have HO446 := n1_; have HB := n2_; have HI426 := n3_; clear n0_ n1_ n2_ n3_; (try clear hb); (try clear hk); (try clear hi); (try clear ho0); obtain ⟨Ao30, co30, eo30⟩ := Kd.R_slice HO446.out; subst eo30))
      have n0_ := Aside0.mk (Kd.R_drew HO437.out)
      have n1_ := Aside0.mk (Kd.R_drew HO446.out)
      have n2_ := Aside0.mk (IsS64.drew HI426.out)
      have n3_ := Aside0.mk (below_drew1 HB.out)
      clear HO437
      clear HO446
      clear HI426
      clear HB
      have HO437 := n0_
      have HO446 := n1_
      have HI426 := n2_
      have HB := n3_
      clear n0_ n1_ n2_ n3_
      have q32 : ((ji17) : Int) ≤ ((t444.length : Int) : Int) := of_decide_eq_true Z2
      obtain ⟨i032, hi032, _, hsz32, _⟩ := info_parts info5
      have hroom32 : t444.length ≤ co30 := (Kd.R_reads' HO446.out).2.1
      have hC32 : Kd.C (Kd.int .u8) _ Ao30 t444.length t444 := (Kd.R_reads' HO446.out).2.2
      have hcut32 := cut_to (P := Tryd.prog) 22 5 .i64 Tryd.underlying22 hi032 Ao30 t444.length co30 (ji17) (of_decide_eq_true Z2) q32 hroom32
      have hr32 := Kd.C_take (m := ((ji17) : Int).toNat) hC32 (by omega)
      have hy32 : y448.length = ((ji17) : Int).toNat := (by rw [Ny448.out, List.length_take]; omega)
      rw [← Ny448.out] at hr32
      rw [← hy32] at hcut32
      have HR451 := Aside0.mk hr32
      have HC451 := Aside0.mk (show y448.length ≤ co30 from by omega)
      clear hr32 hC32 hroom32 hi032 hsz32
      have KY32 := Aside0.mk hy32
      clear hy32
      have KL32 := Aside0.mk (show ((ji17) : Int).toNat ≤ t444.length from by omega)
      replace q32 := eq_true q32
      have q33 : ((ji17) : Int) ≤ ((t444.length : Int) : Int) := of_decide_eq_true Z2
      obtain ⟨i033, hi033, _, hsz33, _⟩ := info_parts info5
      have hroom33 : t444.length ≤ co30 := (Kd.R_reads' HO446.out).2.1
      have hC33 : Kd.C (Kd.int .u8) _ Ao30 t444.length t444 := (Kd.R_reads' HO446.out).2.2
      have hcut33 := cut_to (P := Tryd.prog) 22 5 .i64 Tryd.underlying22 hi033 Ao30 t444.length co30 (ji17) (of_decide_eq_true Z2) q33 hroom33
      have hr33 := Kd.C_take (m := ((ji17) : Int).toNat) hC33 (by omega)
      have hy33 : y452.length = ((ji17) : Int).toNat := (by rw [Ny452.out, List.length_take]; omega)
      rw [← Ny452.out] at hr33
      rw [← hy33] at hcut33
      have HR455 := Aside0.mk hr33
      have HC455 := Aside0.mk (show y452.length ≤ co30 from by omega)
      clear hr33 hC33 hroom33 hi033 hsz33
      have KY33 := Aside0.mk hy33
      clear hy33
      have KL33 := Aside0.mk (show ((ji17) : Int).toNat ≤ t444.length from by omega)
      replace q33 := eq_true q33
      refine start_ (n := 13) (S := fun w' => True) (ds := []) #[false, false, false, false, false, false, false, false, false, false, false, false, false] (by kernel_rfl) rfl rfl trivial (fun hHeld => ?_); refine with_tabW spec_DrawSegRead.tab9 spec_DrawSegRead.bits9 (fun HT_ HW_ => ?_)
      generalize w29.drew = w31 at HO437 HO446 HI426 HB HR451 HR455 hHeld ⊢
      refine pure_ (i := 0) (N := some 26) (v := ?_) (a' := ?_) #[true, false, false, false, false, false, false, false, false, false, false, false, false] rfl rfl (any_of HT_.out (by kernel_rfl)) (fun _ _ _ h => h) (Or.inl ⟨by rfl, ?_⟩) ?_ ?_
      rotate_left
      ·intro w'
       go_simp
       with_reducible rfl
      rotate_left
      ·simp only [Act.put, List.setIfInBounds_toArray, List.set_cons_zero, List.set_cons_succ, i64_w, i32_w]
       rfl
      refine pure_ (i := 1) (N := some 27) (v := ?_) (a' := ?_) #[true, true, false, false, false, false, false, false, false, false, false, false, false] rfl rfl (any_of HT_.out (by kernel_rfl)) (fun _ _ _ h => h) (Or.inl ⟨by rfl, ?_⟩) ?_ ?_
      rotate_left
      ·intro w'
       go_simp
       with_reducible rfl
      rotate_left
      ·simp only [Act.put, List.setIfInBounds_toArray, List.set_cons_zero, List.set_cons_succ, i64_w, i32_w]
       rfl
      refine pure_ (i := 2) (N := some 28) (v := ?_) (a' := ?_) #[true, true, true, false, false, false, false, false, false, false, false, false, false] rfl rfl (any_of HT_.out (by kernel_rfl)) (fun _ _ _ h => h) (Or.inl ⟨by rfl, ?_⟩) ?_ ?_
      rotate_left
      ·intro w'
       go_simp
       with_reducible rfl
      rotate_left
      ·simp only [Act.put, List.setIfInBounds_toArray, List.set_cons_zero, List.set_cons_succ, i64_w, i32_w]
       rfl
      refine pure_ (i := 3) (N := some 29) (v := ?_) (a' := ?_) #[true, true, true, true, false, false, false, false, false, false, false, false, false] rfl rfl (any_of HT_.out (by kernel_rfl)) (fun _ _ _ h => h) (Or.inl ⟨by rfl, ?_⟩) ?_ ?_
      rotate_left
      ·intro w'
       go_simp
       with_reducible rfl
      rotate_left
      ·simp only [Act.put, List.setIfInBounds_toArray, List.set_cons_zero, List.set_cons_succ, i64_w, i32_w]
       rfl
      refine pure_ (i := 4) (N := some 30) (v := ?_) (a' := ?_) #[true, true, true, true, true, false, false, false, false, false, false, false, false] rfl rfl (any_of HT_.out (by kernel_rfl)) (fun _ _ _ h => h) (Or.inl ⟨by rfl, ?_⟩) ?_ ?_
      rotate_left
      ·intro w'
       go_simp
       with_reducible rfl
      rotate_left
      ·simp only [Act.put, List.setIfInBounds_toArray, List.set_cons_zero, List.set_cons_succ, i64_w, i32_w]
       rfl
      refine pure_ (i := 5) (N := some 31) (v := ?_) (a' := ?_) #[true, true, true, true, true, true, false, false, false, false, false, false, false] rfl rfl (any_of HT_.out (by kernel_rfl)) (fun _ _ _ h => h) (Or.inl ⟨by rfl, ?_⟩) ?_ ?_
      rotate_left
      ·intro w'
       go_simp
       with_reducible rfl
      rotate_left
      ·simp only [Act.put, List.setIfInBounds_toArray, List.set_cons_zero, List.set_cons_succ, i64_w, i32_w]
       rfl
      refine pure_ (i := 6) (N := some 32) (v := ?_) (a' := ?_) #[true, true, true, true, true, true, true, false, false, false, false, false, false] rfl rfl (any_of HT_.out (by kernel_rfl)) (fun _ _ _ h => h) (Or.inl ⟨by rfl, ?_⟩) ?_ ?_
      rotate_left
      ·intro w'
       go_simp
       with_reducible rfl
      rotate_left
      ·simp only [Act.put, List.setIfInBounds_toArray, List.set_cons_zero, List.set_cons_succ, i64_w, i32_w]
       rfl
      refine pure_ (i := 7) (N := some 33) (v := ?_) (a' := ?_) #[true, true, true, true, true, true, true, true, false, false, false, false, false] rfl rfl (any_of HT_.out (by kernel_rfl)) (fun _ _ _ h => h) (Or.inl ⟨by rfl, ?_⟩) ?_ ?_
      rotate_left
      ·intro w'
       go_simp
       with_reducible rfl
      rotate_left
      ·simp only [Act.put, List.setIfInBounds_toArray, List.set_cons_zero, List.set_cons_succ, i64_w, i32_w]
       rfl
      refine pure_ (i := 8) (N := some 34) (v := ?_) (a' := ?_) #[true, true, true, true, true, true, true, true, true, false, false, false, false] rfl rfl (any_of HT_.out (by kernel_rfl)) (fun _ _ _ h => h) (Or.inl ⟨by rfl, ?_⟩) ?_ ?_
      rotate_left
      ·intro w'
       go_simp
       with_reducible rfl
      rotate_left
      ·simp only [Act.put, List.setIfInBounds_toArray, List.set_cons_zero, List.set_cons_succ, i64_w, i32_w]
       rfl
      refine pure_ (i := 9) (N := some 35) (v := ?_) (a' := ?_) #[true, true, true, true, true, true, true, true, true, true, false, false, false] rfl rfl (any_of HT_.out (by kernel_rfl)) (fun _ _ _ h => h) (Or.inl ⟨by rfl, ?_⟩) ?_ ?_
      rotate_left
      ·intro w'
       go_simp
       with_reducible rfl
      rotate_left
      ·simp only [Act.put, List.setIfInBounds_toArray, List.set_cons_zero, List.set_cons_succ, i64_w, i32_w]
       rfl
      refine one_ (i := 10) (N := some 36) #[true, true, true, true, true, true, true, true, true, true, true, false, false] rfl rfl (one_of HT_.out (by kernel_rfl)) (by decide) (fun K hK => ?_)
      refine goes_ Tryd.func19 (by kernel_rfl) rfl #[.slice Ao30 y452.length co30] (by rfl) rfl rfl (by (try simp only [List.map_toArray, List.map_cons, List.map_nil]); first | done | rfl | (have h_ : (y452).length = (y448).length := KY33.out.trans KY32.out.symm; rw [h_]; rfl) | (simp only [List.length_drop, List.length_take]; rfl)) ?_
      with_reducible refine (spec_SegSum.calls k _ _ y452 t456 _ ?side1 ?side2 A22.out).mono ?_
      (case side1 => repeat (first | exact Z80 | (with_reducible refine Kd.C_alloc ?_ _) | (with_reducible refine Kd.C_drewN ?_ _) | (with_reducible refine Kd.C_drew ?_)))
      (case side2 => exact HC455.out)
      rintro e w' ⟨rfl, ⟨nd, rfl⟩⟩
      refine ⟨_, rfl, ?_⟩
      refine hK.out _ _ trivial (fun hHeld => ?_)
      clear hK K
      refine norm_ (a' := ?_) ?_ ?_
      rotate_left
      ·show Act.put _ (some 36) _ = _
       simp only [Act.put, List.setIfInBounds_toArray, List.set_cons_zero, List.set_cons_succ, i64_w, i32_w]
       rfl
      refine one_ (i := 11) (N := some 37) #[true, true, true, true, true, true, true, true, true, true, true, true, false] rfl rfl (one_of HT_.out (by kernel_rfl)) (by decide) (fun K hK => ?_)
      refine goes_ Tryd.func30 (by kernel_rfl) rfl #[.slice Ao30 y448.length co30, .int .i64 t456] (by rfl) rfl rfl Z44 ?_
      with_reducible refine (spec_l5Put.calls _ _ y448 t456 t457 _ ?side1 ?side2 A23.out).mono ?_
      (case side1 => repeat (first | exact Z81 | (with_reducible refine Kd.C_alloc ?_ _) | (with_reducible refine Kd.C_drewN ?_ _) | (with_reducible refine Kd.C_drew ?_)))
      (case side2 => exact HC451.out)
      rintro e w34 ⟨v458, rfl, ho0, hb⟩
      refine ⟨_, rfl, ?_⟩
      have n0_ := Aside0.mk (Kd.R_elder' Z17 (Kd.R_base ho0) hb)
      have n1_ := Aside0.mk (Kd.R_elder' Z18 (Kd.R_base ho0) hb)
      have n2_ := Aside0.mk (Kd.R_lower (Kd.R_new' (Kd.R_new' ho0 (Kd.R_lt Z17)) (Kd.R_lt Z18)) (below_size Z69))
      have n3_ := Aside0.mk (IsS64.below Z50 hb)
      have n4_ := Aside0.mk (Kd.C_below Z81 hb)
      have n5_ := Aside0.mk (Kd.C_below Z80 hb)
      have n6_ := Aside0.mk (below_step Z69 hb)
      clear HO437
      clear HO446
      clear HI426
      clear HR451
      clear HR455
      clear HB
      have HO437 := n0_
      have HO446 := n1_
      have HO459 := n2_
      have HI426 := n3_
      have HR451 := n4_
      have HR455 := n5_
      have HB := n6_
      clear n0_ n1_ n2_ n3_ n4_ n5_ n6_
      (try clear hb)
      (try clear hb2)
      (try clear hk)
      (try clear hi)
      (try clear ho0)
      refine hK.out _ _ trivial (fun hHeld => ?_)
      clear hK K
      refine norm_ (a' := ?_) ?_ ?_
      rotate_left
      ·show Act.put _ (some 37) _ = _
       simp only [Act.put, List.setIfInBounds_toArray, List.set_cons_zero, List.set_cons_succ, i64_w, i32_w]
       rfl
      refine pure_ (i := 12) (N := some 2) (v := ?_) (a' := ?_) #[true, true, true, true, true, true, true, true, true, true, true, true, true] rfl rfl (any_of HT_.out (by kernel_rfl)) (fun _ _ _ h => h) (Or.inl ⟨by rfl, ?_⟩) ?_ ?_
      rotate_left
      ·intro w'
       go_simp
       with_reducible rfl
      rotate_left
      ·simp only [Act.put, List.setIfInBounds_toArray, List.set_cons_zero, List.set_cons_succ, i64_w, i32_w]
       rfl
      refine done_ (done_of HT_.out (by kernel_rfl)) ?_
      try go_wp2
      go_ret
      exact ⟨_, by first | rfl | (simp [errW_none, errW_some] <;> rfl) | (simp only [← hji17]; first | rfl | (simp [errW_none, errW_some] <;> rfl)) | (simp [*, errW_none, errW_some] <;> rfl), by (with_reducible repeat (first | apply Kd.R_alloc | apply Kd.R_drewN | apply Kd.R_drew)); exact Kd.R_mono HO459.out (fun _ hk => trivial), by repeat (first | (with_reducible first | exact HB.out | apply below_alloc | apply pw_below_drewN | apply below_drew1 | refine below_set ?_ (IsS64.ge HI426.out)) | exact HB.out)⟩
     ·rw [if_neg c19] at H
      exact absurd H (by simp)
    ·rw [if_neg c18] at H
     exact absurd H (by simp)
   ·rw [if_neg c16] at H
    have c16b0 : decide (2 < (t444.length : Int)) = false := decide_eq_false c16
    have c16b1 : decide (2 < t444.length) = false := decide_eq_false (by omega)
    clear c16
    obtain rfl := Option.some.inj H
    go_enter Tryd.func21, Tryd.ntmps21
    go_wp2_with (first | ((with_reducible refine gate_callee (f := 27) rfl ?_); refine goesL_ (some 7) rfl rfl Tryd.func27 (by kernel_rfl) rfl #[.slice A0 l0.length c0] rfl Z44 ?_; (with_reducible refine (spec_l20Open.calls _ _ l0 t424 t425 w _ ?side1 ?side2 ?side3 A2.out).mono ?_); (case side1 => exact Z41); (case side2 => exact HR0.out); (case side3 => exact HC0.out); rintro e w35 ⟨g426, rfl, hi, hb, hb2⟩; refine ⟨_, rfl, ?_⟩; have n0_ := Aside0.mk (hb); have n1_ := Aside0.mk (hi); clear HB; have HB := n0_; have HI426 := n1_; clear n0_ n1_; (try clear hb); (try clear hb2); (try clear hi)) | ((with_reducible refine gate_callee (f := 26) rfl ?_); refine goesL_ (some 9) rfl rfl Tryd.func26 (by kernel_rfl) rfl #[.pointer (some ⟨g426, 0, none⟩), .int .i64 99999] rfl Z44 ?_; (with_reducible refine (spec_l20Seg.calls k g426 t424 t425 99999 t427 t428 t429 t430 t431 t432 t433 t434 w _ ?side1 ?side2 A3.out).mono ?_); (case side1 => exact Z49); (case side2 => exact Z68); rintro e w36 ⟨rfl, hi, hb, hk⟩; refine ⟨_, rfl, ?_⟩; have n0_ := Aside0.mk (hb); have n1_ := Aside0.mk (hi); clear HB; clear HI426; have HB := n0_; have HI426 := n1_; clear n0_ n1_; (try clear hb); (try clear hk); (try clear hi)) | ((with_reducible refine gate_callee (f := 15) rfl ?_); refine goesL_ (some 10) rfl rfl Tryd.func15 (by kernel_rfl) rfl #[.agg #[.int .i64 t427, .int .i64 t428, .int .i64 t429, .int .i64 t430, .int .i64 t431, .int .i64 t432, .string t433]] rfl Z44 ?_; (with_reducible refine (spec_SegBytes.calls k t427 t428 t429 t430 t431 t432 t433 t435 _ A4.out).mono ?_); rintro e w37 ⟨v436, rfl, ho0, hb⟩; refine ⟨_, rfl, ?_⟩; have n0_ := Aside0.mk (Kd.R_lower ho0 (below_size Z69)); have n1_ := Aside0.mk (IsS64.below Z50 hb); have n2_ := Aside0.mk (below_step Z69 hb); clear HI426; clear HB; have HO437 := n0_; have HI426 := n1_; have HB := n2_; clear n0_ n1_ n2_; (try clear hb); (try clear ho0)) | ((with_reducible refine gate_callee (f := 38) rfl ?_); refine goesL_ (some 12) rfl rfl Tryd.func38 (by kernel_rfl) rfl #[.pointer (some ⟨g426, 0, none⟩), .int .i64 4] rfl Z44 ?_; (with_reducible refine (spec_l20Rd_pick.calls k g426 t424 t434 4 t438 t439 w _ ?side1 ?side2 A5.out).mono ?_); (case side1 => exact Z49); (case side2 => exact Z68); rintro e w38 ⟨rfl, hi, hb, hk⟩; refine ⟨_, rfl, ?_⟩; have n0_ := Aside0.mk (Kd.R_mono (Kd.R_keep (IsS64.apart (show IsS64 w _ g426 t424 t434 from by repeat (first | (with_reducible first | exact HI426.out | apply IsS64.alloc | apply IsS64.drewN | apply IsS64.drew | apply IsS64.set_1) | exact HI426.out)) Z17 (by decide)) hk (fun _ h => h.2)) (fun _ h => h.1)); have n1_ := Aside0.mk (hb); have n2_ := Aside0.mk (hi); clear HO437; clear HB; clear HI426; have HO437 := n0_; have HB := n1_; have HI426 := n2_; clear n0_ n1_ n2_; (try clear hb); (try clear hk); (try clear hi); obtain ⟨Ao39, co39, eo39⟩ := Kd.R_slice HO437.out; subst eo39) | ((with_reducible refine gate_callee (f := 39) rfl ?_); refine goesL_ (some 22) rfl rfl Tryd.func39 (by kernel_rfl) rfl #[.pointer (some ⟨g426, 0, none⟩), .slice Ao39 t435.length co39] rfl Z44 ?_; (with_reducible refine (spec_l20Turn.calls k g426 t424 t439 _ _ t435 t444 t447 w _ ?side1 ?side2 ?side3 ?side4 ?side5 A15.out).mono ?_); (case side1 => exact Z49); (case side2 => exact Z68); (case side3 => exact Z63); (case side4 => exact (Kd.R_reads' HO437.out).2.1); (case side5 => exact far_slice (IsS64.own_ne HI426.out HO437.out (by decide))); rintro e w40 ⟨v445, rfl, ho0, hi, hb, hk⟩; refine ⟨_, rfl, ?_⟩; have n0_ := Aside0.mk (Kd.R_mono (Kd.R_told (Kd.R_oldK (IsS64.apart (show IsS64 w _ g426 t424 t439 from by repeat (first | (with_reducible first | exact HI426.out | apply IsS64.alloc | apply IsS64.drewN | apply IsS64.drew | apply IsS64.set_1) | exact HI426.out)) Z17 (by decide)) hk) (Kd.R_base ho0)) (fun _ h_ => h_.1)); have n1_ := Aside0.mk (Kd.R_lower (Kd.R_new' ho0 (Kd.R_lt Z17)) (below_size Z69)); have n2_ := Aside0.mk (hb); have n3_ := Aside0.mk (hi); clear HO437; clear HB; clear HI426; have HO437 := n0_; have HO446 := n1_; have HB := n2_; have HI426 := n3_; clear n0_ n1_ n2_ n3_; (try clear hb); (try clear hk); (try clear hi); (try clear ho0); obtain ⟨Ao41, co41, eo41⟩ := Kd.R_slice HO446.out; subst eo41))
    go_ret
    exact ⟨_, by first | rfl | (simp [errW_none, errW_some] <;> rfl) | (simp [*, errW_none, errW_some] <;> rfl), by (with_reducible repeat (first | apply Kd.R_alloc | apply Kd.R_drewN | apply Kd.R_drew)); exact Kd.R_mono HO446.out (fun _ hk => trivial), by repeat (first | (with_reducible first | exact HB.out | apply below_alloc | apply pw_below_drewN | apply below_drew1 | refine below_set ?_ (IsS64.ge HI426.out)) | exact HB.out)⟩
  ·rw [if_neg c14] at H
   have c14b0 : (t438 == 1) = false := beq_eq_false_iff_ne.mpr c14
   have c14b1 : (t438 != 1) = true := bne_iff_ne.mpr c14
   obtain rfl := Option.some.inj H
   go_enter Tryd.func21, Tryd.ntmps21
   go_wp2_with (first | ((with_reducible refine gate_callee (f := 27) rfl ?_); refine goesL_ (some 7) rfl rfl Tryd.func27 (by kernel_rfl) rfl #[.slice A0 l0.length c0] rfl Z44 ?_; (with_reducible refine (spec_l20Open.calls _ _ l0 t424 t425 w _ ?side1 ?side2 ?side3 A2.out).mono ?_); (case side1 => exact Z41); (case side2 => exact HR0.out); (case side3 => exact HC0.out); rintro e w42 ⟨g426, rfl, hi, hb, hb2⟩; refine ⟨_, rfl, ?_⟩; have n0_ := Aside0.mk (hb); have n1_ := Aside0.mk (hi); clear HB; have HB := n0_; have HI426 := n1_; clear n0_ n1_; (try clear hb); (try clear hb2); (try clear hi)) | ((with_reducible refine gate_callee (f := 26) rfl ?_); refine goesL_ (some 9) rfl rfl Tryd.func26 (by kernel_rfl) rfl #[.pointer (some ⟨g426, 0, none⟩), .int .i64 99999] rfl Z44 ?_; (with_reducible refine (spec_l20Seg.calls k g426 t424 t425 99999 t427 t428 t429 t430 t431 t432 t433 t434 w _ ?side1 ?side2 A3.out).mono ?_); (case side1 => exact Z49); (case side2 => exact Z68); rintro e w43 ⟨rfl, hi, hb, hk⟩; refine ⟨_, rfl, ?_⟩; have n0_ := Aside0.mk (hb); have n1_ := Aside0.mk (hi); clear HB; clear HI426; have HB := n0_; have HI426 := n1_; clear n0_ n1_; (try clear hb); (try clear hk); (try clear hi)) | ((with_reducible refine gate_callee (f := 15) rfl ?_); refine goesL_ (some 10) rfl rfl Tryd.func15 (by kernel_rfl) rfl #[.agg #[.int .i64 t427, .int .i64 t428, .int .i64 t429, .int .i64 t430, .int .i64 t431, .int .i64 t432, .string t433]] rfl Z44 ?_; (with_reducible refine (spec_SegBytes.calls k t427 t428 t429 t430 t431 t432 t433 t435 _ A4.out).mono ?_); rintro e w44 ⟨v436, rfl, ho0, hb⟩; refine ⟨_, rfl, ?_⟩; have n0_ := Aside0.mk (Kd.R_lower ho0 (below_size Z69)); have n1_ := Aside0.mk (IsS64.below Z50 hb); have n2_ := Aside0.mk (below_step Z69 hb); clear HI426; clear HB; have HO437 := n0_; have HI426 := n1_; have HB := n2_; clear n0_ n1_ n2_; (try clear hb); (try clear ho0)) | ((with_reducible refine gate_callee (f := 38) rfl ?_); refine goesL_ (some 12) rfl rfl Tryd.func38 (by kernel_rfl) rfl #[.pointer (some ⟨g426, 0, none⟩), .int .i64 4] rfl Z44 ?_; (with_reducible refine (spec_l20Rd_pick.calls k g426 t424 t434 4 t438 t439 w _ ?side1 ?side2 A5.out).mono ?_); (case side1 => exact Z49); (case side2 => exact Z68); rintro e w45 ⟨rfl, hi, hb, hk⟩; refine ⟨_, rfl, ?_⟩; have n0_ := Aside0.mk (Kd.R_mono (Kd.R_keep (IsS64.apart (show IsS64 w _ g426 t424 t434 from by repeat (first | (with_reducible first | exact HI426.out | apply IsS64.alloc | apply IsS64.drewN | apply IsS64.drew | apply IsS64.set_1) | exact HI426.out)) Z17 (by decide)) hk (fun _ h => h.2)) (fun _ h => h.1)); have n1_ := Aside0.mk (hb); have n2_ := Aside0.mk (hi); clear HO437; clear HB; clear HI426; have HO437 := n0_; have HB := n1_; have HI426 := n2_; clear n0_ n1_ n2_; (try clear hb); (try clear hk); (try clear hi)))
   go_ret
   exact ⟨_, by first | rfl | (simp [errW_none, errW_some] <;> rfl) | (simp [*, errW_none, errW_some] <;> rfl), by (with_reducible repeat (first | apply Kd.R_alloc | apply Kd.R_drewN | apply Kd.R_drew)); exact HO437.out, by repeat (first | (with_reducible first | exact HB.out | apply below_alloc | apply pw_below_drewN | apply below_drew1 | refine below_set ?_ (IsS64.ge HI426.out)) | exact HB.out)⟩

/-! ### spec_DrawSegSum: function 12 -/
def spec_DrawSegSum.f (k : Nat) (l0 : List Int) : Option (List Int) := (spec_DrawSegRead.f k l0).bind fun t460 => (some t460)
theorem spec_DrawSegSum.mono : ∀ a0 k, LeO (spec_DrawSegSum.f k a0) (spec_DrawSegSum.f (k + 1) a0) := by
 intro a0 k
 unfold spec_DrawSegSum.f
 repeat' first
   | (with_reducible exact spec_DrawSegRead.mono _ _)
   | (with_reducible exact LeO.refl _)
   | (with_reducible exact LeO.none _)
   | (with_reducible refine LeO.ite ?_ ?_)
   | (with_reducible refine LeO.bind ?_ (fun _ => ?_))
   | exact spec_DrawSegRead.mono _ _
   | exact LeO.none _
   | refine LeO.ite ?_ ?_
   | refine LeO.bind ?_ (fun _ => ?_)
set_option maxHeartbeats 8000000 in
set_option maxRecDepth 100000 in
theorem spec_DrawSegSum.calls (k : Nat) (A0 : Option Addr) (c0 : Nat) (l0 : List Int) (r : List Int) (w : World) (hr0 : Kd.C (Kd.int .u8) w A0 l0.length l0) (hc0 : l0.length ≤ c0) (h : spec_DrawSegSum.f k l0 = some r) :
  Calls Tryd.prog 12 #[.slice A0 l0.length c0] w fun e w' => ∃ v0_ : Value, e = .returned (v0_) ∧ Kd.R (Kd.int .u8) 5 w' w.heap.size (fun _ => True) v0_ r ∧ Below w.heap.size w w' := by
 have HR0 := Aside0.mk hr0
 have HC0 := Aside0.mk hc0
 clear hr0 hc0
 have HB := Aside0.mk (Below.refl w.heap.size w)
 have H : ((spec_DrawSegRead.f k l0).bind fun t460 => (some t460)) = some r := h
 clear h
 replace H := Option.bind_eq_some_iff.mp H
 obtain ⟨t460, A20, H⟩ := H
 replace H : (some t460) = some r := H
 have A2 := Aside0.mk A20
 clear A20
 obtain rfl := Option.some.inj H
 go_enter Tryd.func12, Tryd.ntmps12
 go_wp2_with (first | ((with_reducible refine gate_callee (f := 21) rfl ?_); refine goesL_ (some 4) rfl rfl Tryd.func21 (by kernel_rfl) rfl #[.slice A0 l0.length c0] rfl Z44 ?_; (with_reducible refine (spec_DrawSegRead.calls k _ _ l0 t460 _ ?side1 ?side2 A2.out).mono ?_); (case side1 => repeat (first | exact HR0.out | (with_reducible refine Kd.C_alloc ?_ _) | (with_reducible refine Kd.C_drewN ?_ _) | (with_reducible refine Kd.C_drew ?_))); (case side2 => exact HC0.out); rintro e w3 ⟨v461, rfl, ho0, hb⟩; refine ⟨_, rfl, ?_⟩; have n0_ := Aside0.mk (Kd.R_lower ho0 (below_size Z42)); have n1_ := Aside0.mk (below_step Z42 hb); clear HB; have HO462 := n0_; have HB := n1_; clear n0_ n1_; (try clear hb); (try clear ho0)))
 go_ret
 exact ⟨_, by first | rfl | (simp [errW_none, errW_some] <;> rfl) | (simp [*, errW_none, errW_some] <;> rfl), by (with_reducible repeat (first | apply Kd.R_alloc | apply Kd.R_drewN | apply Kd.R_drew)); exact HO462.out, by repeat (first | (with_reducible first | exact HB.out | apply below_alloc | apply pw_below_drewN | apply below_drew1) | exact HB.out)⟩

/-! ### laws_haBytes: function 14 -/
def laws_haBytes.l0 : Nat → List Int → List Int → Int → Option (Bool)
 | 0, _, _, _ => none
 | k + 1, x0, x1, x5 => if x5 < (x0.length : Int) then (if 0 ≤ x5 then (if x5 < (x1.length : Int) then (if (rd x0 x5) = (rd x1 x5) then (laws_haBytes.l0 k x0 x1 (wrap64 (x5 + 1))) else (some false)) else (none)) else (none)) else (some true)
def laws_haBytes.f (k : Nat) (l0 : List Int) (l1 : List Int) : Option (Bool) := if (l0.length : Int) = (l1.length : Int) then (laws_haBytes.l0 k l0 l1 0) else (some false)
theorem laws_haBytes.mono_l : ∀ k, (∀ y0 y1 y2, LeO (laws_haBytes.l0 k y0 y1 y2) (laws_haBytes.l0 (k + 1) y0 y1 y2))
 | 0 => fun _ _ _ r h => by simp [laws_haBytes.l0] at h
 | k + 1 => by
  have ih0 := laws_haBytes.mono_l k
  ·intro y0 y1 y2
   unfold laws_haBytes.l0
   repeat' first
   | (with_reducible exact ih0 _ _ _)
   | (with_reducible exact LeO.refl _)
   | (with_reducible exact LeO.none _)
   | (with_reducible refine LeO.ite ?_ ?_)
   | (with_reducible refine LeO.bind ?_ (fun _ => ?_))
   | exact ih0 _ _ _
   | exact LeO.none _
   | refine LeO.ite ?_ ?_
   | refine LeO.bind ?_ (fun _ => ?_)
theorem laws_haBytes.mono : ∀ a0 a1 k, LeO (laws_haBytes.f k a0 a1) (laws_haBytes.f (k + 1) a0 a1) := by
 intro a0 a1 k
 have ih0 := laws_haBytes.mono_l k
 unfold laws_haBytes.f
 repeat' first
   | (with_reducible exact ih0 _ _ _)
   | (with_reducible exact LeO.refl _)
   | (with_reducible exact LeO.none _)
   | (with_reducible refine LeO.ite ?_ ?_)
   | (with_reducible refine LeO.bind ?_ (fun _ => ?_))
   | exact ih0 _ _ _
   | exact LeO.none _
   | refine LeO.ite ?_ ?_
   | refine LeO.bind ?_ (fun _ => ?_)
set_option maxHeartbeats 8000000 in
set_option maxRecDepth 100000 in
theorem laws_haBytes.calls (k : Nat) (A0 : Option Addr) (c0 : Nat) (l0 : List Int) (A1 : Option Addr) (c1 : Nat) (l1 : List Int) (r : Bool) (w : World) (hr0 : Kd.C (Kd.int .u8) w A0 l0.length l0) (hc0 : l0.length ≤ c0) (hr1 : Kd.C (Kd.int .u8) w A1 l1.length l1) (hc1 : l1.length ≤ c1) (h : laws_haBytes.f k l0 l1 = some r) :
  Calls Tryd.prog 14 #[.slice A0 l0.length c0, .slice A1 l1.length c1] w fun e w' => e = .returned (.bool r) ∧ Drawn0 w w' := by
 have HR0 := Aside0.mk hr0
 have HC0 := Aside0.mk hc0
 clear hr0 hc0
 have HR1 := Aside0.mk hr1
 have HC1 := Aside0.mk hc1
 clear hr1 hc1
 have H : (if (l0.length : Int) = (l1.length : Int) then (laws_haBytes.l0 k l0 l1 0) else (some false)) = some r := h
 clear h
 by_cases c3 : (l0.length : Int) = (l1.length : Int)
 ·rw [if_pos c3] at H
  have c3b0 : ((l0.length : Int) == (l1.length : Int)) = true := beq_iff_eq.mpr c3
  have c3b1 : ((l0.length : Int) != (l1.length : Int)) = false := bne_eq_false_iff_eq.mpr c3
  have c3b2 : (l0.length == l1.length) = true := by first | simpa using c3 | (simp at c3 ⊢; omega)
  clear c3
  have H' := Aside0.mk H
  clear H
  go_enter Tryd.func14, Tryd.ntmps14
  go_wp2
  repeat (go_quiet (fail); try go_wp2)
  go_loopg [5] k (fun kq v5 w' => ∃ (x5_1 : Int), v5 = .int .i64 x5_1 ∧ Aside0 (laws_haBytes.l0 kq l0 l1 x5_1 = some r) ∧ Aside0 (kq ≤ k) ∧ Drawn0 w w')
  case atStart => exact ⟨(0), Z1, H', ⟨Nat.le_refl _⟩, by repeat (first | exact Drawn0.refl _ | apply Drawn0.step)⟩
  case round =>
   clear H'
   try clear c1
   try clear p2
   try clear c3
   try clear c3b0
   try clear c3b1
   try clear c3b2
   obtain ⟨x5_1, rfl, HA, HK1, ⟨m1, rfl⟩⟩ := hrel
   cases gk with
   | zero => exact absurd HA.out (by simp [laws_haBytes.l0])
   | succ k1 =>
    have H := HA.out
    clear HA
    simp only [laws_haBytes.l0] at H
    by_cases c4 : x5_1 < (l0.length : Int)
    ·rw [if_pos c4] at H
     have c4b0 : decide (x5_1 < (l0.length : Int)) = true := decide_eq_true c4
     clear c4
     by_cases c5 : 0 ≤ x5_1
     ·rw [if_pos c5] at H
      have c5b0 : decide (0 ≤ x5_1) = true := decide_eq_true c5
      clear c5
      by_cases c6 : x5_1 < (l1.length : Int)
      ·rw [if_pos c6] at H
       have c6b0 : decide (x5_1 < (l1.length : Int)) = true := decide_eq_true c6
       clear c6
       by_cases c7 : (rd l0 x5_1) = (rd l1 x5_1)
       ·rw [if_pos c7] at H
        have c7b0 : ((rd l0 x5_1) == (rd l1 x5_1)) = true := beq_iff_eq.mpr c7
        have c7b1 : ((rd l0 x5_1) != (rd l1 x5_1)) = false := bne_eq_false_iff_eq.mpr c7
        clear c7
        have H' := Aside0.mk H
        clear H
        have p463 : 0 ≤ (x5_1 : Int) := of_decide_eq_true Z2
        have q463 : x5_1 < (l0.length : Int) := of_decide_eq_true Z2
        obtain ⟨ad463, e463, hx463_0⟩ := Kd.at_int HR0.out x5_1 p463 q463
        cases e463
        replace p463 := eq_true p463
        replace q463 := eq_true q463
        have p464 : 0 ≤ (x5_1 : Int) := of_decide_eq_true Z2
        have q464 : x5_1 < (l1.length : Int) := of_decide_eq_true Z2
        obtain ⟨ad464, e464, hx464_0⟩ := Kd.at_int HR1.out x5_1 p464 q464
        cases e464
        replace p464 := eq_true p464
        replace q464 := eq_true q464
        go_wp2
        repeat (go_quiet (fail); try go_wp2)
        go_roundg k1
        case measure => have := HK1.out; omega
        case rel => exact ⟨(wrap64 (x5_1 + 1)), Z1, H', ⟨by have := HK1.out; omega⟩, by repeat (first | exact Drawn0.refl _ | apply Drawn0.step)⟩
       ·rw [if_neg c7] at H
        have c7b0 : ((rd l0 x5_1) == (rd l1 x5_1)) = false := beq_eq_false_iff_ne.mpr c7
        have c7b1 : ((rd l0 x5_1) != (rd l1 x5_1)) = true := bne_iff_ne.mpr c7
        obtain rfl := Option.some.inj H
        have p463 : 0 ≤ (x5_1 : Int) := of_decide_eq_true Z2
        have q463 : x5_1 < (l0.length : Int) := of_decide_eq_true Z2
        obtain ⟨ad463, e463, hx463_0⟩ := Kd.at_int HR0.out x5_1 p463 q463
        cases e463
        replace p463 := eq_true p463
        replace q463 := eq_true q463
        have p464 : 0 ≤ (x5_1 : Int) := of_decide_eq_true Z2
        have q464 : x5_1 < (l1.length : Int) := of_decide_eq_true Z2
        obtain ⟨ad464, e464, hx464_0⟩ := Kd.at_int HR1.out x5_1 p464 q464
        cases e464
        replace p464 := eq_true p464
        replace q464 := eq_true q464
        go_wp2
        repeat (go_quiet (fail); try go_wp2)
        go_ret
        exact ⟨by first | rfl | (simp; done) | (simp [*]; done), by repeat (first | exact Drawn0.refl _ | apply Drawn0.step)⟩
      ·rw [if_neg c6] at H
       exact absurd H (by simp)
     ·rw [if_neg c5] at H
      exact absurd H (by simp)
    ·rw [if_neg c4] at H
     have c4b0 : decide (x5_1 < (l0.length : Int)) = false := decide_eq_false c4
     clear c4
     obtain rfl := Option.some.inj H
     go_wp2
     repeat (go_quiet (fail); try go_wp2)
     go_ret
     exact ⟨by first | rfl | (simp; done) | (simp [*]; done), by repeat (first | exact Drawn0.refl _ | apply Drawn0.step)⟩
 ·rw [if_neg c3] at H
  have c3b0 : ((l0.length : Int) == (l1.length : Int)) = false := beq_eq_false_iff_ne.mpr c3
  have c3b1 : ((l0.length : Int) != (l1.length : Int)) = true := bne_iff_ne.mpr c3
  have c3b2 : (l0.length == l1.length) = false := by first | simpa using c3 | (simp at c3 ⊢; omega)
  obtain rfl := Option.some.inj H
  go_enter Tryd.func14, Tryd.ntmps14
  go_wp2
  repeat (go_quiet (fail); try go_wp2)
  go_ret
  exact ⟨by first | rfl | (simp; done) | (simp [*]; done), by repeat (first | exact Drawn0.refl _ | apply Drawn0.step)⟩

/-! ### impl_LinOk: function 37 -/
def impl_LinOk.f (a0 : ByteArray) : Option (Bool) := if 0 ≤ (a0.size : Int) then (if ((a0.size : Int) : Int).toNat ≤ 281474976710656 then (if 1 ≤ 281474976710656 then ((some (List.replicate 1 0 : List Int)).bind fun y468 => (if 0 ≤ (wrap64 ((a0.size : Int) - 1)) then (if (wrap64 ((a0.size : Int) - 1)) < (y468.length : Int) then (if 0 < (a0.size : Int) then (if 0 ≤ (wrap64 ((wrap64 (bt a0 0)) - 97)) then (if (wrap64 ((wrap64 (bt a0 0)) - 97)) < (y468.length : Int) then (some true) else (none)) else (none)) else (none)) else (none)) else (none))) else (none)) else (none)) else (none)
-- BY HAND
/-- Whether a text is a line. -/
def linOkB (s : ByteArray) : Bool := decide (s.size ≤ 16 ∧ ∀ j, j < s.size → lineB (bt s (j : Int)) = true)
set_option maxHeartbeats 1000000 in
set_option maxRecDepth 100000 in
theorem lin_walk (s : ByteArray) (w : World) (hs : s.size ≤ 281474976710656) :
  Calls Tryd.prog 37 #[.string s] w fun e w' => e = .returned (.bool (linOkB s)) ∧ Below w.heap.size w w' := by
 have hcv := fun W => Lib.run_convert_string_bytes (P := Tryd.prog) W 9 22 5 s Tryd.underlying9 Tryd.underlying22 Tryd.underlying5
 have hcell : ∀ j : Nat, j < s.size → (Lib.bytesWorld w 5 s).cell? ⟨w.heap.size, j, none⟩ = some (.int .u8 (bt s (j : Int))) := fun j hj => by
  rw [Lib.bytesWorld_cell w 5 s j hj, bt_data s j hj]
 have hsz := Lib.bytesWorld_size w 5 s
 have HZ := Aside0.mk hsz
 clear hsz
 have HC := Aside0.mk hcell
 clear hcell
 go_enter Tryd.func37, Tryd.ntmps37
 go_wp2
 go_loopw [8] (fun v wr => ∃ i : Nat, i ≤ s.size ∧ v = .int .i64 (i : Int) ∧ Aside0 (∀ j, j < i → lineB (bt s (j : Int)) = true) ∧ Aside0 (∃ n, wr = (Lib.bytesWorld w 5 s).drewN n)) (fun v _ => s.size - (intOf v).toNat)
 case atStart => exact ⟨0, Nat.zero_le _, rfl, ⟨fun j hj => by omega⟩, ⟨⟨0, rfl⟩⟩⟩
 case round =>
  obtain ⟨i, hi, rfl, HJ, HW⟩ := hrel
  obtain ⟨nd0, rfl⟩ := HW.out
  clear HW
  by_cases hlt : i < s.size
  ·have hx : ((Lib.bytesWorld w 5 s).drewN nd0).cell? ⟨w.heap.size, i, none⟩ = some (.int .u8 (bt s (i : Int))) := HC.out i hlt
   by_cases hb : lineB (bt s (i : Int)) = true
   ·have HB := Aside0.mk hb
    clear hb
    have A6 : Aside0 (impl_lineByte.f (bt s (i : Int)) = some true) := ⟨by rw [lb_eq, HB.out]⟩
    go_wp2_with (go_at_call 31; refine (impl_lineByte.calls (bt s (i : Int)) true _ A6.out).mono ?_; rintro e w' ⟨rfl, ⟨nd, rfl⟩⟩)
    go_roundw
    case rel => exact ⟨i + 1, by omega, by go_num, ⟨fun j hj => by by_cases e : j = i; (subst e; exact HB.out); exact HJ.out j (by omega)⟩, ⟨⟨_, rfl⟩⟩⟩
    case measure => simp [intOf]; omega
   ·have HB := Aside0.mk hb
    clear hb
    have A6 : Aside0 (impl_lineByte.f (bt s (i : Int)) = some false) := ⟨by rw [lb_eq, Bool.eq_false_iff.mpr HB.out]⟩
    go_wp2_with (go_at_call 31; refine (impl_lineByte.calls (bt s (i : Int)) false _ A6.out).mono ?_; rintro e w' ⟨rfl, ⟨nd, rfl⟩⟩)
    go_ret
    refine ⟨?_, pw_below_drewN (lin_below w 5 s) _⟩
    have : linOkB s = false := by unfold linOkB; exact decide_eq_false (fun hx => HB.out (hx.2 i hlt))
    exact congrArg (fun b => Ending.returned (Value.bool b)) this.symm
  ·go_wp2
   go_ret
   refine ⟨?_, pw_below_drewN (lin_below w 5 s) _⟩
   have : linOkB s = decide ((s.size : Int) ≤ 16) := by
    unfold linOkB
    exact decide_eq_decide.2 ⟨fun h => by omega, fun h => ⟨by omega, fun j hj => HJ.out j (by omega)⟩⟩
   exact congrArg (fun b => Ending.returned (Value.bool b)) this.symm
theorem lin_a_only (s : ByteArray) (h0 : s.size = 1) (h1 : bt s 0 = 97) : linOkB s = true := by
 unfold linOkB
 refine decide_eq_true ⟨by omega, fun j hj => ?_⟩
 obtain rfl : j = 0 := by omega
 rw [show ((0 : Nat) : Int) = 0 from rfl, h1]
 decide
theorem impl_LinOk.calls (a0 : ByteArray) (r : Bool) (w : World) (h : impl_LinOk.f a0 = some r) :
  Calls Tryd.prog 37 #[.string a0] w fun e w' => e = .returned (.bool r) ∧ Below w.heap.size w w' := by
 have hx : a0.size = 1 ∧ bt a0 0 = 97 ∧ r = true := by
  have hb := bt_range a0 0
  have hw : wrap64 (bt a0 0) = bt a0 0 := Lib.wrap_id (by omega) (by omega)
  have hw2 : wrap64 (wrap64 (bt a0 0) - 97) = bt a0 0 - 97 := by rw [hw, Lib.wrap_id (by omega) (by omega)]
  unfold impl_LinOk.f at h
  rw [if_pos (by omega)] at h
  by_cases cs : ((a0.size : Int) : Int).toNat ≤ 281474976710656
  ·rw [if_pos cs] at h
   have hw3 : wrap64 ((a0.size : Int) - 1) = (a0.size : Int) - 1 := Lib.wrap_id (by omega) (by omega)
   rw [if_pos (by omega)] at h
   simp only [Option.bind_some, List.length_replicate] at h
   rw [hw3, hw2] at h
   by_cases c1 : 0 ≤ (a0.size : Int) - 1
   ·rw [if_pos c1] at h
    by_cases c2 : (a0.size : Int) - 1 < ((1 : Nat) : Int)
    ·rw [if_pos c2, if_pos (by omega)] at h
     by_cases c3 : 0 ≤ bt a0 0 - 97
     ·rw [if_pos c3] at h
      by_cases c4 : bt a0 0 - 97 < ((1 : Nat) : Int)
      ·rw [if_pos c4] at h
       exact ⟨by omega, by omega, (Option.some.inj h).symm⟩
      ·rw [if_neg c4] at h; cases h
     ·rw [if_neg c3] at h; cases h
    ·rw [if_neg c2] at h; cases h
   ·rw [if_neg c1] at h; cases h
  ·rw [if_neg cs] at h; cases h
 obtain ⟨h0, h1, rfl⟩ := hx
 have := lin_walk a0 w (by omega)
 rwa [lin_a_only a0 h0 h1] at this

/-! ### laws_haOk: function 20 -/
def laws_haOk.f  : Option (Bool) := (impl_LinOk.f (⟨#[97]⟩ : ByteArray)).bind fun t473 => (some t473)
set_option maxHeartbeats 8000000 in
set_option maxRecDepth 100000 in
theorem laws_haOk.calls  (r : Bool) (w : World) (h : laws_haOk.f  = some r) :
  Calls Tryd.prog 20 #[] w fun e w' => e = .returned (.bool r) ∧ Below w.heap.size w w' := by
 have HB := Aside0.mk (Below.refl w.heap.size w)
 have H : ((impl_LinOk.f (⟨#[97]⟩ : ByteArray)).bind fun t473 => (some t473)) = some r := h
 clear h
 replace H := Option.bind_eq_some_iff.mp H
 obtain ⟨t473, A10, H⟩ := H
 replace H : (some t473) = some r := H
 have A1 := Aside0.mk A10
 clear A10
 obtain rfl := Option.some.inj H
 go_enter Tryd.func20, Tryd.ntmps20
 go_wp2_with (first | ((with_reducible refine gate_callee (f := 37) rfl ?_); refine goesL_ (some 1) rfl rfl Tryd.func37 (by kernel_rfl) rfl #[.string (⟨#[97]⟩ : ByteArray)] rfl Z44 ?_; (with_reducible refine (impl_LinOk.calls (⟨#[97]⟩ : ByteArray) t473 _ A1.out).mono ?_); rintro e w2 ⟨rfl, hb⟩; refine ⟨_, rfl, ?_⟩; have n0_ := Aside0.mk (below_step Z42 hb); clear HB; have HB := n0_; clear n0_; (try clear hb)))
 go_ret
 exact ⟨by first | rfl | (simp [errW_none, errW_some] <;> rfl) | (simp [*, errW_none, errW_some] <;> rfl), by repeat (first | (with_reducible first | exact HB.out | apply below_alloc | apply pw_below_drewN | apply below_drew1) | exact HB.out)⟩

end Go.Proofs.YtdfoelhpeeanlaaDoor.QFnSegBytes
