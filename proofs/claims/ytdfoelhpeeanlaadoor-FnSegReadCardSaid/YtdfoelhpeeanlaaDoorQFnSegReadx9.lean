-- Laid by a program of this repo (wip/tools/sprint.py): print.py's functions and walks; the contracts named 'BY HAND' are proved by hand.
import Derived.Test.YtdfoelhpeeanlaaDoorQFnSegReadx2
import Derived.Test.YtdfoelhpeeanlaaDoorQFnSegReadx0
import Derived.Test.YtdfoelhpeeanlaaDoorQFnSegReadx1
import Derived.Test.YtdfoelhpeeanlaaDoorQFnSegReadx3
import Derived.Test.YtdfoelhpeeanlaaDoorQFnSegReadx4
import Derived.Test.YtdfoelhpeeanlaaDoorQFnSegReadx5
import Derived.Test.YtdfoelhpeeanlaaDoorQFnSegReadx6
import Derived.Test.YtdfoelhpeeanlaaDoorQFnSegReadx7
import Derived.Test.YtdfoelhpeeanlaaDoorQFnSegReadx8
namespace Go.Proofs.YtdfoelhpeeanlaaDoor.QFnSegRead
open Go.RowKit Go.Proofs.YtdfoelhpeeanlaaDoorW.PrintWords Go.Proofs.YtdfoelhpeeanlaaDoorW.PrintLast Go.Proofs.YtdfoelhpeeanlaaDoorW.PrintMore
attribute [local go_sem] max2_int min2_int max_two min_two max_three min_three max_four min_four   -- for this text's walks alone
set_option linter.unusedVariables false
set_option linter.unusedSimpArgs false

attribute [local go_sem high] eqA26
/-! ### spec_DrawSegRead: function 21 -/
def spec_DrawSegRead.f (k : Nat) (l0 : List Int) : Option (List Int) := (spec_l20Open.f l0).bind fun bt423 => ((spec_l20Seg.f k bt423.1 bt423.2 99999).bind fun bt426 => ((spec_SegBytes.f k bt426.1 bt426.2.1 bt426.2.2.1 bt426.2.2.2.1 bt426.2.2.2.2.1 bt426.2.2.2.2.2.1 bt426.2.2.2.2.2.2.1).bind fun t434 => ((spec_l20Rd_pick.f k bt423.1 bt426.2.2.2.2.2.2.2 4).bind fun bt437 => (if bt437.1 = 0 then ((spec_l20Turn.f k bt423.1 bt437.2 t434).bind fun bt439 => (some bt439.1)) else (if bt437.1 = 1 then ((spec_l20Turn.f k bt423.1 bt437.2 t434).bind fun bt443 => (if (bt443.1.length : Int) > 2 then (if 0 ≤ (wrap64 ((bt443.1.length : Int) - 2)) then (if (wrap64 ((bt443.1.length : Int) - 2)) ≤ (bt443.1.length : Int) then ((spec_SegSum.f k (bt443.1.take ((wrap64 ((bt443.1.length : Int) - 2)) : Int).toNat)).bind fun t455 => ((spec_l5Put.f (bt443.1.take ((wrap64 ((bt443.1.length : Int) - 2)) : Int).toNat) t455).bind fun t456 => (some t456))) else (none)) else (none)) else (some bt443.1))) else (some t434))))))
theorem spec_DrawSegRead.mono : ∀ a0 k, LeO (spec_DrawSegRead.f k a0) (spec_DrawSegRead.f (k + 1) a0) := by
 intro a0 k
 unfold spec_DrawSegRead.f
 repeat' first
   | (with_reducible exact spec_SegBytes.mono _ _ _ _ _ _ _ _)
   | (with_reducible exact spec_SegSum.mono _ _)
   | (with_reducible exact spec_l20Rd_pick.mono _ _ _ _)
   | (with_reducible exact spec_l20Seg.mono _ _ _ _)
   | (with_reducible exact spec_l20Turn.mono _ _ _ _)
   | (with_reducible exact LeO.refl _)
   | (with_reducible exact LeO.none _)
   | (with_reducible refine LeO.ite ?_ ?_)
   | (with_reducible refine LeO.bind ?_ (fun _ => ?_))
   | exact spec_SegBytes.mono _ _ _ _ _ _ _ _
   | exact spec_SegSum.mono _ _
   | exact spec_l20Rd_pick.mono _ _ _ _
   | exact spec_l20Seg.mono _ _ _ _
   | exact spec_l20Turn.mono _ _ _ _
   | exact LeO.none _
   | refine LeO.ite ?_ ?_
   | refine LeO.bind ?_ (fun _ => ?_)
def spec_DrawSegRead.T9 : Bool × List (List Nat × List Nat) := (true, [([], []), ([], []), ([1], [1]), ([2], [2]), ([0, 3], [0, 3]), ([], []), ([], []), ([6], [6]), ([7], [7]), ([5, 8], [5, 8]), ([9], [9]), ([4, 10, 10], [4, 10]), ([11, 11, 0, 1, 2, 3, 4, 5, 6, 7, 8, 9, 10, 11], [11])])
def spec_DrawSegRead.B9 : List Nat := [0, 0, 2, 6, 15, 0, 0, 64, 192, 480, 992, 2047, 4095]
theorem spec_DrawSegRead.tab9 : rtab .any (opsOf Tryd.f21 9) = spec_DrawSegRead.T9 := by kernel_rfl
theorem spec_DrawSegRead.bits9 : waitsOk spec_DrawSegRead.T9.2 spec_DrawSegRead.B9 = true := by kernel_rfl
set_option maxHeartbeats 8000000 in
set_option maxRecDepth 100000 in
theorem spec_DrawSegRead.calls (k : Nat) (A0 : Option Addr) (c0 : Nat) (l0 : List Int) (r : List Int) (w : World) (hr0 : Kd.C (Kd.int .u8) w A0 l0.length l0) (hc0 : l0.length ≤ c0) (h : spec_DrawSegRead.f k l0 = some r) :
  Calls Tryd.prog 21 #[.slice A0 l0.length c0] w fun e w' => ∃ v0_ : Value, e = .returned (v0_) ∧ Kd.R (Kd.int .u8) 5 w' w.heap.size (fun _ => True) v0_ r ∧ Below w.heap.size w w' := by
 have HR0 := Aside0.mk hr0
 have HC0 := Aside0.mk hc0
 clear hr0 hc0
 have HB := Aside0.mk (Below.refl w.heap.size w)
 have H : ((spec_l20Open.f l0).bind fun bt423 => ((spec_l20Seg.f k bt423.1 bt423.2 99999).bind fun bt426 => ((spec_SegBytes.f k bt426.1 bt426.2.1 bt426.2.2.1 bt426.2.2.2.1 bt426.2.2.2.2.1 bt426.2.2.2.2.2.1 bt426.2.2.2.2.2.2.1).bind fun t434 => ((spec_l20Rd_pick.f k bt423.1 bt426.2.2.2.2.2.2.2 4).bind fun bt437 => (if bt437.1 = 0 then ((spec_l20Turn.f k bt423.1 bt437.2 t434).bind fun bt439 => (some bt439.1)) else (if bt437.1 = 1 then ((spec_l20Turn.f k bt423.1 bt437.2 t434).bind fun bt443 => (if (bt443.1.length : Int) > 2 then (if 0 ≤ (wrap64 ((bt443.1.length : Int) - 2)) then (if (wrap64 ((bt443.1.length : Int) - 2)) ≤ (bt443.1.length : Int) then ((spec_SegSum.f k (bt443.1.take ((wrap64 ((bt443.1.length : Int) - 2)) : Int).toNat)).bind fun t455 => ((spec_l5Put.f (bt443.1.take ((wrap64 ((bt443.1.length : Int) - 2)) : Int).toNat) t455).bind fun t456 => (some t456))) else (none)) else (none)) else (some bt443.1))) else (some t434))))))) = some r := h
 clear h
 replace H := Option.bind_eq_some_iff.mp H
 obtain ⟨⟨t423, t424⟩, A20, H⟩ := H
 replace H : ((spec_l20Seg.f k t423 t424 99999).bind fun bt426 => ((spec_SegBytes.f k bt426.1 bt426.2.1 bt426.2.2.1 bt426.2.2.2.1 bt426.2.2.2.2.1 bt426.2.2.2.2.2.1 bt426.2.2.2.2.2.2.1).bind fun t434 => ((spec_l20Rd_pick.f k t423 bt426.2.2.2.2.2.2.2 4).bind fun bt437 => (if bt437.1 = 0 then ((spec_l20Turn.f k t423 bt437.2 t434).bind fun bt439 => (some bt439.1)) else (if bt437.1 = 1 then ((spec_l20Turn.f k t423 bt437.2 t434).bind fun bt443 => (if (bt443.1.length : Int) > 2 then (if 0 ≤ (wrap64 ((bt443.1.length : Int) - 2)) then (if (wrap64 ((bt443.1.length : Int) - 2)) ≤ (bt443.1.length : Int) then ((spec_SegSum.f k (bt443.1.take ((wrap64 ((bt443.1.length : Int) - 2)) : Int).toNat)).bind fun t455 => ((spec_l5Put.f (bt443.1.take ((wrap64 ((bt443.1.length : Int) - 2)) : Int).toNat) t455).bind fun t456 => (some t456))) else (none)) else (none)) else (some bt443.1))) else (some t434)))))) = some r := H
 have A2 := Aside0.mk A20
 clear A20
 replace H := Option.bind_eq_some_iff.mp H
 obtain ⟨⟨t426, t427, t428, t429, t430, t431, t432, t433⟩, A30, H⟩ := H
 replace H : ((spec_SegBytes.f k t426 t427 t428 t429 t430 t431 t432).bind fun t434 => ((spec_l20Rd_pick.f k t423 t433 4).bind fun bt437 => (if bt437.1 = 0 then ((spec_l20Turn.f k t423 bt437.2 t434).bind fun bt439 => (some bt439.1)) else (if bt437.1 = 1 then ((spec_l20Turn.f k t423 bt437.2 t434).bind fun bt443 => (if (bt443.1.length : Int) > 2 then (if 0 ≤ (wrap64 ((bt443.1.length : Int) - 2)) then (if (wrap64 ((bt443.1.length : Int) - 2)) ≤ (bt443.1.length : Int) then ((spec_SegSum.f k (bt443.1.take ((wrap64 ((bt443.1.length : Int) - 2)) : Int).toNat)).bind fun t455 => ((spec_l5Put.f (bt443.1.take ((wrap64 ((bt443.1.length : Int) - 2)) : Int).toNat) t455).bind fun t456 => (some t456))) else (none)) else (none)) else (some bt443.1))) else (some t434))))) = some r := H
 have A3 := Aside0.mk A30
 clear A30
 replace H := Option.bind_eq_some_iff.mp H
 obtain ⟨t434, A40, H⟩ := H
 replace H : ((spec_l20Rd_pick.f k t423 t433 4).bind fun bt437 => (if bt437.1 = 0 then ((spec_l20Turn.f k t423 bt437.2 t434).bind fun bt439 => (some bt439.1)) else (if bt437.1 = 1 then ((spec_l20Turn.f k t423 bt437.2 t434).bind fun bt443 => (if (bt443.1.length : Int) > 2 then (if 0 ≤ (wrap64 ((bt443.1.length : Int) - 2)) then (if (wrap64 ((bt443.1.length : Int) - 2)) ≤ (bt443.1.length : Int) then ((spec_SegSum.f k (bt443.1.take ((wrap64 ((bt443.1.length : Int) - 2)) : Int).toNat)).bind fun t455 => ((spec_l5Put.f (bt443.1.take ((wrap64 ((bt443.1.length : Int) - 2)) : Int).toNat) t455).bind fun t456 => (some t456))) else (none)) else (none)) else (some bt443.1))) else (some t434)))) = some r := H
 have A4 := Aside0.mk A40
 clear A40
 replace H := Option.bind_eq_some_iff.mp H
 obtain ⟨⟨t437, t438⟩, A50, H⟩ := H
 replace H : (if t437 = 0 then ((spec_l20Turn.f k t423 t438 t434).bind fun bt439 => (some bt439.1)) else (if t437 = 1 then ((spec_l20Turn.f k t423 t438 t434).bind fun bt443 => (if (bt443.1.length : Int) > 2 then (if 0 ≤ (wrap64 ((bt443.1.length : Int) - 2)) then (if (wrap64 ((bt443.1.length : Int) - 2)) ≤ (bt443.1.length : Int) then ((spec_SegSum.f k (bt443.1.take ((wrap64 ((bt443.1.length : Int) - 2)) : Int).toNat)).bind fun t455 => ((spec_l5Put.f (bt443.1.take ((wrap64 ((bt443.1.length : Int) - 2)) : Int).toNat) t455).bind fun t456 => (some t456))) else (none)) else (none)) else (some bt443.1))) else (some t434))) = some r := H
 have A5 := Aside0.mk A50
 clear A50
 by_cases c6 : t437 = 0
 ·rw [if_pos c6] at H
  have c6b0 : (t437 == 0) = true := beq_iff_eq.mpr c6
  have c6b1 : (t437 != 0) = false := bne_eq_false_iff_eq.mpr c6
  clear c6
  replace H := Option.bind_eq_some_iff.mp H
  obtain ⟨⟨t439, t442⟩, A70, H⟩ := H
  replace H : (some t439) = some r := H
  have A7 := Aside0.mk A70
  clear A70
  obtain rfl := Option.some.inj H
  go_enter Tryd.func21, Tryd.ntmps21
  go_wp2_with (first | ((with_reducible refine gate_callee (f := 27) rfl ?_); refine goesL_ (some 7) rfl rfl Tryd.func27 (by kernel_rfl) rfl #[.slice A0 l0.length c0] rfl Z37 ?_; (with_reducible refine (spec_l20Open.calls _ _ l0 t423 t424 w _ ?side1 ?side2 ?side3 A2.out).mono ?_); (case side1 => exact Z34); (case side2 => exact HR0.out); (case side3 => exact HC0.out); rintro e w8 ⟨g425, rfl, hi, hb, hb2⟩; refine ⟨_, rfl, ?_⟩; have n0_ := Aside0.mk (hb); have n1_ := Aside0.mk (hi); clear HB; have HB := n0_; have HI425 := n1_; clear n0_ n1_; (try clear hb); (try clear hb2); (try clear hi)) | ((with_reducible refine gate_callee (f := 26) rfl ?_); refine goesL_ (some 9) rfl rfl Tryd.func26 (by kernel_rfl) rfl #[.pointer (some ⟨g425, 0, none⟩), .int .i64 99999] rfl Z37 ?_; (with_reducible refine (spec_l20Seg.calls k g425 t423 t424 99999 t426 t427 t428 t429 t430 t431 t432 t433 w _ ?side1 ?side2 A3.out).mono ?_); (case side1 => exact Z42); (case side2 => exact Z58); rintro e w9 ⟨rfl, hi, hb, hk⟩; refine ⟨_, rfl, ?_⟩; have n0_ := Aside0.mk (hb); have n1_ := Aside0.mk (hi); clear HB; clear HI425; have HB := n0_; have HI425 := n1_; clear n0_ n1_; (try clear hb); (try clear hk); (try clear hi)) | ((with_reducible refine gate_callee (f := 15) rfl ?_); refine goesL_ (some 10) rfl rfl Tryd.func15 (by kernel_rfl) rfl #[.agg #[.int .i64 t426, .int .i64 t427, .int .i64 t428, .int .i64 t429, .int .i64 t430, .int .i64 t431, .string t432]] rfl Z37 ?_; (with_reducible refine (spec_SegBytes.calls k t426 t427 t428 t429 t430 t431 t432 t434 _ A4.out).mono ?_); rintro e w10 ⟨v435, rfl, ho0, hb⟩; refine ⟨_, rfl, ?_⟩; have n0_ := Aside0.mk (Kd.R_lower ho0 (below_size Z59)); have n1_ := Aside0.mk (IsS64.below Z43 hb); have n2_ := Aside0.mk (below_step Z59 hb); clear HI425; clear HB; have HO436 := n0_; have HI425 := n1_; have HB := n2_; clear n0_ n1_ n2_; (try clear hb); (try clear ho0)) | ((with_reducible refine gate_callee (f := 38) rfl ?_); refine goesL_ (some 12) rfl rfl Tryd.func38 (by kernel_rfl) rfl #[.pointer (some ⟨g425, 0, none⟩), .int .i64 4] rfl Z37 ?_; (with_reducible refine (spec_l20Rd_pick.calls k g425 t423 t433 4 t437 t438 w _ ?side1 ?side2 A5.out).mono ?_); (case side1 => exact Z42); (case side2 => exact Z58); rintro e w11 ⟨rfl, hi, hb, hk⟩; refine ⟨_, rfl, ?_⟩; have n0_ := Aside0.mk (Kd.R_mono (Kd.R_keep (IsS64.apart (show IsS64 w _ g425 t423 t433 from by repeat (first | (with_reducible first | exact HI425.out | apply IsS64.alloc | apply IsS64.drewN | apply IsS64.drew | apply IsS64.set_1) | exact HI425.out)) Z15 (by decide)) hk (fun _ h => h.2)) (fun _ h => h.1)); have n1_ := Aside0.mk (hb); have n2_ := Aside0.mk (hi); clear HO436; clear HB; clear HI425; have HO436 := n0_; have HB := n1_; have HI425 := n2_; clear n0_ n1_ n2_; (try clear hb); (try clear hk); (try clear hi); obtain ⟨Ao12, co12, eo12⟩ := Kd.R_slice HO436.out; subst eo12) | ((with_reducible refine gate_callee (f := 39) rfl ?_); refine goesL_ (some 17) rfl rfl Tryd.func39 (by kernel_rfl) rfl #[.pointer (some ⟨g425, 0, none⟩), .slice Ao12 t434.length co12] rfl Z37 ?_; (with_reducible refine (spec_l20Turn.calls k g425 t423 t438 _ _ t434 t439 t442 w _ ?side1 ?side2 ?side3 ?side4 ?side5 A7.out).mono ?_); (case side1 => exact Z42); (case side2 => exact Z58); (case side3 => exact Z56); (case side4 => exact (Kd.R_reads' HO436.out).2.1); (case side5 => exact far_slice (IsS64.own_ne HI425.out HO436.out (by decide))); rintro e w13 ⟨v440, rfl, ho0, hi, hb, hk⟩; refine ⟨_, rfl, ?_⟩; have n0_ := Aside0.mk (Kd.R_mono (Kd.R_told (Kd.R_oldK (IsS64.apart (show IsS64 w _ g425 t423 t438 from by repeat (first | (with_reducible first | exact HI425.out | apply IsS64.alloc | apply IsS64.drewN | apply IsS64.drew | apply IsS64.set_1) | exact HI425.out)) Z15 (by decide)) hk) (Kd.R_base ho0)) (fun _ h_ => h_.1)); have n1_ := Aside0.mk (Kd.R_lower (Kd.R_new' ho0 (Kd.R_lt Z15)) (below_size Z59)); have n2_ := Aside0.mk (hb); have n3_ := Aside0.mk (hi); clear HO436; clear HB; clear HI425; have HO436 := n0_; have HO441 := n1_; have HB := n2_; have HI425 := n3_; clear n0_ n1_ n2_ n3_; (try clear hb); (try clear hk); (try clear hi); (try clear ho0)))
  go_ret
  exact ⟨_, by first | rfl | (simp [errW_none, errW_some] <;> rfl) | (simp [*, errW_none, errW_some] <;> rfl), by (with_reducible repeat (first | apply Kd.R_alloc | apply Kd.R_drewN | apply Kd.R_drew)); exact Kd.R_mono HO441.out (fun _ hk => trivial), by repeat (first | (with_reducible first | exact HB.out | apply below_alloc | apply pw_below_drewN | apply below_drew1 | refine below_set ?_ (IsS64.ge HI425.out)) | exact HB.out)⟩
 ·rw [if_neg c6] at H
  have c6b0 : (t437 == 0) = false := beq_eq_false_iff_ne.mpr c6
  have c6b1 : (t437 != 0) = true := bne_iff_ne.mpr c6
  by_cases c14 : t437 = 1
  ·rw [if_pos c14] at H
   have c14b0 : (t437 == 1) = true := beq_iff_eq.mpr c14
   have c14b1 : (t437 != 1) = false := bne_eq_false_iff_eq.mpr c14
   clear c14
   replace H := Option.bind_eq_some_iff.mp H
   obtain ⟨⟨t443, t446⟩, A150, H⟩ := H
   replace H : (if (t443.length : Int) > 2 then (if 0 ≤ (wrap64 ((t443.length : Int) - 2)) then (if (wrap64 ((t443.length : Int) - 2)) ≤ (t443.length : Int) then ((spec_SegSum.f k (t443.take ((wrap64 ((t443.length : Int) - 2)) : Int).toNat)).bind fun t455 => ((spec_l5Put.f (t443.take ((wrap64 ((t443.length : Int) - 2)) : Int).toNat) t455).bind fun t456 => (some t456))) else (none)) else (none)) else (some t443)) = some r := H
   have A15 := Aside0.mk A150
   clear A150
   by_cases c16 : (t443.length : Int) > 2
   ·rw [if_pos c16] at H
    have c16b0 : decide (2 < (t443.length : Int)) = true := decide_eq_true c16
    have c16b1 : decide (2 < t443.length) = true := decide_eq_true (by omega)
    clear c16
    obtain ⟨ji17, hji17⟩ : ∃ j_ : Int, (wrap64 ((t443.length : Int) - 2)) = j_ := ⟨_, rfl⟩
    replace H : (if 0 ≤ (ji17) then (if (ji17) ≤ (t443.length : Int) then ((spec_SegSum.f k (t443.take ((ji17) : Int).toNat)).bind fun t455 => ((spec_l5Put.f (t443.take ((ji17) : Int).toNat) t455).bind fun t456 => (some t456))) else (none)) else (none)) = some r := by first | (rw [hji17] at H; exact H) | (simp only [hji17] at H ⊢; exact H)
    (try rw [hji17] at A2)
    (try rw [hji17] at A3)
    (try rw [hji17] at A4)
    (try rw [hji17] at A5)
    (try rw [hji17] at A15)
    have hji17w : (IntKind.i64.wrap ((t443.length : Int) - 2)) = ji17 := (i64_w _).trans hji17
    by_cases c18 : 0 ≤ (ji17)
    ·rw [if_pos c18] at H
     have c18b0 := eq_true c18
     have c18b1 : decide (0 ≤ (ji17)) = true := decide_eq_true c18
     clear c18
     by_cases c19 : (ji17) ≤ (t443.length : Int)
     ·rw [if_pos c19] at H
      have c19b0 := eq_true c19
      have c19b1 : decide ((ji17) ≤ (t443.length : Int)) = true := decide_eq_true c19
      clear c19
      obtain ⟨y447, hy447⟩ : ∃ y_ : List Int, y_ = (t443.take ((ji17) : Int).toNat) := ⟨_, rfl⟩
      replace H : ((spec_SegSum.f k (t443.take ((ji17) : Int).toNat)).bind fun t455 => ((spec_l5Put.f y447 t455).bind fun t456 => (some t456))) = some r := by first | (rw [hy447]; with_reducible exact H) | (have H2_ := (Option.bind_some _ _).symm.trans H; rw [hy447]; with_reducible exact H2_) | (have H2_ := (Option.bind_some _ _).symm.trans H; with_reducible exact H2_) | with_reducible exact H | (rw [hy447]; exact H) | exact H
      have Ny447 := Aside0.mk hy447
      clear hy447
      have c20b0 := eq_true (of_decide_eq_true Z2 : 0 ≤ (ji17))
      have c21b0 := eq_true (of_decide_eq_true Z2 : (ji17) ≤ (t443.length : Int))
      obtain ⟨y451, hy451⟩ : ∃ y_ : List Int, y_ = (t443.take ((ji17) : Int).toNat) := ⟨_, rfl⟩
      replace H : ((spec_SegSum.f k y451).bind fun t455 => ((spec_l5Put.f y447 t455).bind fun t456 => (some t456))) = some r := by first | (rw [hy451]; with_reducible exact H) | (have H2_ := (Option.bind_some _ _).symm.trans H; rw [hy451]; with_reducible exact H2_) | (have H2_ := (Option.bind_some _ _).symm.trans H; with_reducible exact H2_) | with_reducible exact H | (rw [hy451]; exact H) | exact H
      have Ny451 := Aside0.mk hy451
      clear hy451
      replace H := Option.bind_eq_some_iff.mp H
      obtain ⟨t455, A220, H⟩ := H
      replace H : ((spec_l5Put.f y447 t455).bind fun t456 => (some t456)) = some r := H
      have A22 := Aside0.mk A220
      clear A220
      replace H := Option.bind_eq_some_iff.mp H
      obtain ⟨t456, A230, H⟩ := H
      replace H : (some t456) = some r := H
      have A23 := Aside0.mk A230
      clear A230
      obtain rfl := Option.some.inj H
      go_enter Tryd.func21, Tryd.ntmps21
      try go_wp2_with (first | ((with_reducible refine gate_callee (f := 27) rfl ?_); refine goesL_ (some 7) rfl rfl Tryd.func27 (by kernel_rfl) rfl #[.slice A0 l0.length c0] rfl Z37 ?_; (with_reducible refine (spec_l20Open.calls _ _ l0 t423 t424 w _ ?side1 ?side2 ?side3 A2.out).mono ?_); (case side1 => exact Z34); (case side2 => exact HR0.out); (case side3 => exact HC0.out); rintro e w24 ⟨g425, rfl, hi, hb, hb2⟩; refine ⟨_, rfl, ?_⟩; have n0_ := Aside0.mk (hb); have n1_ := Aside0.mk (hi); clear HB; have HB := n0_; have HI425 := n1_; clear n0_ n1_; (try clear hb); (try clear hb2); (try clear hi)) | ((with_reducible refine gate_callee (f := 26) rfl ?_); refine goesL_ (some 9) rfl rfl Tryd.func26 (by kernel_rfl) rfl #[.pointer (some ⟨g425, 0, none⟩), .int .i64 99999] rfl Z37 ?_; (with_reducible refine (spec_l20Seg.calls k g425 t423 t424 99999 t426 t427 t428 t429 t430 t431 t432 t433 w _ ?side1 ?side2 A3.out).mono ?_); (case side1 => exact Z42); (case side2 => exact Z58); rintro e w25 ⟨rfl, hi, hb, hk⟩; refine ⟨_, rfl, ?_⟩; have n0_ := Aside0.mk (hb); have n1_ := Aside0.mk (hi); clear HB; clear HI425; have HB := n0_; have HI425 := n1_; clear n0_ n1_; (try clear hb); (try clear hk); (try clear hi)) | ((with_reducible refine gate_callee (f := 15) rfl ?_); refine goesL_ (some 10) rfl rfl Tryd.func15 (by kernel_rfl) rfl #[.agg #[.int .i64 t426, .int .i64 t427, .int .i64 t428, .int .i64 t429, .int .i64 t430, .int .i64 t431, .string t432]] rfl Z37 ?_; (with_reducible refine (spec_SegBytes.calls k t426 t427 t428 t429 t430 t431 t432 t434 _ A4.out).mono ?_); rintro e w26 ⟨v435, rfl, ho0, hb⟩; refine ⟨_, rfl, ?_⟩; have n0_ := Aside0.mk (Kd.R_lower ho0 (below_size Z59)); have n1_ := Aside0.mk (IsS64.below Z43 hb); have n2_ := Aside0.mk (below_step Z59 hb); clear HI425; clear HB; have HO436 := n0_; have HI425 := n1_; have HB := n2_; clear n0_ n1_ n2_; (try clear hb); (try clear ho0)) | ((with_reducible refine gate_callee (f := 38) rfl ?_); refine goesL_ (some 12) rfl rfl Tryd.func38 (by kernel_rfl) rfl #[.pointer (some ⟨g425, 0, none⟩), .int .i64 4] rfl Z37 ?_; (with_reducible refine (spec_l20Rd_pick.calls k g425 t423 t433 4 t437 t438 w _ ?side1 ?side2 A5.out).mono ?_); (case side1 => exact Z42); (case side2 => exact Z58); rintro e w27 ⟨rfl, hi, hb, hk⟩; refine ⟨_, rfl, ?_⟩; have n0_ := Aside0.mk (Kd.R_mono (Kd.R_keep (IsS64.apart (show IsS64 w _ g425 t423 t433 from by repeat (first | (with_reducible first | exact HI425.out | apply IsS64.alloc | apply IsS64.drewN | apply IsS64.drew | apply IsS64.set_1) | exact HI425.out)) Z15 (by decide)) hk (fun _ h => h.2)) (fun _ h => h.1)); have n1_ := Aside0.mk (hb); have n2_ := Aside0.mk (hi); clear HO436; clear HB; clear HI425; have HO436 := n0_; have HB := n1_; have HI425 := n2_; clear n0_ n1_ n2_; (try clear hb); (try clear hk); (try clear hi); obtain ⟨Ao28, co28, eo28⟩ := Kd.R_slice HO436.out; subst eo28) | ((with_reducible refine gate_callee (f := 39) rfl ?_); refine goesL_ (some 22) rfl rfl Tryd.func39 (by kernel_rfl) rfl #[.pointer (some ⟨g425, 0, none⟩), .slice Ao28 t434.length co28] rfl Z37 ?_; (with_reducible refine (spec_l20Turn.calls k g425 t423 t438 _ _ t434 t443 t446 w _ ?side1 ?side2 ?side3 ?side4 ?side5 A15.out).mono ?_); (case side1 => exact Z42); (case side2 => exact Z58); (case side3 => exact Z56); (case side4 => exact (Kd.R_reads' HO436.out).2.1); (case side5 => exact far_slice (IsS64.own_ne HI425.out HO436.out (by decide))); rintro e w29 ⟨v444, rfl, ho0, hi, hb, hk⟩; refine ⟨_, rfl, ?_⟩; have n0_ := Aside0.mk (Kd.R_mono (Kd.R_told (Kd.R_oldK (IsS64.apart (show IsS64 w _ g425 t423 t438 from by repeat (first | (with_reducible first | exact HI425.out | apply IsS64.alloc | apply IsS64.drewN | apply IsS64.drew | apply IsS64.set_1) | exact HI425.out)) Z15 (by decide)) hk) (Kd.R_base ho0)) (fun _ h_ => h_.1)); have n1_ := Aside0.mk (Kd.R_lower (Kd.R_new' ho0 (Kd.R_lt Z15)) (below_size Z59)); have n2_ := Aside0.mk (hb); have n3_ := Aside0.mk (hi); clear HO436; clear HB; clear HI425; have HO436 := n0_; have HO445 := n1_; have HB := n2_; have HI425 := n3_; clear n0_ n1_ n2_ n3_; (try clear hb); (try clear hk); (try clear hi); (try clear ho0); obtain ⟨Ao30, co30, eo30⟩ := Kd.R_slice HO445.out; subst eo30))
      have n0_ := Aside0.mk (Kd.R_drew HO436.out)
      have n1_ := Aside0.mk (Kd.R_drew HO445.out)
      have n2_ := Aside0.mk (IsS64.drew HI425.out)
      have n3_ := Aside0.mk (below_drew1 HB.out)
      clear HO436
      clear HO445
      clear HI425
      clear HB
      have HO436 := n0_
      have HO445 := n1_
      have HI425 := n2_
      have HB := n3_
      clear n0_ n1_ n2_ n3_
      have q32 : ((ji17) : Int) ≤ ((t443.length : Int) : Int) := of_decide_eq_true Z2
      obtain ⟨i032, hi032, _, hsz32, _⟩ := info_parts info5
      have hroom32 : t443.length ≤ co30 := (Kd.R_reads' HO445.out).2.1
      have hC32 : Kd.C (Kd.int .u8) _ Ao30 t443.length t443 := (Kd.R_reads' HO445.out).2.2
      have hcut32 := cut_to (P := Tryd.prog) 22 5 .i64 Tryd.underlying22 hi032 Ao30 t443.length co30 (ji17) (of_decide_eq_true Z2) q32 hroom32
      have hr32 := Kd.C_take (m := ((ji17) : Int).toNat) hC32 (by omega)
      have hy32 : y447.length = ((ji17) : Int).toNat := (by rw [Ny447.out, List.length_take]; omega)
      rw [← Ny447.out] at hr32
      rw [← hy32] at hcut32
      have HR450 := Aside0.mk hr32
      have HC450 := Aside0.mk (show y447.length ≤ co30 from by omega)
      clear hr32 hC32 hroom32 hi032 hsz32
      have KY32 := Aside0.mk hy32
      clear hy32
      have KL32 := Aside0.mk (show ((ji17) : Int).toNat ≤ t443.length from by omega)
      replace q32 := eq_true q32
      have q33 : ((ji17) : Int) ≤ ((t443.length : Int) : Int) := of_decide_eq_true Z2
      obtain ⟨i033, hi033, _, hsz33, _⟩ := info_parts info5
      have hroom33 : t443.length ≤ co30 := (Kd.R_reads' HO445.out).2.1
      have hC33 : Kd.C (Kd.int .u8) _ Ao30 t443.length t443 := (Kd.R_reads' HO445.out).2.2
      have hcut33 := cut_to (P := Tryd.prog) 22 5 .i64 Tryd.underlying22 hi033 Ao30 t443.length co30 (ji17) (of_decide_eq_true Z2) q33 hroom33
      have hr33 := Kd.C_take (m := ((ji17) : Int).toNat) hC33 (by omega)
      have hy33 : y451.length = ((ji17) : Int).toNat := (by rw [Ny451.out, List.length_take]; omega)
      rw [← Ny451.out] at hr33
      rw [← hy33] at hcut33
      have HR454 := Aside0.mk hr33
      have HC454 := Aside0.mk (show y451.length ≤ co30 from by omega)
      clear hr33 hC33 hroom33 hi033 hsz33
      have KY33 := Aside0.mk hy33
      clear hy33
      have KL33 := Aside0.mk (show ((ji17) : Int).toNat ≤ t443.length from by omega)
      replace q33 := eq_true q33
      refine start_ (n := 13) (S := fun w' => True) (ds := []) #[false, false, false, false, false, false, false, false, false, false, false, false, false] (by kernel_rfl) rfl rfl trivial (fun hHeld => ?_); refine with_tabW spec_DrawSegRead.tab9 spec_DrawSegRead.bits9 (fun HT_ HW_ => ?_)
      generalize w29.drew = w31 at HO436 HO445 HI425 HB HR450 HR454 hHeld ⊢
      refine pure_ (i := 0) (N := some 26) (v := ?_) (a' := ?_) #[true, false, false, false, false, false, false, false, false, false, false, false, false] rfl rfl (any_of HT_.out (by kernel_rfl)) (fun _ _ _ h => h) (Or.inl ⟨by rfl, ?_⟩) ?_ ?_
      rotate_left
      ·intro w'
       go_simp
       with_reducible rfl
      rotate_left
      ·simp only [Act.put, List.setIfInBounds_toArray, List.set_cons_zero, List.set_cons_succ, i64_w, i32_w]
       rfl
      refine pure_ (i := 1) (N := some 27) (v := ?_) (a' := ?_) #[true, true, false, false, false, false, false, false, false, false, false, false, false] rfl rfl (any_of HT_.out (by kernel_rfl)) (fun _ _ _ h => h) (Or.inl ⟨by rfl, ?_⟩) ?_ ?_
      rotate_left
      ·intro w'
       go_simp
       with_reducible rfl
      rotate_left
      ·simp only [Act.put, List.setIfInBounds_toArray, List.set_cons_zero, List.set_cons_succ, i64_w, i32_w]
       rfl
      refine pure_ (i := 2) (N := some 28) (v := ?_) (a' := ?_) #[true, true, true, false, false, false, false, false, false, false, false, false, false] rfl rfl (any_of HT_.out (by kernel_rfl)) (fun _ _ _ h => h) (Or.inl ⟨by rfl, ?_⟩) ?_ ?_
      rotate_left
      ·intro w'
       go_simp
       with_reducible rfl
      rotate_left
      ·simp only [Act.put, List.setIfInBounds_toArray, List.set_cons_zero, List.set_cons_succ, i64_w, i32_w]
       rfl
      refine pure_ (i := 3) (N := some 29) (v := ?_) (a' := ?_) #[true, true, true, true, false, false, false, false, false, false, false, false, false] rfl rfl (any_of HT_.out (by kernel_rfl)) (fun _ _ _ h => h) (Or.inl ⟨by rfl, ?_⟩) ?_ ?_
      rotate_left
      ·intro w'
       go_simp
       with_reducible rfl
      rotate_left
      ·simp only [Act.put, List.setIfInBounds_toArray, List.set_cons_zero, List.set_cons_succ, i64_w, i32_w]
       rfl
      refine pure_ (i := 4) (N := some 30) (v := ?_) (a' := ?_) #[true, true, true, true, true, false, false, false, false, false, false, false, false] rfl rfl (any_of HT_.out (by kernel_rfl)) (fun _ _ _ h => h) (Or.inl ⟨by rfl, ?_⟩) ?_ ?_
      rotate_left
      ·intro w'
       go_simp
       with_reducible rfl
      rotate_left
      ·simp only [Act.put, List.setIfInBounds_toArray, List.set_cons_zero, List.set_cons_succ, i64_w, i32_w]
       rfl
      refine pure_ (i := 5) (N := some 31) (v := ?_) (a' := ?_) #[true, true, true, true, true, true, false, false, false, false, false, false, false] rfl rfl (any_of HT_.out (by kernel_rfl)) (fun _ _ _ h => h) (Or.inl ⟨by rfl, ?_⟩) ?_ ?_
      rotate_left
      ·intro w'
       go_simp
       with_reducible rfl
      rotate_left
      ·simp only [Act.put, List.setIfInBounds_toArray, List.set_cons_zero, List.set_cons_succ, i64_w, i32_w]
       rfl
      refine pure_ (i := 6) (N := some 32) (v := ?_) (a' := ?_) #[true, true, true, true, true, true, true, false, false, false, false, false, false] rfl rfl (any_of HT_.out (by kernel_rfl)) (fun _ _ _ h => h) (Or.inl ⟨by rfl, ?_⟩) ?_ ?_
      rotate_left
      ·intro w'
       go_simp
       with_reducible rfl
      rotate_left
      ·simp only [Act.put, List.setIfInBounds_toArray, List.set_cons_zero, List.set_cons_succ, i64_w, i32_w]
       rfl
      refine pure_ (i := 7) (N := some 33) (v := ?_) (a' := ?_) #[true, true, true, true, true, true, true, true, false, false, false, false, false] rfl rfl (any_of HT_.out (by kernel_rfl)) (fun _ _ _ h => h) (Or.inl ⟨by rfl, ?_⟩) ?_ ?_
      rotate_left
      ·intro w'
       go_simp
       with_reducible rfl
      rotate_left
      ·simp only [Act.put, List.setIfInBounds_toArray, List.set_cons_zero, List.set_cons_succ, i64_w, i32_w]
       rfl
      refine pure_ (i := 8) (N := some 34) (v := ?_) (a' := ?_) #[true, true, true, true, true, true, true, true, true, false, false, false, false] rfl rfl (any_of HT_.out (by kernel_rfl)) (fun _ _ _ h => h) (Or.inl ⟨by rfl, ?_⟩) ?_ ?_
      rotate_left
      ·intro w'
       go_simp
       with_reducible rfl
      rotate_left
      ·simp only [Act.put, List.setIfInBounds_toArray, List.set_cons_zero, List.set_cons_succ, i64_w, i32_w]
       rfl
      refine pure_ (i := 9) (N := some 35) (v := ?_) (a' := ?_) #[true, true, true, true, true, true, true, true, true, true, false, false, false] rfl rfl (any_of HT_.out (by kernel_rfl)) (fun _ _ _ h => h) (Or.inl ⟨by rfl, ?_⟩) ?_ ?_
      rotate_left
      ·intro w'
       go_simp
       with_reducible rfl
      rotate_left
      ·simp only [Act.put, List.setIfInBounds_toArray, List.set_cons_zero, List.set_cons_succ, i64_w, i32_w]
       rfl
      refine one_ (i := 10) (N := some 36) #[true, true, true, true, true, true, true, true, true, true, true, false, false] rfl rfl (one_of HT_.out (by kernel_rfl)) (by decide) (fun K hK => ?_)
      refine goes_ Tryd.func19 (by kernel_rfl) rfl #[.slice Ao30 y451.length co30] (by rfl) rfl rfl (by (try simp only [List.map_toArray, List.map_cons, List.map_nil]); first | done | rfl | (have h_ : (y451).length = (y447).length := KY33.out.trans KY32.out.symm; rw [h_]; rfl) | (simp only [List.length_drop, List.length_take]; rfl)) ?_
      with_reducible refine (spec_SegSum.calls k _ _ y451 t455 _ ?side1 ?side2 A22.out).mono ?_
      (case side1 => repeat (first | exact Z70 | (with_reducible refine Kd.C_alloc ?_ _) | (with_reducible refine Kd.C_drewN ?_ _) | (with_reducible refine Kd.C_drew ?_)))
      (case side2 => exact HC454.out)
      rintro e w' ⟨rfl, ⟨nd, rfl⟩⟩
      refine ⟨_, rfl, ?_⟩
      refine hK.out _ _ trivial (fun hHeld => ?_)
      clear hK K
      refine norm_ (a' := ?_) ?_ ?_
      rotate_left
      ·show Act.put _ (some 36) _ = _
       simp only [Act.put, List.setIfInBounds_toArray, List.set_cons_zero, List.set_cons_succ, i64_w, i32_w]
       rfl
      refine one_ (i := 11) (N := some 37) #[true, true, true, true, true, true, true, true, true, true, true, true, false] rfl rfl (one_of HT_.out (by kernel_rfl)) (by decide) (fun K hK => ?_)
      refine goes_ Tryd.func30 (by kernel_rfl) rfl #[.slice Ao30 y447.length co30, .int .i64 t455] (by rfl) rfl rfl Z37 ?_
      with_reducible refine (spec_l5Put.calls _ _ y447 t455 t456 _ ?side1 ?side2 A23.out).mono ?_
      (case side1 => repeat (first | exact Z71 | (with_reducible refine Kd.C_alloc ?_ _) | (with_reducible refine Kd.C_drewN ?_ _) | (with_reducible refine Kd.C_drew ?_)))
      (case side2 => exact HC450.out)
      rintro e w34 ⟨v457, rfl, ho0, hb⟩
      refine ⟨_, rfl, ?_⟩
      have n0_ := Aside0.mk (Kd.R_elder' Z15 (Kd.R_base ho0) hb)
      have n1_ := Aside0.mk (Kd.R_elder' Z16 (Kd.R_base ho0) hb)
      have n2_ := Aside0.mk (Kd.R_lower (Kd.R_new' (Kd.R_new' ho0 (Kd.R_lt Z15)) (Kd.R_lt Z16)) (below_size Z59))
      have n3_ := Aside0.mk (IsS64.below Z43 hb)
      have n4_ := Aside0.mk (Kd.C_below Z71 hb)
      have n5_ := Aside0.mk (Kd.C_below Z70 hb)
      have n6_ := Aside0.mk (below_step Z59 hb)
      clear HO436
      clear HO445
      clear HI425
      clear HR450
      clear HR454
      clear HB
      have HO436 := n0_
      have HO445 := n1_
      have HO458 := n2_
      have HI425 := n3_
      have HR450 := n4_
      have HR454 := n5_
      have HB := n6_
      clear n0_ n1_ n2_ n3_ n4_ n5_ n6_
      (try clear hb)
      (try clear hb2)
      (try clear hk)
      (try clear hi)
      (try clear ho0)
      refine hK.out _ _ trivial (fun hHeld => ?_)
      clear hK K
      refine norm_ (a' := ?_) ?_ ?_
      rotate_left
      ·show Act.put _ (some 37) _ = _
       simp only [Act.put, List.setIfInBounds_toArray, List.set_cons_zero, List.set_cons_succ, i64_w, i32_w]
       rfl
      refine pure_ (i := 12) (N := some 2) (v := ?_) (a' := ?_) #[true, true, true, true, true, true, true, true, true, true, true, true, true] rfl rfl (any_of HT_.out (by kernel_rfl)) (fun _ _ _ h => h) (Or.inl ⟨by rfl, ?_⟩) ?_ ?_
      rotate_left
      ·intro w'
       go_simp
       with_reducible rfl
      rotate_left
      ·simp only [Act.put, List.setIfInBounds_toArray, List.set_cons_zero, List.set_cons_succ, i64_w, i32_w]
       rfl
      refine done_ (done_of HT_.out (by kernel_rfl)) ?_
      try go_wp2
      go_ret
      exact ⟨_, by first | rfl | (simp [errW_none, errW_some] <;> rfl) | (simp only [← hji17]; first | rfl | (simp [errW_none, errW_some] <;> rfl)) | (simp [*, errW_none, errW_some] <;> rfl), by (with_reducible repeat (first | apply Kd.R_alloc | apply Kd.R_drewN | apply Kd.R_drew)); exact Kd.R_mono HO458.out (fun _ hk => trivial), by repeat (first | (with_reducible first | exact HB.out | apply below_alloc | apply pw_below_drewN | apply below_drew1 | refine below_set ?_ (IsS64.ge HI425.out)) | exact HB.out)⟩
     ·rw [if_neg c19] at H
      exact absurd H (by simp)
    ·rw [if_neg c18] at H
     exact absurd H (by simp)
   ·rw [if_neg c16] at H
    have c16b0 : decide (2 < (t443.length : Int)) = false := decide_eq_false c16
    have c16b1 : decide (2 < t443.length) = false := decide_eq_false (by omega)
    clear c16
    obtain rfl := Option.some.inj H
    go_enter Tryd.func21, Tryd.ntmps21
    go_wp2_with (first | ((with_reducible refine gate_callee (f := 27) rfl ?_); refine goesL_ (some 7) rfl rfl Tryd.func27 (by kernel_rfl) rfl #[.slice A0 l0.length c0] rfl Z37 ?_; (with_reducible refine (spec_l20Open.calls _ _ l0 t423 t424 w _ ?side1 ?side2 ?side3 A2.out).mono ?_); (case side1 => exact Z34); (case side2 => exact HR0.out); (case side3 => exact HC0.out); rintro e w35 ⟨g425, rfl, hi, hb, hb2⟩; refine ⟨_, rfl, ?_⟩; have n0_ := Aside0.mk (hb); have n1_ := Aside0.mk (hi); clear HB; have HB := n0_; have HI425 := n1_; clear n0_ n1_; (try clear hb); (try clear hb2); (try clear hi)) | ((with_reducible refine gate_callee (f := 26) rfl ?_); refine goesL_ (some 9) rfl rfl Tryd.func26 (by kernel_rfl) rfl #[.pointer (some ⟨g425, 0, none⟩), .int .i64 99999] rfl Z37 ?_; (with_reducible refine (spec_l20Seg.calls k g425 t423 t424 99999 t426 t427 t428 t429 t430 t431 t432 t433 w _ ?side1 ?side2 A3.out).mono ?_); (case side1 => exact Z42); (case side2 => exact Z58); rintro e w36 ⟨rfl, hi, hb, hk⟩; refine ⟨_, rfl, ?_⟩; have n0_ := Aside0.mk (hb); have n1_ := Aside0.mk (hi); clear HB; clear HI425; have HB := n0_; have HI425 := n1_; clear n0_ n1_; (try clear hb); (try clear hk); (try clear hi)) | ((with_reducible refine gate_callee (f := 15) rfl ?_); refine goesL_ (some 10) rfl rfl Tryd.func15 (by kernel_rfl) rfl #[.agg #[.int .i64 t426, .int .i64 t427, .int .i64 t428, .int .i64 t429, .int .i64 t430, .int .i64 t431, .string t432]] rfl Z37 ?_; (with_reducible refine (spec_SegBytes.calls k t426 t427 t428 t429 t430 t431 t432 t434 _ A4.out).mono ?_); rintro e w37 ⟨v435, rfl, ho0, hb⟩; refine ⟨_, rfl, ?_⟩; have n0_ := Aside0.mk (Kd.R_lower ho0 (below_size Z59)); have n1_ := Aside0.mk (IsS64.below Z43 hb); have n2_ := Aside0.mk (below_step Z59 hb); clear HI425; clear HB; have HO436 := n0_; have HI425 := n1_; have HB := n2_; clear n0_ n1_ n2_; (try clear hb); (try clear ho0)) | ((with_reducible refine gate_callee (f := 38) rfl ?_); refine goesL_ (some 12) rfl rfl Tryd.func38 (by kernel_rfl) rfl #[.pointer (some ⟨g425, 0, none⟩), .int .i64 4] rfl Z37 ?_; (with_reducible refine (spec_l20Rd_pick.calls k g425 t423 t433 4 t437 t438 w _ ?side1 ?side2 A5.out).mono ?_); (case side1 => exact Z42); (case side2 => exact Z58); rintro e w38 ⟨rfl, hi, hb, hk⟩; refine ⟨_, rfl, ?_⟩; have n0_ := Aside0.mk (Kd.R_mono (Kd.R_keep (IsS64.apart (show IsS64 w _ g425 t423 t433 from by repeat (first | (with_reducible first | exact HI425.out | apply IsS64.alloc | apply IsS64.drewN | apply IsS64.drew | apply IsS64.set_1) | exact HI425.out)) Z15 (by decide)) hk (fun _ h => h.2)) (fun _ h => h.1)); have n1_ := Aside0.mk (hb); have n2_ := Aside0.mk (hi); clear HO436; clear HB; clear HI425; have HO436 := n0_; have HB := n1_; have HI425 := n2_; clear n0_ n1_ n2_; (try clear hb); (try clear hk); (try clear hi); obtain ⟨Ao39, co39, eo39⟩ := Kd.R_slice HO436.out; subst eo39) | ((with_reducible refine gate_callee (f := 39) rfl ?_); refine goesL_ (some 22) rfl rfl Tryd.func39 (by kernel_rfl) rfl #[.pointer (some ⟨g425, 0, none⟩), .slice Ao39 t434.length co39] rfl Z37 ?_; (with_reducible refine (spec_l20Turn.calls k g425 t423 t438 _ _ t434 t443 t446 w _ ?side1 ?side2 ?side3 ?side4 ?side5 A15.out).mono ?_); (case side1 => exact Z42); (case side2 => exact Z58); (case side3 => exact Z56); (case side4 => exact (Kd.R_reads' HO436.out).2.1); (case side5 => exact far_slice (IsS64.own_ne HI425.out HO436.out (by decide))); rintro e w40 ⟨v444, rfl, ho0, hi, hb, hk⟩; refine ⟨_, rfl, ?_⟩; have n0_ := Aside0.mk (Kd.R_mono (Kd.R_told (Kd.R_oldK (IsS64.apart (show IsS64 w _ g425 t423 t438 from by repeat (first | (with_reducible first | exact HI425.out | apply IsS64.alloc | apply IsS64.drewN | apply IsS64.drew | apply IsS64.set_1) | exact HI425.out)) Z15 (by decide)) hk) (Kd.R_base ho0)) (fun _ h_ => h_.1)); have n1_ := Aside0.mk (Kd.R_lower (Kd.R_new' ho0 (Kd.R_lt Z15)) (below_size Z59)); have n2_ := Aside0.mk (hb); have n3_ := Aside0.mk (hi); clear HO436; clear HB; clear HI425; have HO436 := n0_; have HO445 := n1_; have HB := n2_; have HI425 := n3_; clear n0_ n1_ n2_ n3_; (try clear hb); (try clear hk); (try clear hi); (try clear ho0); obtain ⟨Ao41, co41, eo41⟩ := Kd.R_slice HO445.out; subst eo41))
    go_ret
    exact ⟨_, by first | rfl | (simp [errW_none, errW_some] <;> rfl) | (simp [*, errW_none, errW_some] <;> rfl), by (with_reducible repeat (first | apply Kd.R_alloc | apply Kd.R_drewN | apply Kd.R_drew)); exact Kd.R_mono HO445.out (fun _ hk => trivial), by repeat (first | (with_reducible first | exact HB.out | apply below_alloc | apply pw_below_drewN | apply below_drew1 | refine below_set ?_ (IsS64.ge HI425.out)) | exact HB.out)⟩
  ·rw [if_neg c14] at H
   have c14b0 : (t437 == 1) = false := beq_eq_false_iff_ne.mpr c14
   have c14b1 : (t437 != 1) = true := bne_iff_ne.mpr c14
   obtain rfl := Option.some.inj H
   go_enter Tryd.func21, Tryd.ntmps21
   go_wp2_with (first | ((with_reducible refine gate_callee (f := 27) rfl ?_); refine goesL_ (some 7) rfl rfl Tryd.func27 (by kernel_rfl) rfl #[.slice A0 l0.length c0] rfl Z37 ?_; (with_reducible refine (spec_l20Open.calls _ _ l0 t423 t424 w _ ?side1 ?side2 ?side3 A2.out).mono ?_); (case side1 => exact Z34); (case side2 => exact HR0.out); (case side3 => exact HC0.out); rintro e w42 ⟨g425, rfl, hi, hb, hb2⟩; refine ⟨_, rfl, ?_⟩; have n0_ := Aside0.mk (hb); have n1_ := Aside0.mk (hi); clear HB; have HB := n0_; have HI425 := n1_; clear n0_ n1_; (try clear hb); (try clear hb2); (try clear hi)) | ((with_reducible refine gate_callee (f := 26) rfl ?_); refine goesL_ (some 9) rfl rfl Tryd.func26 (by kernel_rfl) rfl #[.pointer (some ⟨g425, 0, none⟩), .int .i64 99999] rfl Z37 ?_; (with_reducible refine (spec_l20Seg.calls k g425 t423 t424 99999 t426 t427 t428 t429 t430 t431 t432 t433 w _ ?side1 ?side2 A3.out).mono ?_); (case side1 => exact Z42); (case side2 => exact Z58); rintro e w43 ⟨rfl, hi, hb, hk⟩; refine ⟨_, rfl, ?_⟩; have n0_ := Aside0.mk (hb); have n1_ := Aside0.mk (hi); clear HB; clear HI425; have HB := n0_; have HI425 := n1_; clear n0_ n1_; (try clear hb); (try clear hk); (try clear hi)) | ((with_reducible refine gate_callee (f := 15) rfl ?_); refine goesL_ (some 10) rfl rfl Tryd.func15 (by kernel_rfl) rfl #[.agg #[.int .i64 t426, .int .i64 t427, .int .i64 t428, .int .i64 t429, .int .i64 t430, .int .i64 t431, .string t432]] rfl Z37 ?_; (with_reducible refine (spec_SegBytes.calls k t426 t427 t428 t429 t430 t431 t432 t434 _ A4.out).mono ?_); rintro e w44 ⟨v435, rfl, ho0, hb⟩; refine ⟨_, rfl, ?_⟩; have n0_ := Aside0.mk (Kd.R_lower ho0 (below_size Z59)); have n1_ := Aside0.mk (IsS64.below Z43 hb); have n2_ := Aside0.mk (below_step Z59 hb); clear HI425; clear HB; have HO436 := n0_; have HI425 := n1_; have HB := n2_; clear n0_ n1_ n2_; (try clear hb); (try clear ho0)) | ((with_reducible refine gate_callee (f := 38) rfl ?_); refine goesL_ (some 12) rfl rfl Tryd.func38 (by kernel_rfl) rfl #[.pointer (some ⟨g425, 0, none⟩), .int .i64 4] rfl Z37 ?_; (with_reducible refine (spec_l20Rd_pick.calls k g425 t423 t433 4 t437 t438 w _ ?side1 ?side2 A5.out).mono ?_); (case side1 => exact Z42); (case side2 => exact Z58); rintro e w45 ⟨rfl, hi, hb, hk⟩; refine ⟨_, rfl, ?_⟩; have n0_ := Aside0.mk (Kd.R_mono (Kd.R_keep (IsS64.apart (show IsS64 w _ g425 t423 t433 from by repeat (first | (with_reducible first | exact HI425.out | apply IsS64.alloc | apply IsS64.drewN | apply IsS64.drew | apply IsS64.set_1) | exact HI425.out)) Z15 (by decide)) hk (fun _ h => h.2)) (fun _ h => h.1)); have n1_ := Aside0.mk (hb); have n2_ := Aside0.mk (hi); clear HO436; clear HB; clear HI425; have HO436 := n0_; have HB := n1_; have HI425 := n2_; clear n0_ n1_ n2_; (try clear hb); (try clear hk); (try clear hi)))
   go_ret
   exact ⟨_, by first | rfl | (simp [errW_none, errW_some] <;> rfl) | (simp [*, errW_none, errW_some] <;> rfl), by (with_reducible repeat (first | apply Kd.R_alloc | apply Kd.R_drewN | apply Kd.R_drew)); exact HO436.out, by repeat (first | (with_reducible first | exact HB.out | apply below_alloc | apply pw_below_drewN | apply below_drew1 | refine below_set ?_ (IsS64.ge HI425.out)) | exact HB.out)⟩

/-! ### laws_FnSegRead: function 5 -/
def laws_FnSegRead.j0 : Nat → List Int → Bool → Bool → Int → Int → Int → Int → Int → Int → ByteArray → Option (Bool)
 | 0, _, _, _, _, _, _, _, _, _, _ => none
 | k + 1, x3, x5, x30, x471000, x471001, x471002, x471003, x471004, x471005, x471006 => if x30 = true then (some false) else (if x5 = true then ((impl_SegOk.f k x471000 x471001 x471002 x471003 x471004 x471005 x471006).bind fun t480 => (if t480 = true then ((impl_SegBytes.f k x471000 x471001 x471002 x471003 x471004 x471005 x471006).bind fun t481 => ((laws_haBytes.f k t481 x3).bind fun t484 => (some t484))) else (some false))) else (if ((x471000 == 0 && (x471001 == 0)) && ((x471002 == 0 && (x471003 == 0)) && (x471004 == 0 && (x471005 == 0 && (x471006.toList == ([] : List UInt8)))))) = true then ((laws_haOk.f).bind fun t485 => (some t485)) else (some false)))
def laws_FnSegRead.f (k : Nat) (l0 : List Int) : Option (Bool) := if (l0.length : Int) > 1048576 then (some true) else ((spec_DrawSegRead.f k l0).bind fun t459 => ((impl_SegRead.f k t459).bind fun bt462 => ((spec_SegRead.f k t459).bind fun bt471 => (if ((!(bt462.1 == bt471.1) || (!(bt462.2.1 == bt471.2.1))) || ((!(bt462.2.2.1 == bt471.2.2.1) || (!(bt462.2.2.2.1 == bt471.2.2.2.1))) || (!(bt462.2.2.2.2.1 == bt471.2.2.2.2.1) || (!(bt462.2.2.2.2.2.1 == bt471.2.2.2.2.2.1) || (!(bt462.2.2.2.2.2.2.1.toList == bt471.2.2.2.2.2.2.1.toList)))))) = true then (laws_FnSegRead.j0 k t459 bt462.2.2.2.2.2.2.2 true bt462.1 bt462.2.1 bt462.2.2.1 bt462.2.2.2.1 bt462.2.2.2.2.1 bt462.2.2.2.2.2.1 bt462.2.2.2.2.2.2.1) else (laws_FnSegRead.j0 k t459 bt462.2.2.2.2.2.2.2 (bt462.2.2.2.2.2.2.2 != bt471.2.2.2.2.2.2.2) bt462.1 bt462.2.1 bt462.2.2.1 bt462.2.2.2.1 bt462.2.2.2.2.1 bt462.2.2.2.2.2.1 bt462.2.2.2.2.2.2.1)))))
theorem laws_FnSegRead.mono_l : ∀ k, (∀ y0 y1 y2 y3 y4 y5 y6 y7 y8 y9, LeO (laws_FnSegRead.j0 k y0 y1 y2 y3 y4 y5 y6 y7 y8 y9) (laws_FnSegRead.j0 (k + 1) y0 y1 y2 y3 y4 y5 y6 y7 y8 y9))
 | 0 => fun _ _ _ _ _ _ _ _ _ _ r h => by simp [laws_FnSegRead.j0] at h
 | k + 1 => by
  have ih0 := laws_FnSegRead.mono_l k
  ·intro y0 y1 y2 y3 y4 y5 y6 y7 y8 y9
   unfold laws_FnSegRead.j0
   repeat' first
   | (with_reducible exact ih0 _ _ _ _ _ _ _ _ _ _)
   | (with_reducible exact impl_SegBytes.mono _ _ _ _ _ _ _ _)
   | (with_reducible exact impl_SegOk.mono _ _ _ _ _ _ _ _)
   | (with_reducible exact impl_SegRead.mono _ _)
   | (with_reducible exact laws_haBytes.mono _ _ _)
   | (with_reducible exact spec_DrawSegRead.mono _ _)
   | (with_reducible exact spec_SegRead.mono _ _)
   | (with_reducible exact LeO.refl _)
   | (with_reducible exact LeO.none _)
   | (with_reducible refine LeO.ite ?_ ?_)
   | (with_reducible refine LeO.bind ?_ (fun _ => ?_))
   | exact ih0 _ _ _ _ _ _ _ _ _ _
   | exact impl_SegBytes.mono _ _ _ _ _ _ _ _
   | exact impl_SegOk.mono _ _ _ _ _ _ _ _
   | exact impl_SegRead.mono _ _
   | exact laws_haBytes.mono _ _ _
   | exact spec_DrawSegRead.mono _ _
   | exact spec_SegRead.mono _ _
   | exact LeO.none _
   | refine LeO.ite ?_ ?_
   | refine LeO.bind ?_ (fun _ => ?_)
theorem laws_FnSegRead.mono : ∀ a0 k, LeO (laws_FnSegRead.f k a0) (laws_FnSegRead.f (k + 1) a0) := by
 intro a0 k
 have ih0 := laws_FnSegRead.mono_l k
 unfold laws_FnSegRead.f
 repeat' first
   | (with_reducible exact ih0 _ _ _ _ _ _ _ _ _ _)
   | (with_reducible exact impl_SegBytes.mono _ _ _ _ _ _ _ _)
   | (with_reducible exact impl_SegOk.mono _ _ _ _ _ _ _ _)
   | (with_reducible exact impl_SegRead.mono _ _)
   | (with_reducible exact laws_haBytes.mono _ _ _)
   | (with_reducible exact spec_DrawSegRead.mono _ _)
   | (with_reducible exact spec_SegRead.mono _ _)
   | (with_reducible exact LeO.refl _)
   | (with_reducible exact LeO.none _)
   | (with_reducible refine LeO.ite ?_ ?_)
   | (with_reducible refine LeO.bind ?_ (fun _ => ?_))
   | exact ih0 _ _ _ _ _ _ _ _ _ _
   | exact impl_SegBytes.mono _ _ _ _ _ _ _ _
   | exact impl_SegOk.mono _ _ _ _ _ _ _ _
   | exact impl_SegRead.mono _ _
   | exact laws_haBytes.mono _ _ _
   | exact spec_DrawSegRead.mono _ _
   | exact spec_SegRead.mono _ _
   | exact LeO.none _
   | refine LeO.ite ?_ ?_
   | refine LeO.bind ?_ (fun _ => ?_)
set_option maxHeartbeats 8000000 in
set_option maxRecDepth 100000 in
theorem laws_FnSegRead.calls (k : Nat) (A0 : Option Addr) (c0 : Nat) (l0 : List Int) (r : Bool) (w : World) (hr0 : Kd.C (Kd.int .u8) w A0 l0.length l0) (hc0 : l0.length ≤ c0) (h : laws_FnSegRead.f k l0 = some r) (hL_ : Ends.LShort w) :
  Calls Tryd.prog 5 #[.slice A0 l0.length c0] w fun e w' => e = .returned (.bool r) ∧ Below w.heap.size w w' := by
 have HL_ := Aside0.mk hL_
 clear hL_
 have hu26 := Tryd.underlying26
 have HR0 := Aside0.mk hr0
 have HC0 := Aside0.mk hc0
 clear hr0 hc0
 have HB := Aside0.mk (Below.refl w.heap.size w)
 have H : (if (l0.length : Int) > 1048576 then (some true) else ((spec_DrawSegRead.f k l0).bind fun t459 => ((impl_SegRead.f k t459).bind fun bt462 => ((spec_SegRead.f k t459).bind fun bt471 => (if ((!(bt462.1 == bt471.1) || (!(bt462.2.1 == bt471.2.1))) || ((!(bt462.2.2.1 == bt471.2.2.1) || (!(bt462.2.2.2.1 == bt471.2.2.2.1))) || (!(bt462.2.2.2.2.1 == bt471.2.2.2.2.1) || (!(bt462.2.2.2.2.2.1 == bt471.2.2.2.2.2.1) || (!(bt462.2.2.2.2.2.2.1.toList == bt471.2.2.2.2.2.2.1.toList)))))) = true then (laws_FnSegRead.j0 k t459 bt462.2.2.2.2.2.2.2 true bt462.1 bt462.2.1 bt462.2.2.1 bt462.2.2.2.1 bt462.2.2.2.2.1 bt462.2.2.2.2.2.1 bt462.2.2.2.2.2.2.1) else (laws_FnSegRead.j0 k t459 bt462.2.2.2.2.2.2.2 (bt462.2.2.2.2.2.2.2 != bt471.2.2.2.2.2.2.2) bt462.1 bt462.2.1 bt462.2.2.1 bt462.2.2.2.1 bt462.2.2.2.2.1 bt462.2.2.2.2.2.1 bt462.2.2.2.2.2.2.1)))))) = some r := h
 clear h
 by_cases c2 : (l0.length : Int) > 1048576
 ·rw [if_pos c2] at H
  have c2b0 : decide (1048576 < (l0.length : Int)) = true := decide_eq_true c2
  have c2b1 : decide (1048576 < l0.length) = true := decide_eq_true (by omega)
  clear c2
  obtain rfl := Option.some.inj H
  go_enter Tryd.func5, Tryd.ntmps5
  go_wp2
  go_ret
  exact ⟨by first | rfl | (simp [errW_none, errW_some] <;> rfl) | (simp [*, errW_none, errW_some] <;> rfl), by repeat (first | (with_reducible first | exact HB.out | apply below_alloc | apply pw_below_drewN | apply below_drew1) | exact HB.out)⟩
 ·rw [if_neg c2] at H
  have c2b0 : decide (1048576 < (l0.length : Int)) = false := decide_eq_false c2
  have c2b1 : decide (1048576 < l0.length) = false := decide_eq_false (by omega)
  clear c2
  replace H := Option.bind_eq_some_iff.mp H
  obtain ⟨t459, A30, H⟩ := H
  replace H : ((impl_SegRead.f k t459).bind fun bt462 => ((spec_SegRead.f k t459).bind fun bt471 => (if ((!(bt462.1 == bt471.1) || (!(bt462.2.1 == bt471.2.1))) || ((!(bt462.2.2.1 == bt471.2.2.1) || (!(bt462.2.2.2.1 == bt471.2.2.2.1))) || (!(bt462.2.2.2.2.1 == bt471.2.2.2.2.1) || (!(bt462.2.2.2.2.2.1 == bt471.2.2.2.2.2.1) || (!(bt462.2.2.2.2.2.2.1.toList == bt471.2.2.2.2.2.2.1.toList)))))) = true then (laws_FnSegRead.j0 k t459 bt462.2.2.2.2.2.2.2 true bt462.1 bt462.2.1 bt462.2.2.1 bt462.2.2.2.1 bt462.2.2.2.2.1 bt462.2.2.2.2.2.1 bt462.2.2.2.2.2.2.1) else (laws_FnSegRead.j0 k t459 bt462.2.2.2.2.2.2.2 (bt462.2.2.2.2.2.2.2 != bt471.2.2.2.2.2.2.2) bt462.1 bt462.2.1 bt462.2.2.1 bt462.2.2.2.1 bt462.2.2.2.2.1 bt462.2.2.2.2.2.1 bt462.2.2.2.2.2.2.1)))) = some r := H
  have A3 := Aside0.mk A30
  clear A30
  replace H := Option.bind_eq_some_iff.mp H
  obtain ⟨⟨t462, t463, t464, t465, t466, t467, t468, t469⟩, A40, H⟩ := H
  replace H : ((spec_SegRead.f k t459).bind fun bt471 => (if ((!(t462 == bt471.1) || (!(t463 == bt471.2.1))) || ((!(t464 == bt471.2.2.1) || (!(t465 == bt471.2.2.2.1))) || (!(t466 == bt471.2.2.2.2.1) || (!(t467 == bt471.2.2.2.2.2.1) || (!(t468.toList == bt471.2.2.2.2.2.2.1.toList)))))) = true then (laws_FnSegRead.j0 k t459 t469 true t462 t463 t464 t465 t466 t467 t468) else (laws_FnSegRead.j0 k t459 t469 (t469 != bt471.2.2.2.2.2.2.2) t462 t463 t464 t465 t466 t467 t468))) = some r := H
  have A4 := Aside0.mk A40
  clear A40
  replace H := Option.bind_eq_some_iff.mp H
  obtain ⟨⟨t471, t472, t473, t474, t475, t476, t477, t478⟩, A50, H⟩ := H
  replace H : (if ((!(t462 == t471) || (!(t463 == t472))) || ((!(t464 == t473) || (!(t465 == t474))) || (!(t466 == t475) || (!(t467 == t476) || (!(t468.toList == t477.toList)))))) = true then (laws_FnSegRead.j0 k t459 t469 true t462 t463 t464 t465 t466 t467 t468) else (laws_FnSegRead.j0 k t459 t469 (t469 != t478) t462 t463 t464 t465 t466 t467 t468)) = some r := H
  have A5 := Aside0.mk A50
  clear A50
  have HC6 := Aside0.mk H
  clear H
  go_enter Tryd.func5, Tryd.ntmps5
  go_upto_region 6 with (first | ((with_reducible refine gate_callee (f := 21) rfl ?_); refine goesL_ (some 12) rfl rfl Tryd.func21 (by kernel_rfl) rfl #[.slice A0 l0.length c0] rfl Z37 ?_; (with_reducible refine (spec_DrawSegRead.calls k _ _ l0 t459 _ ?side1 ?side2 A3.out).mono ?_); (case side1 => repeat (first | exact HR0.out | (with_reducible refine Kd.C_alloc ?_ _) | (with_reducible refine Kd.C_drewN ?_ _) | (with_reducible refine Kd.C_drew ?_))); (case side2 => exact HC0.out); rintro e w7 ⟨v460, rfl, ho0, hb⟩; refine ⟨_, rfl, ?_⟩; have n0_ := Aside0.mk (Kd.R_lower ho0 (below_size Z35)); have n1_ := Aside0.mk (below_step Z35 hb); clear HB; have HO461 := n0_; have HB := n1_; clear n0_ n1_; (try clear hb); (try clear ho0); obtain ⟨Ao8, co8, eo8⟩ := Kd.R_slice HO461.out; subst eo8) | ((with_reducible refine gate_callee (f := 8) rfl ?_); refine goesL_ (some 15) rfl rfl Tryd.func8 (by kernel_rfl) rfl #[.slice Ao8 t459.length co8] rfl Z37 ?_; (with_reducible refine (impl_SegRead.calls k _ _ t459 t462 t463 t464 t465 t466 t467 t468 t469 _ ?side1 ?side2 A4.out ?sideL_).mono ?_); (case sideL_ => exact (Ends.LShort.below HL_.out Z73)); (case side1 => repeat (first | exact (Kd.R_reads' HO461.out).2.2 | (with_reducible refine Kd.C_alloc ?_ _) | (with_reducible refine Kd.C_drewN ?_ _) | (with_reducible refine Kd.C_drew ?_))); (case side2 => exact (Kd.R_reads' HO461.out).2.1); rintro e w9 ⟨rfl, hb⟩; refine ⟨_, rfl, ?_⟩; have n0_ := Aside0.mk (Kd.R_below Z17 hb); have n1_ := Aside0.mk (below_step Z35 hb); clear HO461; clear HB; have HO461 := n0_; have HB := n1_; clear n0_ n1_; (try clear hb)) | ((with_reducible refine gate_dst (N := 4) rfl ?_); refine box_event ?hg (N := 4) ?hd (cs := #[.int .i64 0, .int .i64 0, .int .i64 0, .int .i64 0, .int .i64 0, .int .i64 0, .string (⟨#[]⟩ : ByteArray)]) (t := 26) ?hr ?_; (case hd => rfl); (case hg => rfl); (case hr => first | (go_simp; done) | (go_simp; rfl)); intro gb470 hg w10 hbox hb; have n0_ := Aside0.mk (Kd.R_below Z17 hb); have n1_ := Aside0.mk (below_step Z35 hb); have n2_ := Aside0.mk (hbox); have n3_ := Aside0.mk ((Z93 : w.heap.size ≤ gb470)); have n4_ := Aside0.mk ((Z93 : w.heap.size ≤ gb470)); clear HO461; clear HB; have HO461 := n0_; have HB := n1_; have BK470 := n2_; have GW470 := n3_; have GE470 := n4_; clear n0_ n1_ n2_ n3_ n4_; clear hb hbox hg; have hcz11_0 : w10.cell? ⟨gb470, 0, none⟩ = some (.int .i64 0) := (blk_cell BK470.out 0).trans rfl; have hcz11_1 : w10.cell? ⟨gb470, 1, none⟩ = some (.int .i64 0) := (blk_cell BK470.out 1).trans rfl; have hcz11_2 : w10.cell? ⟨gb470, 2, none⟩ = some (.int .i64 0) := (blk_cell BK470.out 2).trans rfl; have hcz11_3 : w10.cell? ⟨gb470, 3, none⟩ = some (.int .i64 0) := (blk_cell BK470.out 3).trans rfl; have hcz11_4 : w10.cell? ⟨gb470, 4, none⟩ = some (.int .i64 0) := (blk_cell BK470.out 4).trans rfl; have hcz11_5 : w10.cell? ⟨gb470, 5, none⟩ = some (.int .i64 0) := (blk_cell BK470.out 5).trans rfl; have hcz11_6 : w10.cell? ⟨gb470, 6, none⟩ = some (.string (⟨#[]⟩ : ByteArray)) := (blk_cell BK470.out 6).trans rfl; have hfz11_0 := blk_frozen BK470.out 0; have hfz11_1 := blk_frozen BK470.out 1; have hfz11_2 := blk_frozen BK470.out 2; have hfz11_3 := blk_frozen BK470.out 3; have hfz11_4 := blk_frozen BK470.out 4; have hfz11_5 := blk_frozen BK470.out 5; have hfz11_6 := blk_frozen BK470.out 6) | ((with_reducible refine gate_callee (f := 6) rfl ?_); refine goesL_ (some 20) rfl rfl Tryd.func6 (by kernel_rfl) rfl #[.slice Ao8 t459.length co8] rfl Z37 ?_; (with_reducible refine (spec_SegRead.calls k _ _ t459 t471 t472 t473 t474 t475 t476 t477 t478 _ ?side1 ?side2 A5.out).mono ?_); (case side1 => refine (Kd.R_reads' (e := 5) (base := w.heap.size) (ok := fun k_ => True) (n := t459.length) (c := co8) ?_).2.2; exact Z89); (case side2 => exact (Kd.R_reads' HO461.out).2.1); rintro e w12 ⟨rfl, hb⟩; refine ⟨_, rfl, ?_⟩; have n0_ := Aside0.mk (Kd.R_below Z89 hb); have n1_ := Aside0.mk (blk_below (g := gb470) (o := .cells #[.int .i64 t462, .int .i64 t463, .int .i64 t464, .int .i64 t465, .int .i64 t466, .int .i64 t467, .string t468] 26 (0, 0)) (by (with_reducible repeat (first | refine blk_drewN ?_ _ | refine blk_drew ?_ | refine blk_alloc ?_ _)); refine blk_put (cs := #[.int .i64 t462, .int .i64 t463, .int .i64 t464, .int .i64 t465, .int .i64 t466, .int .i64 t467, .string (⟨#[]⟩ : ByteArray)]) ?_ 6 _ rfl; (with_reducible repeat (first | refine blk_drewN ?_ _ | refine blk_drew ?_ | refine blk_alloc ?_ _)); refine blk_put (cs := #[.int .i64 t462, .int .i64 t463, .int .i64 t464, .int .i64 t465, .int .i64 t466, .int .i64 0, .string (⟨#[]⟩ : ByteArray)]) ?_ 5 _ rfl; (with_reducible repeat (first | refine blk_drewN ?_ _ | refine blk_drew ?_ | refine blk_alloc ?_ _)); refine blk_put (cs := #[.int .i64 t462, .int .i64 t463, .int .i64 t464, .int .i64 t465, .int .i64 0, .int .i64 0, .string (⟨#[]⟩ : ByteArray)]) ?_ 4 _ rfl; (with_reducible repeat (first | refine blk_drewN ?_ _ | refine blk_drew ?_ | refine blk_alloc ?_ _)); refine blk_put (cs := #[.int .i64 t462, .int .i64 t463, .int .i64 t464, .int .i64 0, .int .i64 0, .int .i64 0, .string (⟨#[]⟩ : ByteArray)]) ?_ 3 _ rfl; (with_reducible repeat (first | refine blk_drewN ?_ _ | refine blk_drew ?_ | refine blk_alloc ?_ _)); refine blk_put (cs := #[.int .i64 t462, .int .i64 t463, .int .i64 0, .int .i64 0, .int .i64 0, .int .i64 0, .string (⟨#[]⟩ : ByteArray)]) ?_ 2 _ rfl; (with_reducible repeat (first | refine blk_drewN ?_ _ | refine blk_drew ?_ | refine blk_alloc ?_ _)); refine blk_put (cs := #[.int .i64 t462, .int .i64 0, .int .i64 0, .int .i64 0, .int .i64 0, .int .i64 0, .string (⟨#[]⟩ : ByteArray)]) ?_ 1 _ rfl; (with_reducible repeat (first | refine blk_drewN ?_ _ | refine blk_drew ?_ | refine blk_alloc ?_ _)); refine blk_put (cs := #[.int .i64 0, .int .i64 0, .int .i64 0, .int .i64 0, .int .i64 0, .int .i64 0, .string (⟨#[]⟩ : ByteArray)]) ?_ 0 _ rfl; (with_reducible repeat (first | refine blk_drewN ?_ _ | refine blk_drew ?_ | refine blk_alloc ?_ _)); exact BK470.out) hb); have n2_ := Aside0.mk (below_step Z51 hb); clear HO461; clear BK470; clear HB; have HO461 := n0_; have BK470 := n1_; have HB := n2_; clear n0_ n1_ n2_; (try clear hb)) | ((with_reducible refine gate_dst (N := 6) rfl ?_); refine box_event ?hg (N := 6) ?hd (cs := #[.int .i64 0, .int .i64 0, .int .i64 0, .int .i64 0, .int .i64 0, .int .i64 0, .string (⟨#[]⟩ : ByteArray)]) (t := 26) ?hr ?_; (case hd => rfl); (case hg => rfl); (case hr => first | (go_simp; done) | (go_simp; rfl)); intro gb479 hg w13 hbox hb; have n0_ := Aside0.mk (Kd.R_below Z17 hb); have n1_ := Aside0.mk (blk_below (g := gb470) (o := .cells #[.int .i64 t462, .int .i64 t463, .int .i64 t464, .int .i64 t465, .int .i64 t466, .int .i64 t467, .string t468] 26 (0, 0)) Z32 hb); have n2_ := Aside0.mk (below_step Z51 hb); have n3_ := Aside0.mk (hbox); have n4_ := Aside0.mk ((by rw [hg]; exact (below_size Z51) : w.heap.size ≤ gb479)); have n5_ := Aside0.mk ((by rw [hg]; exact (below_size Z51) : w.heap.size ≤ gb479)); have n6_ := Aside0.mk ((by rw [hg]; exact Nat.ne_of_lt (blk_lt (g := gb470) (o := .cells #[.int .i64 t462, .int .i64 t463, .int .i64 t464, .int .i64 t465, .int .i64 t466, .int .i64 t467, .string t468] 26 (0, 0)) Z32) : gb470 ≠ gb479)); have n7_ := Aside0.mk ((by rw [hg]; exact Nat.ne_of_gt (blk_lt (g := gb470) (o := .cells #[.int .i64 t462, .int .i64 t463, .int .i64 t464, .int .i64 t465, .int .i64 t466, .int .i64 t467, .string t468] 26 (0, 0)) Z32) : gb479 ≠ gb470)); clear HO461; clear BK470; clear HB; have HO461 := n0_; have BK470 := n1_; have HB := n2_; have BK479 := n3_; have GW479 := n4_; have GE479 := n5_; have NB470_479 := n6_; have NB479_470 := n7_; clear n0_ n1_ n2_ n3_ n4_ n5_ n6_ n7_; clear hb hbox hg; have hnb14 := NB479_470.out; have hnc14 := NB470_479.out; have hcz15_0 : w13.cell? ⟨gb479, 0, none⟩ = some (.int .i64 0) := (blk_cell BK479.out 0).trans rfl; have hcz15_1 : w13.cell? ⟨gb479, 1, none⟩ = some (.int .i64 0) := (blk_cell BK479.out 1).trans rfl; have hcz15_2 : w13.cell? ⟨gb479, 2, none⟩ = some (.int .i64 0) := (blk_cell BK479.out 2).trans rfl; have hcz15_3 : w13.cell? ⟨gb479, 3, none⟩ = some (.int .i64 0) := (blk_cell BK479.out 3).trans rfl; have hcz15_4 : w13.cell? ⟨gb479, 4, none⟩ = some (.int .i64 0) := (blk_cell BK479.out 4).trans rfl; have hcz15_5 : w13.cell? ⟨gb479, 5, none⟩ = some (.int .i64 0) := (blk_cell BK479.out 5).trans rfl; have hcz15_6 : w13.cell? ⟨gb479, 6, none⟩ = some (.string (⟨#[]⟩ : ByteArray)) := (blk_cell BK479.out 6).trans rfl; have hfz15_0 := blk_frozen BK479.out 0; have hfz15_1 := blk_frozen BK479.out 1; have hfz15_2 := blk_frozen BK479.out 2; have hfz15_3 := blk_frozen BK479.out 3; have hfz15_4 := blk_frozen BK479.out 4; have hfz15_5 := blk_frozen BK479.out 5; have hfz15_6 := blk_frozen BK479.out 6))
  (try simp only [Act.put, List.setIfInBounds_toArray, List.set_cons_zero, List.set_cons_succ])
  go_cut [30] (fun v30 wc => ∃ (kq : Nat) (x30_5 : Bool), v30 = .bool x30_5 ∧ Aside0 (laws_FnSegRead.j0 kq t459 t469 x30_5 t462 t463 t464 t465 t466 t467 t468 = some r) ∧ Aside0 (kq ≤ k) ∧ Aside0 (Kd.R (Kd.int .u8) 5 wc w.heap.size (fun _ => True) (.slice Ao8 t459.length co8) t459) ∧ Aside0 (wc.heap[gb470]? = some (.cells #[.int .i64 t462, .int .i64 t463, .int .i64 t464, .int .i64 t465, .int .i64 t466, .int .i64 t467, .string t468] 26 (0, 0))) ∧ Aside0 (wc.heap[gb479]? = some (.cells #[.int .i64 t471, .int .i64 t472, .int .i64 t473, .int .i64 t474, .int .i64 t475, .int .i64 t476, .string t477] 26 (0, 0))) ∧ Aside0 (Below w.heap.size w wc))
  case first =>
   have H := HC6.out
   clear HC6
   by_cases c16 : ((!(t462 == t471) || (!(t463 == t472))) || ((!(t464 == t473) || (!(t465 == t474))) || (!(t466 == t475) || (!(t467 == t476) || (!(t468.toList == t477.toList)))))) = true
   ·rw [if_pos c16] at H
    have c16b0 : ((!(t462 == t471) || (!(t463 == t472))) || ((!(t464 == t473) || (!(t465 == t474))) || (!(t466 == t475) || (!(t467 == t476) || (!(t468.toList == t477.toList)))))) = true := c16
    clear c16
    (first | rw [c16b0] | (simp only [i64_w, i32_w]; rw [c16b0]) | skip)
    have H' := Aside0.mk H
    clear H
    have hnb17 := NB470_479.out
    have hnc17 := NB479_470.out
    have hcz18_0 : w13.cell? ⟨gb470, 0, none⟩ = some (.int .i64 t462) := (blk_cell BK470.out 0).trans rfl
    have hcz18_1 : w13.cell? ⟨gb470, 1, none⟩ = some (.int .i64 t463) := (blk_cell BK470.out 1).trans rfl
    have hcz18_2 : w13.cell? ⟨gb470, 2, none⟩ = some (.int .i64 t464) := (blk_cell BK470.out 2).trans rfl
    have hcz18_3 : w13.cell? ⟨gb470, 3, none⟩ = some (.int .i64 t465) := (blk_cell BK470.out 3).trans rfl
    have hcz18_4 : w13.cell? ⟨gb470, 4, none⟩ = some (.int .i64 t466) := (blk_cell BK470.out 4).trans rfl
    have hcz18_5 : w13.cell? ⟨gb470, 5, none⟩ = some (.int .i64 t467) := (blk_cell BK470.out 5).trans rfl
    have hcz18_6 : w13.cell? ⟨gb470, 6, none⟩ = some (.string t468) := (blk_cell BK470.out 6).trans rfl
    have hfz18_0 := blk_frozen BK470.out 0
    have hfz18_1 := blk_frozen BK470.out 1
    have hfz18_2 := blk_frozen BK470.out 2
    have hfz18_3 := blk_frozen BK470.out 3
    have hfz18_4 := blk_frozen BK470.out 4
    have hfz18_5 := blk_frozen BK470.out 5
    have hfz18_6 := blk_frozen BK470.out 6
    have hcz19_0 : w13.cell? ⟨gb479, 0, none⟩ = some (.int .i64 0) := (blk_cell BK479.out 0).trans rfl
    have hcz19_1 : w13.cell? ⟨gb479, 1, none⟩ = some (.int .i64 0) := (blk_cell BK479.out 1).trans rfl
    have hcz19_2 : w13.cell? ⟨gb479, 2, none⟩ = some (.int .i64 0) := (blk_cell BK479.out 2).trans rfl
    have hcz19_3 : w13.cell? ⟨gb479, 3, none⟩ = some (.int .i64 0) := (blk_cell BK479.out 3).trans rfl
    have hcz19_4 : w13.cell? ⟨gb479, 4, none⟩ = some (.int .i64 0) := (blk_cell BK479.out 4).trans rfl
    have hcz19_5 : w13.cell? ⟨gb479, 5, none⟩ = some (.int .i64 0) := (blk_cell BK479.out 5).trans rfl
    have hcz19_6 : w13.cell? ⟨gb479, 6, none⟩ = some (.string (⟨#[]⟩ : ByteArray)) := (blk_cell BK479.out 6).trans rfl
    have hfz19_0 := blk_frozen BK479.out 0
    have hfz19_1 := blk_frozen BK479.out 1
    have hfz19_2 := blk_frozen BK479.out 2
    have hfz19_3 := blk_frozen BK479.out 3
    have hfz19_4 := blk_frozen BK479.out 4
    have hfz19_5 := blk_frozen BK479.out 5
    have hfz19_6 := blk_frozen BK479.out 6
    go_wp2
    go_meet
    case rel => exact ⟨_, (true), Z1, H', ⟨by first | omega | exact Nat.le_refl _⟩, ⟨by (with_reducible repeat (first | apply Kd.R_alloc | apply Kd.R_drewN | apply Kd.R_drew)); exact Kd.R_mono (Kd.R_far (p := ⟨gb479, 6, none⟩) (Kd.R_far (p := ⟨gb479, 5, none⟩) (Kd.R_far (p := ⟨gb479, 4, none⟩) (Kd.R_far (p := ⟨gb479, 3, none⟩) (Kd.R_far (p := ⟨gb479, 2, none⟩) (Kd.R_far (p := ⟨gb479, 1, none⟩) (Kd.R_far (p := ⟨gb479, 0, none⟩) (Kd.R_types HO461.out BK479.out (by decide)) (fun _ hk => hk.2) (.int .i64 t471)) (fun _ hk => hk.2) (.int .i64 t472)) (fun _ hk => hk.2) (.int .i64 t473)) (fun _ hk => hk.2) (.int .i64 t474)) (fun _ hk => hk.2) (.int .i64 t475)) (fun _ hk => hk.2) (.int .i64 t476)) (fun _ hk => hk.2) (.string t477)) (fun _ hk => trivial)⟩, ⟨by (with_reducible repeat (first | refine blk_drewN ?_ _ | refine blk_drew ?_ | refine blk_alloc ?_ _)); refine blk_far ?_ NB470_479.out _; (with_reducible repeat (first | refine blk_drewN ?_ _ | refine blk_drew ?_ | refine blk_alloc ?_ _)); refine blk_far ?_ NB470_479.out _; (with_reducible repeat (first | refine blk_drewN ?_ _ | refine blk_drew ?_ | refine blk_alloc ?_ _)); refine blk_far ?_ NB470_479.out _; (with_reducible repeat (first | refine blk_drewN ?_ _ | refine blk_drew ?_ | refine blk_alloc ?_ _)); refine blk_far ?_ NB470_479.out _; (with_reducible repeat (first | refine blk_drewN ?_ _ | refine blk_drew ?_ | refine blk_alloc ?_ _)); refine blk_far ?_ NB470_479.out _; (with_reducible repeat (first | refine blk_drewN ?_ _ | refine blk_drew ?_ | refine blk_alloc ?_ _)); refine blk_far ?_ NB470_479.out _; (with_reducible repeat (first | refine blk_drewN ?_ _ | refine blk_drew ?_ | refine blk_alloc ?_ _)); refine blk_far ?_ NB470_479.out _; (with_reducible repeat (first | refine blk_drewN ?_ _ | refine blk_drew ?_ | refine blk_alloc ?_ _)); exact BK470.out⟩, ⟨by (with_reducible repeat (first | refine blk_drewN ?_ _ | refine blk_drew ?_ | refine blk_alloc ?_ _)); refine blk_put (cs := #[.int .i64 t471, .int .i64 t472, .int .i64 t473, .int .i64 t474, .int .i64 t475, .int .i64 t476, .string (⟨#[]⟩ : ByteArray)]) ?_ 6 _ rfl; (with_reducible repeat (first | refine blk_drewN ?_ _ | refine blk_drew ?_ | refine blk_alloc ?_ _)); refine blk_put (cs := #[.int .i64 t471, .int .i64 t472, .int .i64 t473, .int .i64 t474, .int .i64 t475, .int .i64 0, .string (⟨#[]⟩ : ByteArray)]) ?_ 5 _ rfl; (with_reducible repeat (first | refine blk_drewN ?_ _ | refine blk_drew ?_ | refine blk_alloc ?_ _)); refine blk_put (cs := #[.int .i64 t471, .int .i64 t472, .int .i64 t473, .int .i64 t474, .int .i64 0, .int .i64 0, .string (⟨#[]⟩ : ByteArray)]) ?_ 4 _ rfl; (with_reducible repeat (first | refine blk_drewN ?_ _ | refine blk_drew ?_ | refine blk_alloc ?_ _)); refine blk_put (cs := #[.int .i64 t471, .int .i64 t472, .int .i64 t473, .int .i64 0, .int .i64 0, .int .i64 0, .string (⟨#[]⟩ : ByteArray)]) ?_ 3 _ rfl; (with_reducible repeat (first | refine blk_drewN ?_ _ | refine blk_drew ?_ | refine blk_alloc ?_ _)); refine blk_put (cs := #[.int .i64 t471, .int .i64 t472, .int .i64 0, .int .i64 0, .int .i64 0, .int .i64 0, .string (⟨#[]⟩ : ByteArray)]) ?_ 2 _ rfl; (with_reducible repeat (first | refine blk_drewN ?_ _ | refine blk_drew ?_ | refine blk_alloc ?_ _)); refine blk_put (cs := #[.int .i64 t471, .int .i64 0, .int .i64 0, .int .i64 0, .int .i64 0, .int .i64 0, .string (⟨#[]⟩ : ByteArray)]) ?_ 1 _ rfl; (with_reducible repeat (first | refine blk_drewN ?_ _ | refine blk_drew ?_ | refine blk_alloc ?_ _)); refine blk_put (cs := #[.int .i64 0, .int .i64 0, .int .i64 0, .int .i64 0, .int .i64 0, .int .i64 0, .string (⟨#[]⟩ : ByteArray)]) ?_ 0 _ rfl; (with_reducible repeat (first | refine blk_drewN ?_ _ | refine blk_drew ?_ | refine blk_alloc ?_ _)); exact BK479.out⟩, ⟨by repeat (first | (with_reducible first | exact HB.out | apply below_alloc | apply pw_below_drewN | apply below_drew1 | refine below_set ?_ GE470.out | refine below_set ?_ GE479.out) | exact HB.out)⟩⟩
   ·rw [if_neg c16] at H
    have c16b0 : ((!(t462 == t471) || (!(t463 == t472))) || ((!(t464 == t473) || (!(t465 == t474))) || (!(t466 == t475) || (!(t467 == t476) || (!(t468.toList == t477.toList)))))) = false := by simpa using c16
    clear c16
    (first | rw [c16b0] | (simp only [i64_w, i32_w]; rw [c16b0]) | skip)
    have H' := Aside0.mk H
    clear H
    have hnb20 := NB470_479.out
    have hnc20 := NB479_470.out
    have hcz21_0 : w13.cell? ⟨gb470, 0, none⟩ = some (.int .i64 t462) := (blk_cell BK470.out 0).trans rfl
    have hcz21_1 : w13.cell? ⟨gb470, 1, none⟩ = some (.int .i64 t463) := (blk_cell BK470.out 1).trans rfl
    have hcz21_2 : w13.cell? ⟨gb470, 2, none⟩ = some (.int .i64 t464) := (blk_cell BK470.out 2).trans rfl
    have hcz21_3 : w13.cell? ⟨gb470, 3, none⟩ = some (.int .i64 t465) := (blk_cell BK470.out 3).trans rfl
    have hcz21_4 : w13.cell? ⟨gb470, 4, none⟩ = some (.int .i64 t466) := (blk_cell BK470.out 4).trans rfl
    have hcz21_5 : w13.cell? ⟨gb470, 5, none⟩ = some (.int .i64 t467) := (blk_cell BK470.out 5).trans rfl
    have hcz21_6 : w13.cell? ⟨gb470, 6, none⟩ = some (.string t468) := (blk_cell BK470.out 6).trans rfl
    have hfz21_0 := blk_frozen BK470.out 0
    have hfz21_1 := blk_frozen BK470.out 1
    have hfz21_2 := blk_frozen BK470.out 2
    have hfz21_3 := blk_frozen BK470.out 3
    have hfz21_4 := blk_frozen BK470.out 4
    have hfz21_5 := blk_frozen BK470.out 5
    have hfz21_6 := blk_frozen BK470.out 6
    have hcz22_0 : w13.cell? ⟨gb479, 0, none⟩ = some (.int .i64 0) := (blk_cell BK479.out 0).trans rfl
    have hcz22_1 : w13.cell? ⟨gb479, 1, none⟩ = some (.int .i64 0) := (blk_cell BK479.out 1).trans rfl
    have hcz22_2 : w13.cell? ⟨gb479, 2, none⟩ = some (.int .i64 0) := (blk_cell BK479.out 2).trans rfl
    have hcz22_3 : w13.cell? ⟨gb479, 3, none⟩ = some (.int .i64 0) := (blk_cell BK479.out 3).trans rfl
    have hcz22_4 : w13.cell? ⟨gb479, 4, none⟩ = some (.int .i64 0) := (blk_cell BK479.out 4).trans rfl
    have hcz22_5 : w13.cell? ⟨gb479, 5, none⟩ = some (.int .i64 0) := (blk_cell BK479.out 5).trans rfl
    have hcz22_6 : w13.cell? ⟨gb479, 6, none⟩ = some (.string (⟨#[]⟩ : ByteArray)) := (blk_cell BK479.out 6).trans rfl
    have hfz22_0 := blk_frozen BK479.out 0
    have hfz22_1 := blk_frozen BK479.out 1
    have hfz22_2 := blk_frozen BK479.out 2
    have hfz22_3 := blk_frozen BK479.out 3
    have hfz22_4 := blk_frozen BK479.out 4
    have hfz22_5 := blk_frozen BK479.out 5
    have hfz22_6 := blk_frozen BK479.out 6
    go_wp2
    go_meet
    case rel => exact ⟨_, ((t469 != t478)), Z1, H', ⟨by first | omega | exact Nat.le_refl _⟩, ⟨by (with_reducible repeat (first | apply Kd.R_alloc | apply Kd.R_drewN | apply Kd.R_drew)); exact Kd.R_mono (Kd.R_far (p := ⟨gb479, 6, none⟩) (Kd.R_far (p := ⟨gb479, 5, none⟩) (Kd.R_far (p := ⟨gb479, 4, none⟩) (Kd.R_far (p := ⟨gb479, 3, none⟩) (Kd.R_far (p := ⟨gb479, 2, none⟩) (Kd.R_far (p := ⟨gb479, 1, none⟩) (Kd.R_far (p := ⟨gb479, 0, none⟩) (Kd.R_types HO461.out BK479.out (by decide)) (fun _ hk => hk.2) (.int .i64 t471)) (fun _ hk => hk.2) (.int .i64 t472)) (fun _ hk => hk.2) (.int .i64 t473)) (fun _ hk => hk.2) (.int .i64 t474)) (fun _ hk => hk.2) (.int .i64 t475)) (fun _ hk => hk.2) (.int .i64 t476)) (fun _ hk => hk.2) (.string t477)) (fun _ hk => trivial)⟩, ⟨by (with_reducible repeat (first | refine blk_drewN ?_ _ | refine blk_drew ?_ | refine blk_alloc ?_ _)); refine blk_far ?_ NB470_479.out _; (with_reducible repeat (first | refine blk_drewN ?_ _ | refine blk_drew ?_ | refine blk_alloc ?_ _)); refine blk_far ?_ NB470_479.out _; (with_reducible repeat (first | refine blk_drewN ?_ _ | refine blk_drew ?_ | refine blk_alloc ?_ _)); refine blk_far ?_ NB470_479.out _; (with_reducible repeat (first | refine blk_drewN ?_ _ | refine blk_drew ?_ | refine blk_alloc ?_ _)); refine blk_far ?_ NB470_479.out _; (with_reducible repeat (first | refine blk_drewN ?_ _ | refine blk_drew ?_ | refine blk_alloc ?_ _)); refine blk_far ?_ NB470_479.out _; (with_reducible repeat (first | refine blk_drewN ?_ _ | refine blk_drew ?_ | refine blk_alloc ?_ _)); refine blk_far ?_ NB470_479.out _; (with_reducible repeat (first | refine blk_drewN ?_ _ | refine blk_drew ?_ | refine blk_alloc ?_ _)); refine blk_far ?_ NB470_479.out _; (with_reducible repeat (first | refine blk_drewN ?_ _ | refine blk_drew ?_ | refine blk_alloc ?_ _)); exact BK470.out⟩, ⟨by (with_reducible repeat (first | refine blk_drewN ?_ _ | refine blk_drew ?_ | refine blk_alloc ?_ _)); refine blk_put (cs := #[.int .i64 t471, .int .i64 t472, .int .i64 t473, .int .i64 t474, .int .i64 t475, .int .i64 t476, .string (⟨#[]⟩ : ByteArray)]) ?_ 6 _ rfl; (with_reducible repeat (first | refine blk_drewN ?_ _ | refine blk_drew ?_ | refine blk_alloc ?_ _)); refine blk_put (cs := #[.int .i64 t471, .int .i64 t472, .int .i64 t473, .int .i64 t474, .int .i64 t475, .int .i64 0, .string (⟨#[]⟩ : ByteArray)]) ?_ 5 _ rfl; (with_reducible repeat (first | refine blk_drewN ?_ _ | refine blk_drew ?_ | refine blk_alloc ?_ _)); refine blk_put (cs := #[.int .i64 t471, .int .i64 t472, .int .i64 t473, .int .i64 t474, .int .i64 0, .int .i64 0, .string (⟨#[]⟩ : ByteArray)]) ?_ 4 _ rfl; (with_reducible repeat (first | refine blk_drewN ?_ _ | refine blk_drew ?_ | refine blk_alloc ?_ _)); refine blk_put (cs := #[.int .i64 t471, .int .i64 t472, .int .i64 t473, .int .i64 0, .int .i64 0, .int .i64 0, .string (⟨#[]⟩ : ByteArray)]) ?_ 3 _ rfl; (with_reducible repeat (first | refine blk_drewN ?_ _ | refine blk_drew ?_ | refine blk_alloc ?_ _)); refine blk_put (cs := #[.int .i64 t471, .int .i64 t472, .int .i64 0, .int .i64 0, .int .i64 0, .int .i64 0, .string (⟨#[]⟩ : ByteArray)]) ?_ 2 _ rfl; (with_reducible repeat (first | refine blk_drewN ?_ _ | refine blk_drew ?_ | refine blk_alloc ?_ _)); refine blk_put (cs := #[.int .i64 t471, .int .i64 0, .int .i64 0, .int .i64 0, .int .i64 0, .int .i64 0, .string (⟨#[]⟩ : ByteArray)]) ?_ 1 _ rfl; (with_reducible repeat (first | refine blk_drewN ?_ _ | refine blk_drew ?_ | refine blk_alloc ?_ _)); refine blk_put (cs := #[.int .i64 0, .int .i64 0, .int .i64 0, .int .i64 0, .int .i64 0, .int .i64 0, .string (⟨#[]⟩ : ByteArray)]) ?_ 0 _ rfl; (with_reducible repeat (first | refine blk_drewN ?_ _ | refine blk_drew ?_ | refine blk_alloc ?_ _)); exact BK479.out⟩, ⟨by repeat (first | (with_reducible first | exact HB.out | apply below_alloc | apply pw_below_drewN | apply below_drew1 | refine below_set ?_ GE470.out | refine below_set ?_ GE479.out) | exact HB.out)⟩⟩
  case rest =>
   clear HC6
   try clear c1
   try clear c2
   try clear c2b0
   try clear c2b1
   try clear p2
   try clear c5
   try clear c6
   try clear c8
   try clear c14
   try clear c16
   try clear c16b0
   try clear c17
   try clear c20
   try clear c21
   try clear hcz11_0
   try clear hcz11_1
   try clear hcz11_2
   try clear hcz11_3
   try clear hcz11_4
   try clear hcz11_5
   try clear hcz11_6
   try clear hcz15_0
   try clear hcz15_1
   try clear hcz15_2
   try clear hcz15_3
   try clear hcz15_4
   try clear hcz15_5
   try clear hcz15_6
   try clear hcz18_0
   try clear hcz18_1
   try clear hcz18_2
   try clear hcz18_3
   try clear hcz18_4
   try clear hcz18_5
   try clear hcz18_6
   try clear hcz19_0
   try clear hcz19_1
   try clear hcz19_2
   try clear hcz19_3
   try clear hcz19_4
   try clear hcz19_5
   try clear hcz19_6
   try clear hcz21_0
   try clear hcz21_1
   try clear hcz21_2
   try clear hcz21_3
   try clear hcz21_4
   try clear hcz21_5
   try clear hcz21_6
   try clear hcz22_0
   try clear hcz22_1
   try clear hcz22_2
   try clear hcz22_3
   try clear hcz22_4
   try clear hcz22_5
   try clear hcz22_6
   try clear hfz11_0
   try clear hfz11_1
   try clear hfz11_2
   try clear hfz11_3
   try clear hfz11_4
   try clear hfz11_5
   try clear hfz11_6
   try clear hfz15_0
   try clear hfz15_1
   try clear hfz15_2
   try clear hfz15_3
   try clear hfz15_4
   try clear hfz15_5
   try clear hfz15_6
   try clear hfz18_0
   try clear hfz18_1
   try clear hfz18_2
   try clear hfz18_3
   try clear hfz18_4
   try clear hfz18_5
   try clear hfz18_6
   try clear hfz19_0
   try clear hfz19_1
   try clear hfz19_2
   try clear hfz19_3
   try clear hfz19_4
   try clear hfz19_5
   try clear hfz19_6
   try clear hfz21_0
   try clear hfz21_1
   try clear hfz21_2
   try clear hfz21_3
   try clear hfz21_4
   try clear hfz21_5
   try clear hfz21_6
   try clear hfz22_0
   try clear hfz22_1
   try clear hfz22_2
   try clear hfz22_3
   try clear hfz22_4
   try clear hfz22_5
   try clear hfz22_6
   obtain ⟨kq, x30_5, rfl, HA, HJ5, HO_3, BK470, BK479, HB⟩ := hcut
   cases kq with
   | zero => exact absurd HA.out (by simp [laws_FnSegRead.j0])
   | succ kj5 =>
    have H := HA.out
    clear HA
    simp only [laws_FnSegRead.j0] at H
    by_cases c23 : x30_5 = true
    ·subst c23
     have H1 : (some false) = some r := by rw [if_pos rfl] at H; exact H
     clear H
     have H := H1
     clear H1
     obtain rfl := Option.some.inj H
     go_wp2
     go_ret
     exact ⟨by first | rfl | (simp [errW_none, errW_some] <;> rfl) | (simp [*, errW_none, errW_some] <;> rfl), by repeat (first | (with_reducible first | exact HB.out | apply below_alloc | apply pw_below_drewN | apply below_drew1 | refine below_set ?_ GE470.out | refine below_set ?_ GE479.out) | exact HB.out)⟩
    ·replace c23 := Bool.eq_false_iff.mpr c23
     subst c23
     have H1 : (if t469 = true then ((impl_SegOk.f kj5 t462 t463 t464 t465 t466 t467 t468).bind fun t480 => (if t480 = true then ((impl_SegBytes.f kj5 t462 t463 t464 t465 t466 t467 t468).bind fun t481 => ((laws_haBytes.f kj5 t481 t459).bind fun t484 => (some t484))) else (some false))) else (if ((t462 == 0 && (t463 == 0)) && ((t464 == 0 && (t465 == 0)) && (t466 == 0 && (t467 == 0 && (t468.toList == ([] : List UInt8)))))) = true then ((laws_haOk.f).bind fun t485 => (some t485)) else (some false))) = some r := by rw [if_neg (show ¬ (false = true) by decide)] at H; exact H
     clear H
     have H := H1
     clear H1
     by_cases c24 : t469 = true
     ·subst c24
      have H1 : ((impl_SegOk.f kj5 t462 t463 t464 t465 t466 t467 t468).bind fun t480 => (if t480 = true then ((impl_SegBytes.f kj5 t462 t463 t464 t465 t466 t467 t468).bind fun t481 => ((laws_haBytes.f kj5 t481 t459).bind fun t484 => (some t484))) else (some false))) = some r := by rw [if_pos rfl] at H; exact H
      clear H
      have H := H1
      clear H1
      replace H := Option.bind_eq_some_iff.mp H
      obtain ⟨t480, A250, H⟩ := H
      replace H : (if t480 = true then ((impl_SegBytes.f kj5 t462 t463 t464 t465 t466 t467 t468).bind fun t481 => ((laws_haBytes.f kj5 t481 t459).bind fun t484 => (some t484))) else (some false)) = some r := H
      have A25 := Aside0.mk A250
      clear A250
      by_cases c26 : t480 = true
      ·subst c26
       have H1 : ((impl_SegBytes.f kj5 t462 t463 t464 t465 t466 t467 t468).bind fun t481 => ((laws_haBytes.f kj5 t481 t459).bind fun t484 => (some t484))) = some r := by rw [if_pos rfl] at H; exact H
       clear H
       have H := H1
       clear H1
       replace H := Option.bind_eq_some_iff.mp H
       obtain ⟨t481, A270, H⟩ := H
       replace H : ((laws_haBytes.f kj5 t481 t459).bind fun t484 => (some t484)) = some r := H
       have A27 := Aside0.mk A270
       clear A270
       replace H := Option.bind_eq_some_iff.mp H
       obtain ⟨t484, A280, H⟩ := H
       replace H : (some t484) = some r := H
       have A28 := Aside0.mk A280
       clear A280
       obtain rfl := Option.some.inj H
       have hnb29 := NB470_479.out
       have hnc29 := NB479_470.out
       have hcz30_0 : wc.cell? ⟨gb470, 0, none⟩ = some (.int .i64 t462) := (blk_cell BK470.out 0).trans rfl
       have hcz30_1 : wc.cell? ⟨gb470, 1, none⟩ = some (.int .i64 t463) := (blk_cell BK470.out 1).trans rfl
       have hcz30_2 : wc.cell? ⟨gb470, 2, none⟩ = some (.int .i64 t464) := (blk_cell BK470.out 2).trans rfl
       have hcz30_3 : wc.cell? ⟨gb470, 3, none⟩ = some (.int .i64 t465) := (blk_cell BK470.out 3).trans rfl
       have hcz30_4 : wc.cell? ⟨gb470, 4, none⟩ = some (.int .i64 t466) := (blk_cell BK470.out 4).trans rfl
       have hcz30_5 : wc.cell? ⟨gb470, 5, none⟩ = some (.int .i64 t467) := (blk_cell BK470.out 5).trans rfl
       have hcz30_6 : wc.cell? ⟨gb470, 6, none⟩ = some (.string t468) := (blk_cell BK470.out 6).trans rfl
       have hfz30_0 := blk_frozen BK470.out 0
       have hfz30_1 := blk_frozen BK470.out 1
       have hfz30_2 := blk_frozen BK470.out 2
       have hfz30_3 := blk_frozen BK470.out 3
       have hfz30_4 := blk_frozen BK470.out 4
       have hfz30_5 := blk_frozen BK470.out 5
       have hfz30_6 := blk_frozen BK470.out 6
       go_wp2_with (first | ((with_reducible refine gate_callee (f := 16) rfl ?_); refine goesL_ (some 40) rfl rfl Tryd.func16 (by kernel_rfl) rfl #[.agg #[.int .i64 t462, .int .i64 t463, .int .i64 t464, .int .i64 t465, .int .i64 t466, .int .i64 t467, .string t468]] rfl Z37 ?_; (with_reducible refine (impl_SegOk.calls kj5 t462 t463 t464 t465 t466 t467 t468 true _ A25.out).mono ?_); rintro e w31 ⟨rfl, hb⟩; refine ⟨_, rfl, ?_⟩; have n0_ := Aside0.mk (Kd.R_below Z3 hb); have n1_ := Aside0.mk (blk_below (g := gb470) (o := .cells #[.int .i64 t462, .int .i64 t463, .int .i64 t464, .int .i64 t465, .int .i64 t466, .int .i64 t467, .string t468] 26 (0, 0)) Z32 hb); have n2_ := Aside0.mk (blk_below (g := gb479) (o := .cells #[.int .i64 t471, .int .i64 t472, .int .i64 t473, .int .i64 t474, .int .i64 t475, .int .i64 t476, .string t477] 26 (0, 0)) Z33 hb); have n3_ := Aside0.mk (below_step Z73 hb); clear HO_3; clear BK470; clear BK479; clear HB; have HO_3 := n0_; have BK470 := n1_; have BK479 := n2_; have HB := n3_; clear n0_ n1_ n2_ n3_; (try clear hb); have hcz32_0 : w31.cell? ⟨gb470, 0, none⟩ = some (.int .i64 t462) := (blk_cell BK470.out 0).trans rfl; have hcz32_1 : w31.cell? ⟨gb470, 1, none⟩ = some (.int .i64 t463) := (blk_cell BK470.out 1).trans rfl; have hcz32_2 : w31.cell? ⟨gb470, 2, none⟩ = some (.int .i64 t464) := (blk_cell BK470.out 2).trans rfl; have hcz32_3 : w31.cell? ⟨gb470, 3, none⟩ = some (.int .i64 t465) := (blk_cell BK470.out 3).trans rfl; have hcz32_4 : w31.cell? ⟨gb470, 4, none⟩ = some (.int .i64 t466) := (blk_cell BK470.out 4).trans rfl; have hcz32_5 : w31.cell? ⟨gb470, 5, none⟩ = some (.int .i64 t467) := (blk_cell BK470.out 5).trans rfl; have hcz32_6 : w31.cell? ⟨gb470, 6, none⟩ = some (.string t468) := (blk_cell BK470.out 6).trans rfl; have hfz32_0 := blk_frozen BK470.out 0; have hfz32_1 := blk_frozen BK470.out 1; have hfz32_2 := blk_frozen BK470.out 2; have hfz32_3 := blk_frozen BK470.out 3; have hfz32_4 := blk_frozen BK470.out 4; have hfz32_5 := blk_frozen BK470.out 5; have hfz32_6 := blk_frozen BK470.out 6) | (go_at_call 13; (with_reducible refine (impl_SegBytes.calls kj5 t462 t463 t464 t465 t466 t467 t468 t481 _ A27.out).mono ?_); rintro e w33 ⟨v482, rfl, ho0, hb⟩; have n0_ := Aside0.mk (Kd.R_elder' Z3 (Kd.R_base ho0) hb); have n1_ := Aside0.mk (Kd.R_lower (Kd.R_new' ho0 (Kd.R_lt Z3)) (below_size Z73)); have n2_ := Aside0.mk (blk_below (g := gb470) (o := .cells #[.int .i64 t462, .int .i64 t463, .int .i64 t464, .int .i64 t465, .int .i64 t466, .int .i64 t467, .string t468] 26 (0, 0)) Z32 hb); have n3_ := Aside0.mk (blk_below (g := gb479) (o := .cells #[.int .i64 t471, .int .i64 t472, .int .i64 t473, .int .i64 t474, .int .i64 t475, .int .i64 t476, .string t477] 26 (0, 0)) Z33 hb); have n4_ := Aside0.mk (below_step Z73 hb); clear HO_3; clear BK470; clear BK479; clear HB; have HO_3 := n0_; have HO483 := n1_; have BK470 := n2_; have BK479 := n3_; have HB := n4_; clear n0_ n1_ n2_ n3_ n4_; (try clear hb); (try clear ho0); obtain ⟨Ao34, co34, eo34⟩ := Kd.R_slice HO483.out; subst eo34) | (go_at_call 14; (with_reducible refine (laws_haBytes.calls kj5 _ _ t481 _ _ t459 t484 _ ?side1 ?side2 ?side3 ?side4 A28.out).mono ?_); (case side1 => repeat (first | exact (Kd.R_reads' HO483.out).2.2 | (with_reducible refine Kd.C_alloc ?_ _) | (with_reducible refine Kd.C_drewN ?_ _) | (with_reducible refine Kd.C_drew ?_))); (case side2 => exact (Kd.R_reads' HO483.out).2.1); (case side3 => exact Z52); (case side4 => exact (Kd.R_reads' HO_3.out).2.1); rintro e w' ⟨rfl, ⟨nd, rfl⟩⟩))
       go_ret
       exact ⟨by first | rfl | (simp [errW_none, errW_some] <;> rfl) | (simp [*, errW_none, errW_some] <;> rfl), by repeat (first | (with_reducible first | exact HB.out | apply below_alloc | apply pw_below_drewN | apply below_drew1 | refine below_set ?_ GE470.out | refine below_set ?_ GE479.out) | exact HB.out)⟩
      ·replace c26 := Bool.eq_false_iff.mpr c26
       subst c26
       have H1 : (some false) = some r := by rw [if_neg (show ¬ (false = true) by decide)] at H; exact H
       clear H
       have H := H1
       clear H1
       obtain rfl := Option.some.inj H
       have hnb35 := NB470_479.out
       have hnc35 := NB479_470.out
       have hcz36_0 : wc.cell? ⟨gb470, 0, none⟩ = some (.int .i64 t462) := (blk_cell BK470.out 0).trans rfl
       have hcz36_1 : wc.cell? ⟨gb470, 1, none⟩ = some (.int .i64 t463) := (blk_cell BK470.out 1).trans rfl
       have hcz36_2 : wc.cell? ⟨gb470, 2, none⟩ = some (.int .i64 t464) := (blk_cell BK470.out 2).trans rfl
       have hcz36_3 : wc.cell? ⟨gb470, 3, none⟩ = some (.int .i64 t465) := (blk_cell BK470.out 3).trans rfl
       have hcz36_4 : wc.cell? ⟨gb470, 4, none⟩ = some (.int .i64 t466) := (blk_cell BK470.out 4).trans rfl
       have hcz36_5 : wc.cell? ⟨gb470, 5, none⟩ = some (.int .i64 t467) := (blk_cell BK470.out 5).trans rfl
       have hcz36_6 : wc.cell? ⟨gb470, 6, none⟩ = some (.string t468) := (blk_cell BK470.out 6).trans rfl
       have hfz36_0 := blk_frozen BK470.out 0
       have hfz36_1 := blk_frozen BK470.out 1
       have hfz36_2 := blk_frozen BK470.out 2
       have hfz36_3 := blk_frozen BK470.out 3
       have hfz36_4 := blk_frozen BK470.out 4
       have hfz36_5 := blk_frozen BK470.out 5
       have hfz36_6 := blk_frozen BK470.out 6
       go_wp2_with (first | ((with_reducible refine gate_callee (f := 16) rfl ?_); refine goesL_ (some 40) rfl rfl Tryd.func16 (by kernel_rfl) rfl #[.agg #[.int .i64 t462, .int .i64 t463, .int .i64 t464, .int .i64 t465, .int .i64 t466, .int .i64 t467, .string t468]] rfl Z37 ?_; (with_reducible refine (impl_SegOk.calls kj5 t462 t463 t464 t465 t466 t467 t468 false _ A25.out).mono ?_); rintro e w37 ⟨rfl, hb⟩; refine ⟨_, rfl, ?_⟩; have n0_ := Aside0.mk (Kd.R_below Z3 hb); have n1_ := Aside0.mk (blk_below (g := gb470) (o := .cells #[.int .i64 t462, .int .i64 t463, .int .i64 t464, .int .i64 t465, .int .i64 t466, .int .i64 t467, .string t468] 26 (0, 0)) Z32 hb); have n2_ := Aside0.mk (blk_below (g := gb479) (o := .cells #[.int .i64 t471, .int .i64 t472, .int .i64 t473, .int .i64 t474, .int .i64 t475, .int .i64 t476, .string t477] 26 (0, 0)) Z33 hb); have n3_ := Aside0.mk (below_step Z73 hb); clear HO_3; clear BK470; clear BK479; clear HB; have HO_3 := n0_; have BK470 := n1_; have BK479 := n2_; have HB := n3_; clear n0_ n1_ n2_ n3_; (try clear hb)))
       go_ret
       exact ⟨by first | rfl | (simp [errW_none, errW_some] <;> rfl) | (simp [*, errW_none, errW_some] <;> rfl), by repeat (first | (with_reducible first | exact HB.out | apply below_alloc | apply pw_below_drewN | apply below_drew1 | refine below_set ?_ GE470.out | refine below_set ?_ GE479.out) | exact HB.out)⟩
     ·replace c24 := Bool.eq_false_iff.mpr c24
      subst c24
      have H1 : (if ((t462 == 0 && (t463 == 0)) && ((t464 == 0 && (t465 == 0)) && (t466 == 0 && (t467 == 0 && (t468.toList == ([] : List UInt8)))))) = true then ((laws_haOk.f).bind fun t485 => (some t485)) else (some false)) = some r := by rw [if_neg (show ¬ (false = true) by decide)] at H; exact H
      clear H
      have H := H1
      clear H1
      by_cases c38 : ((t462 == 0 && (t463 == 0)) && ((t464 == 0 && (t465 == 0)) && (t466 == 0 && (t467 == 0 && (t468.toList == ([] : List UInt8)))))) = true
      ·rw [if_pos c38] at H
       have c38b0 : ((t462 == 0 && (t463 == 0)) && ((t464 == 0 && (t465 == 0)) && (t466 == 0 && (t467 == 0 && (t468.toList == ([] : List UInt8)))))) = true := c38
       have c38b1 : ((t462 == 0 && (t463 == 0)) && ((t464 == 0 && (t465 == 0)) && (t466 == 0 && (t467 == 0 && t468.toList.isEmpty)))) = true := by have h_ : ∀ l_ : List UInt8, l_.isEmpty = (l_ == []) := (fun l_ => by cases l_ <;> rfl); rw [h_]; exact c38b0
       clear c38
       replace H := Option.bind_eq_some_iff.mp H
       obtain ⟨t485, A390, H⟩ := H
       replace H : (some t485) = some r := H
       have A39 := Aside0.mk A390
       clear A390
       obtain rfl := Option.some.inj H
       have hnb40 := NB470_479.out
       have hnc40 := NB479_470.out
       have hcz41_0 : wc.cell? ⟨gb470, 0, none⟩ = some (.int .i64 t462) := (blk_cell BK470.out 0).trans rfl
       have hcz41_1 : wc.cell? ⟨gb470, 1, none⟩ = some (.int .i64 t463) := (blk_cell BK470.out 1).trans rfl
       have hcz41_2 : wc.cell? ⟨gb470, 2, none⟩ = some (.int .i64 t464) := (blk_cell BK470.out 2).trans rfl
       have hcz41_3 : wc.cell? ⟨gb470, 3, none⟩ = some (.int .i64 t465) := (blk_cell BK470.out 3).trans rfl
       have hcz41_4 : wc.cell? ⟨gb470, 4, none⟩ = some (.int .i64 t466) := (blk_cell BK470.out 4).trans rfl
       have hcz41_5 : wc.cell? ⟨gb470, 5, none⟩ = some (.int .i64 t467) := (blk_cell BK470.out 5).trans rfl
       have hcz41_6 : wc.cell? ⟨gb470, 6, none⟩ = some (.string t468) := (blk_cell BK470.out 6).trans rfl
       have hfz41_0 := blk_frozen BK470.out 0
       have hfz41_1 := blk_frozen BK470.out 1
       have hfz41_2 := blk_frozen BK470.out 2
       have hfz41_3 := blk_frozen BK470.out 3
       have hfz41_4 := blk_frozen BK470.out 4
       have hfz41_5 := blk_frozen BK470.out 5
       have hfz41_6 := blk_frozen BK470.out 6
       go_wp2_with (first | (go_at_call 20; (with_reducible refine (laws_haOk.calls  t485 _ A39.out).mono ?_); rintro e w42 ⟨rfl, hb⟩; have n0_ := Aside0.mk (Kd.R_below Z3 hb); have n1_ := Aside0.mk (blk_below (g := gb470) (o := .cells #[.int .i64 t462, .int .i64 t463, .int .i64 t464, .int .i64 t465, .int .i64 t466, .int .i64 t467, .string t468] 26 (0, 0)) Z32 hb); have n2_ := Aside0.mk (blk_below (g := gb479) (o := .cells #[.int .i64 t471, .int .i64 t472, .int .i64 t473, .int .i64 t474, .int .i64 t475, .int .i64 t476, .string t477] 26 (0, 0)) Z33 hb); have n3_ := Aside0.mk (below_step Z73 hb); clear HO_3; clear BK470; clear BK479; clear HB; have HO_3 := n0_; have BK470 := n1_; have BK479 := n2_; have HB := n3_; clear n0_ n1_ n2_ n3_; (try clear hb)))
       go_ret
       exact ⟨by first | rfl | (simp [errW_none, errW_some] <;> rfl) | (simp [*, errW_none, errW_some] <;> rfl), by repeat (first | (with_reducible first | exact HB.out | apply below_alloc | apply pw_below_drewN | apply below_drew1 | refine below_set ?_ GE470.out | refine below_set ?_ GE479.out) | exact HB.out)⟩
      ·rw [if_neg c38] at H
       have c38b0 : ((t462 == 0 && (t463 == 0)) && ((t464 == 0 && (t465 == 0)) && (t466 == 0 && (t467 == 0 && (t468.toList == ([] : List UInt8)))))) = false := by simpa using c38
       have c38b1 : ((t462 == 0 && (t463 == 0)) && ((t464 == 0 && (t465 == 0)) && (t466 == 0 && (t467 == 0 && t468.toList.isEmpty)))) = false := by have h_ : ∀ l_ : List UInt8, l_.isEmpty = (l_ == []) := (fun l_ => by cases l_ <;> rfl); rw [h_]; exact c38b0
       clear c38
       obtain rfl := Option.some.inj H
       have hnb43 := NB470_479.out
       have hnc43 := NB479_470.out
       have hcz44_0 : wc.cell? ⟨gb470, 0, none⟩ = some (.int .i64 t462) := (blk_cell BK470.out 0).trans rfl
       have hcz44_1 : wc.cell? ⟨gb470, 1, none⟩ = some (.int .i64 t463) := (blk_cell BK470.out 1).trans rfl
       have hcz44_2 : wc.cell? ⟨gb470, 2, none⟩ = some (.int .i64 t464) := (blk_cell BK470.out 2).trans rfl
       have hcz44_3 : wc.cell? ⟨gb470, 3, none⟩ = some (.int .i64 t465) := (blk_cell BK470.out 3).trans rfl
       have hcz44_4 : wc.cell? ⟨gb470, 4, none⟩ = some (.int .i64 t466) := (blk_cell BK470.out 4).trans rfl
       have hcz44_5 : wc.cell? ⟨gb470, 5, none⟩ = some (.int .i64 t467) := (blk_cell BK470.out 5).trans rfl
       have hcz44_6 : wc.cell? ⟨gb470, 6, none⟩ = some (.string t468) := (blk_cell BK470.out 6).trans rfl
       have hfz44_0 := blk_frozen BK470.out 0
       have hfz44_1 := blk_frozen BK470.out 1
       have hfz44_2 := blk_frozen BK470.out 2
       have hfz44_3 := blk_frozen BK470.out 3
       have hfz44_4 := blk_frozen BK470.out 4
       have hfz44_5 := blk_frozen BK470.out 5
       have hfz44_6 := blk_frozen BK470.out 6
       go_wp2
       go_ret
       exact ⟨by first | rfl | (simp [errW_none, errW_some] <;> rfl) | (simp [*, errW_none, errW_some] <;> rfl), by repeat (first | (with_reducible first | exact HB.out | apply below_alloc | apply pw_below_drewN | apply below_drew1 | refine below_set ?_ GE470.out | refine below_set ?_ GE479.out) | exact HB.out)⟩

end Go.Proofs.YtdfoelhpeeanlaaDoor.QFnSegRead
