-- Laid by a program of this repo (wip/tools/sprint.py): print.py's functions and walks; the contracts named 'BY HAND' are proved by hand.
import Derived.Test.YtmahgffkkdggcaaQFnPosTherex0
import Derived.Test.YtmahgffkkdggcaaQFnPosTherex2
import Derived.Test.YtmahgffkkdggcaaQFnPosTherex3
import Derived.Test.YtmahgffkkdggcaaQFnPosTherex4
import Derived.Test.YtmahgffkkdggcaaQFnPosTherex14
namespace Go.Proofs.Ytmahgffkkdggcaa.QFnPosThere
open Go.RowKit Go.Proofs.YtmahgffkkdggcaaW.PrintWords Go.Proofs.YtmahgffkkdggcaaW.PrintLast Go.Proofs.YtmahgffkkdggcaaW.PrintMore
attribute [local go_sem] max2_int min2_int max_two min_two max_three min_three max_four min_four   -- for this text's walks alone
set_option linter.unusedVariables false
set_option linter.unusedSimpArgs false

/-! ### laws_FnPosThere: function 12 -/
mutual
def laws_FnPosThere.j0 : Nat → ByteArray → ByteArray → Int → Int → Option (Bool)
 | 0, _, _, _, _ => none
 | k + 1, x3, x4, x6, x8 => laws_FnPosThere.l0 k x3 x4 x6 x8 0
def laws_FnPosThere.l0 : Nat → ByteArray → ByteArray → Int → Int → Int → Option (Bool)
 | 0, _, _, _, _, _ => none
 | k + 1, x3, x4, x6, x8, x9 => if x9 < (x4.size : Int) then ((impl_PosThere.f k x3 x4 x9).bind fun t467 => ((impl_PosThere.f k x3 x4 (wrap64 (x9 + 1))).bind fun t468 => (if t467 > t468 then (some false) else (laws_FnPosThere.l0 k x3 x4 x6 x8 (wrap64 (x9 + 1)))))) else (if x6 ≥ 0 then (if x6 ≤ x8 then ((impl_PosThere.f k x3 x4 0).bind fun t464 => (if t464 = 0 then ((impl_PosThere.f k x3 x4 (x4.size : Int)).bind fun t465 => (if t465 = x8 then ((laws_haOk.f k).bind fun t466 => (some t466)) else (some false))) else (some false))) else (some false)) else (some false))
end
def laws_FnPosThere.f (k : Nat) (l0 : List Int) : Option (Bool) := if (l0.length : Int) > 1048576 then (some true) else ((spec_DrawPosThere.f k l0).bind fun bt455 => ((impl_PosThere.f k bt455.1 bt455.2.1 bt455.2.2).bind fun t458 => ((spec_PosThere.f k bt455.1 bt455.2.1 bt455.2.2).bind fun t459 => (if t458 = t459 then ((impl_PosPairs.f k bt455.1 bt455.2.1).bind fun t460 => (if (t460.length : Int) > 0 then (if 0 ≤ (wrap64 ((t460.length : Int) - 1)) then (if (wrap64 ((t460.length : Int) - 1)) < (t460.length : Int) then (laws_FnPosThere.j0 k bt455.1 bt455.2.1 t458 ((rd_T43 t460 (wrap64 ((t460.length : Int) - 1))).f1)) else (none)) else (none)) else (laws_FnPosThere.j0 k bt455.1 bt455.2.1 t458 0))) else (some false)))))
theorem laws_FnPosThere.mono_l : ∀ k, (∀ y0 y1 y2 y3, LeO (laws_FnPosThere.j0 k y0 y1 y2 y3) (laws_FnPosThere.j0 (k + 1) y0 y1 y2 y3)) ∧ (∀ y0 y1 y2 y3 y4, LeO (laws_FnPosThere.l0 k y0 y1 y2 y3 y4) (laws_FnPosThere.l0 (k + 1) y0 y1 y2 y3 y4))
 | 0 => ⟨fun _ _ _ _ r h => by simp [laws_FnPosThere.j0] at h, fun _ _ _ _ _ r h => by simp [laws_FnPosThere.l0] at h⟩
 | k + 1 => by
  obtain ⟨ih0, ih1⟩ := laws_FnPosThere.mono_l k
  refine ⟨?_, ?_⟩
  ·intro y0 y1 y2 y3
   unfold laws_FnPosThere.j0
   repeat' first
   | (with_reducible exact ih0 _ _ _ _)
   | (with_reducible exact ih1 _ _ _ _ _)
   | (with_reducible exact impl_PosPairs.mono _ _ _)
   | (with_reducible exact impl_PosThere.mono _ _ _ _)
   | (with_reducible exact laws_haOk.mono _)
   | (with_reducible exact spec_DrawPosThere.mono _ _)
   | (with_reducible exact spec_PosThere.mono _ _ _ _)
   | (with_reducible exact LeO.refl _)
   | (with_reducible exact LeO.none _)
   | (with_reducible refine LeO.ite ?_ ?_)
   | (with_reducible refine LeO.bind ?_ (fun _ => ?_))
   | exact ih0 _ _ _ _
   | exact ih1 _ _ _ _ _
   | exact impl_PosPairs.mono _ _ _
   | exact impl_PosThere.mono _ _ _ _
   | exact laws_haOk.mono _
   | exact spec_DrawPosThere.mono _ _
   | exact spec_PosThere.mono _ _ _ _
   | exact LeO.none _
   | refine LeO.ite ?_ ?_
   | refine LeO.bind ?_ (fun _ => ?_)
  ·intro y0 y1 y2 y3 y4
   unfold laws_FnPosThere.l0
   repeat' first
   | (with_reducible exact ih0 _ _ _ _)
   | (with_reducible exact ih1 _ _ _ _ _)
   | (with_reducible exact impl_PosPairs.mono _ _ _)
   | (with_reducible exact impl_PosThere.mono _ _ _ _)
   | (with_reducible exact laws_haOk.mono _)
   | (with_reducible exact spec_DrawPosThere.mono _ _)
   | (with_reducible exact spec_PosThere.mono _ _ _ _)
   | (with_reducible exact LeO.refl _)
   | (with_reducible exact LeO.none _)
   | (with_reducible refine LeO.ite ?_ ?_)
   | (with_reducible refine LeO.bind ?_ (fun _ => ?_))
   | exact ih0 _ _ _ _
   | exact ih1 _ _ _ _ _
   | exact impl_PosPairs.mono _ _ _
   | exact impl_PosThere.mono _ _ _ _
   | exact laws_haOk.mono _
   | exact spec_DrawPosThere.mono _ _
   | exact spec_PosThere.mono _ _ _ _
   | exact LeO.none _
   | refine LeO.ite ?_ ?_
   | refine LeO.bind ?_ (fun _ => ?_)
theorem laws_FnPosThere.mono : ∀ a0 k, LeO (laws_FnPosThere.f k a0) (laws_FnPosThere.f (k + 1) a0) := by
 intro a0 k
 obtain ⟨ih0, ih1⟩ := laws_FnPosThere.mono_l k
 unfold laws_FnPosThere.f
 repeat' first
   | (with_reducible exact ih0 _ _ _ _)
   | (with_reducible exact ih1 _ _ _ _ _)
   | (with_reducible exact impl_PosPairs.mono _ _ _)
   | (with_reducible exact impl_PosThere.mono _ _ _ _)
   | (with_reducible exact laws_haOk.mono _)
   | (with_reducible exact spec_DrawPosThere.mono _ _)
   | (with_reducible exact spec_PosThere.mono _ _ _ _)
   | (with_reducible exact LeO.refl _)
   | (with_reducible exact LeO.none _)
   | (with_reducible refine LeO.ite ?_ ?_)
   | (with_reducible refine LeO.bind ?_ (fun _ => ?_))
   | exact ih0 _ _ _ _
   | exact ih1 _ _ _ _ _
   | exact impl_PosPairs.mono _ _ _
   | exact impl_PosThere.mono _ _ _ _
   | exact laws_haOk.mono _
   | exact spec_DrawPosThere.mono _ _
   | exact spec_PosThere.mono _ _ _ _
   | exact LeO.none _
   | refine LeO.ite ?_ ?_
   | refine LeO.bind ?_ (fun _ => ?_)
set_option maxHeartbeats 8000000 in
set_option maxRecDepth 100000 in
theorem laws_FnPosThere.calls (k : Nat) (A0 : Option Addr) (c0 : Nat) (l0 : List Int) (r : Bool) (w : World) (hr0 : Kd.C (Kd.int .u8) w A0 l0.length l0) (hc0 : l0.length ≤ c0) (h : laws_FnPosThere.f k l0 = some r) :
  Calls Try.prog 12 #[.slice A0 l0.length c0] w fun e w' => e = .returned (.bool r) ∧ Below w.heap.size w w' := by
 have HR0 := Aside0.mk hr0
 have HC0 := Aside0.mk hc0
 clear hr0 hc0
 have HB := Aside0.mk (Below.refl w.heap.size w)
 have H : (if (l0.length : Int) > 1048576 then (some true) else ((spec_DrawPosThere.f k l0).bind fun bt455 => ((impl_PosThere.f k bt455.1 bt455.2.1 bt455.2.2).bind fun t458 => ((spec_PosThere.f k bt455.1 bt455.2.1 bt455.2.2).bind fun t459 => (if t458 = t459 then ((impl_PosPairs.f k bt455.1 bt455.2.1).bind fun t460 => (if (t460.length : Int) > 0 then (if 0 ≤ (wrap64 ((t460.length : Int) - 1)) then (if (wrap64 ((t460.length : Int) - 1)) < (t460.length : Int) then (laws_FnPosThere.j0 k bt455.1 bt455.2.1 t458 ((rd_T43 t460 (wrap64 ((t460.length : Int) - 1))).f1)) else (none)) else (none)) else (laws_FnPosThere.j0 k bt455.1 bt455.2.1 t458 0))) else (some false)))))) = some r := h
 clear h
 by_cases c2 : (l0.length : Int) > 1048576
 ·rw [if_pos c2] at H
  have c2b0 : decide (1048576 < (l0.length : Int)) = true := decide_eq_true c2
  have c2b1 : decide (1048576 < l0.length) = true := decide_eq_true (by omega)
  clear c2
  obtain rfl := Option.some.inj H
  go_enter Try.func12, Try.ntmps12
  go_wp2
  go_ret
  exact ⟨by first | rfl | (simp [errW_none, errW_some] <;> rfl) | (simp [*, errW_none, errW_some] <;> rfl), by repeat (first | (with_reducible first | exact HB.out | apply below_alloc | apply pw_below_drewN | apply below_drew1) | exact HB.out)⟩
 ·rw [if_neg c2] at H
  have c2b0 : decide (1048576 < (l0.length : Int)) = false := decide_eq_false c2
  have c2b1 : decide (1048576 < l0.length) = false := decide_eq_false (by omega)
  clear c2
  replace H := Option.bind_eq_some_iff.mp H
  obtain ⟨⟨t455, t456, t457⟩, A30, H⟩ := H
  replace H : ((impl_PosThere.f k t455 t456 t457).bind fun t458 => ((spec_PosThere.f k t455 t456 t457).bind fun t459 => (if t458 = t459 then ((impl_PosPairs.f k t455 t456).bind fun t460 => (if (t460.length : Int) > 0 then (if 0 ≤ (wrap64 ((t460.length : Int) - 1)) then (if (wrap64 ((t460.length : Int) - 1)) < (t460.length : Int) then (laws_FnPosThere.j0 k t455 t456 t458 ((rd_T43 t460 (wrap64 ((t460.length : Int) - 1))).f1)) else (none)) else (none)) else (laws_FnPosThere.j0 k t455 t456 t458 0))) else (some false)))) = some r := H
  have A3 := Aside0.mk A30
  clear A30
  replace H := Option.bind_eq_some_iff.mp H
  obtain ⟨t458, A40, H⟩ := H
  replace H : ((spec_PosThere.f k t455 t456 t457).bind fun t459 => (if t458 = t459 then ((impl_PosPairs.f k t455 t456).bind fun t460 => (if (t460.length : Int) > 0 then (if 0 ≤ (wrap64 ((t460.length : Int) - 1)) then (if (wrap64 ((t460.length : Int) - 1)) < (t460.length : Int) then (laws_FnPosThere.j0 k t455 t456 t458 ((rd_T43 t460 (wrap64 ((t460.length : Int) - 1))).f1)) else (none)) else (none)) else (laws_FnPosThere.j0 k t455 t456 t458 0))) else (some false))) = some r := H
  have A4 := Aside0.mk A40
  clear A40
  replace H := Option.bind_eq_some_iff.mp H
  obtain ⟨t459, A50, H⟩ := H
  replace H : (if t458 = t459 then ((impl_PosPairs.f k t455 t456).bind fun t460 => (if (t460.length : Int) > 0 then (if 0 ≤ (wrap64 ((t460.length : Int) - 1)) then (if (wrap64 ((t460.length : Int) - 1)) < (t460.length : Int) then (laws_FnPosThere.j0 k t455 t456 t458 ((rd_T43 t460 (wrap64 ((t460.length : Int) - 1))).f1)) else (none)) else (none)) else (laws_FnPosThere.j0 k t455 t456 t458 0))) else (some false)) = some r := H
  have A5 := Aside0.mk A50
  clear A50
  by_cases c6 : t458 = t459
  ·rw [if_pos c6] at H
   have c6b0 : (t458 == t459) = true := beq_iff_eq.mpr c6
   have c6b1 : (t458 != t459) = false := bne_eq_false_iff_eq.mpr c6
   clear c6
   replace H := Option.bind_eq_some_iff.mp H
   obtain ⟨t460, A70, H⟩ := H
   replace H : (if (t460.length : Int) > 0 then (if 0 ≤ (wrap64 ((t460.length : Int) - 1)) then (if (wrap64 ((t460.length : Int) - 1)) < (t460.length : Int) then (laws_FnPosThere.j0 k t455 t456 t458 ((rd_T43 t460 (wrap64 ((t460.length : Int) - 1))).f1)) else (none)) else (none)) else (laws_FnPosThere.j0 k t455 t456 t458 0)) = some r := H
   have A7 := Aside0.mk A70
   clear A70
   have HC8 := Aside0.mk H
   clear H
   go_enter Try.func12, Try.ntmps12
   go_upto_if 34 with (first | ((with_reducible refine gate_callee (f := 34) rfl ?_); refine goesL_ (some 15) rfl rfl Try.func34 (by kernel_rfl) rfl #[.slice A0 l0.length c0] rfl Z75 ?_; (with_reducible refine (spec_DrawPosThere.calls k _ _ l0 t455 t456 t457 _ ?side1 ?side2 A3.out).mono ?_); (case side1 => exact Z80); (case side2 => exact HC0.out); rintro e w9 ⟨rfl, hb⟩; refine ⟨_, rfl, ?_⟩; have n0_ := Aside0.mk (below_step Z71 hb); clear HB; have HB := n0_; clear n0_; (try clear hb)) | ((with_reducible refine gate_callee (f := 21) rfl ?_); refine goesL_ (some 22) rfl rfl Try.func21 (by kernel_rfl) rfl #[.string t455, .string t456, .int .i64 t457] rfl Z75 ?_; (with_reducible refine (impl_PosThere.calls k t455 t456 t457 t458 _ A4.out).mono ?_); rintro e w10 ⟨rfl, hb⟩; refine ⟨_, rfl, ?_⟩; have n0_ := Aside0.mk (below_step Z71 hb); clear HB; have HB := n0_; clear n0_; (try clear hb)) | ((with_reducible refine gate_callee (f := 20) rfl ?_); refine goesL_ (some 27) rfl rfl Try.func20 (by kernel_rfl) rfl #[.string t455, .string t456, .int .i64 t457] rfl Z75 ?_; (with_reducible refine (spec_PosThere.calls k t455 t456 t457 t459 _ A5.out).mono ?_); rintro e w11 ⟨rfl, hb⟩; refine ⟨_, rfl, ?_⟩; have n0_ := Aside0.mk (below_step Z71 hb); clear HB; have HB := n0_; clear n0_; (try clear hb)) | ((with_reducible refine gate_callee (f := 23) rfl ?_); refine goesL_ (some 31) rfl rfl Try.func23 (by kernel_rfl) rfl #[.string t455, .string t456] rfl Z75 ?_; (with_reducible refine (impl_PosPairs.calls k t455 t456 t460 _ A7.out).mono ?_); rintro e w12 ⟨v461, rfl, ho0, hb⟩; refine ⟨_, rfl, ?_⟩; have n0_ := Aside0.mk (Kd.R_lower ho0 (below_size Z71)); have n1_ := Aside0.mk (below_step Z71 hb); clear HB; have HO462 := n0_; have HB := n1_; clear n0_ n1_; (try clear hb); (try clear ho0); obtain ⟨Ao13, co13, eo13⟩ := Kd.R_slice HO462.out; subst eo13))
   (try simp only [Act.put, List.setIfInBounds_toArray, List.set_cons_zero, List.set_cons_succ])
   go_cut [8] (fun v8 wc => ∃ (kq : Nat) (x8_7 : Int), v8 = .int .i64 x8_7 ∧ Aside0 (laws_FnPosThere.j0 kq t455 t456 t458 x8_7 = some r) ∧ Aside0 (kq ≤ k) ∧ Aside0 (Below w.heap.size w wc))
   case first =>
    have H := HC8.out
    clear HC8
    by_cases c14 : (t460.length : Int) > 0
    ·rw [if_pos c14] at H
     have c14b0 : decide (0 < (t460.length : Int)) = true := decide_eq_true c14
     have c14b1 : decide (0 < t460.length) = true := decide_eq_true (by omega)
     clear c14
     (first | rw [c14b0] | rw [c14b1] | (simp only [i64_w, i32_w]; rw [c14b0]) | skip)
     obtain ⟨ji15, hji15⟩ : ∃ j_ : Int, (wrap64 ((t460.length : Int) - 1)) = j_ := ⟨_, rfl⟩
     replace H : (if 0 ≤ (ji15) then (if (ji15) < (t460.length : Int) then (laws_FnPosThere.j0 k t455 t456 t458 ((rd_T43 t460 (ji15)).f1)) else (none)) else (none)) = some r := by first | (rw [hji15] at H; exact H) | (simp only [hji15] at H ⊢; exact H)
     have hji15w : (IntKind.i64.wrap ((t460.length : Int) - 1)) = ji15 := (i64_w _).trans hji15
     by_cases c16 : 0 ≤ (ji15)
     ·rw [if_pos c16] at H
      have c16b0 : decide (0 ≤ (ji15)) = true := decide_eq_true c16
      clear c16
      by_cases c17 : (ji15) < (t460.length : Int)
      ·rw [if_pos c17] at H
       have c17b0 : decide ((ji15) < (t460.length : Int)) = true := decide_eq_true c17
       clear c17
       have H' := Aside0.mk H
       clear H
       have p463 : 0 ≤ ((ji15) : Int) := of_decide_eq_true Z11
       have q463 : (ji15) < (t460.length : Int) := of_decide_eq_true Z11
       obtain ⟨ad463, e463, hx463_0, hx463_1, hx463_2, hx463_3, hx463_4⟩ := at_T43 (Kd.R_reads' HO462.out).2.2 (ji15) p463 q463
       cases e463
       replace p463 := eq_true p463
       replace q463 := eq_true q463
       go_wp2
       go_meet
       case rel => exact ⟨_, ((rd_T43 t460 (ji15)).f1), (by first | rfl | (simp; done) | (simp only [← hji15] <;> (first | rfl | simp)) | (simp [*]; done)), H', ⟨by first | omega | exact Nat.le_refl _⟩, ⟨by repeat (first | (with_reducible first | exact HB.out | apply below_alloc | apply pw_below_drewN | apply below_drew1) | exact HB.out)⟩⟩
      ·rw [if_neg c17] at H
       exact absurd H (by simp)
     ·rw [if_neg c16] at H
      exact absurd H (by simp)
    ·rw [if_neg c14] at H
     have c14b0 : decide (0 < (t460.length : Int)) = false := decide_eq_false c14
     have c14b1 : decide (0 < t460.length) = false := decide_eq_false (by omega)
     clear c14
     (first | rw [c14b0] | rw [c14b1] | (simp only [i64_w, i32_w]; rw [c14b0]) | skip)
     have H' := Aside0.mk H
     clear H
     go_wp2
     go_meet
     case rel => exact ⟨_, (0), Z0, H', ⟨by first | omega | exact Nat.le_refl _⟩, ⟨by repeat (first | (with_reducible first | exact HB.out | apply below_alloc | apply pw_below_drewN | apply below_drew1) | exact HB.out)⟩⟩
   case rest =>
    clear HC8
    try clear c1
    try clear c2
    try clear c2b0
    try clear c2b1
    try clear p2
    try clear c3
    try clear p4
    try clear q4
    try clear hx4
    try clear c6
    try clear c6b0
    try clear c6b1
    try clear p6
    try clear c12
    try clear c14
    try clear c14b0
    try clear c14b1
    try clear c16
    try clear c16b0
    try clear c17
    try clear c17b0
    try clear hx463_0
    try clear hx463_1
    try clear hx463_2
    try clear hx463_3
    try clear hx463_4
    try clear p463
    try clear q463
    obtain ⟨kq, x8_7, rfl, HA, HJ7, HB⟩ := hcut
    cases kq with
    | zero => exact absurd HA.out (by simp [laws_FnPosThere.j0])
    | succ kj7 =>
     have H := HA.out
     clear HA
     simp only [laws_FnPosThere.j0] at H
     have H' := Aside0.mk H
     clear H
     go_wp2
     go_loopg [9] kj7 (fun kq v9 w' => ∃ (x9_2 : Int), v9 = .int .i64 x9_2 ∧ Aside0 (laws_FnPosThere.l0 kq t455 t456 t458 x8_7 x9_2 = some r) ∧ Aside0 (kq ≤ kj7) ∧ Aside0 (Below w.heap.size w w'))
     case atStart => exact ⟨(0), Z0, H', ⟨Nat.le_refl _⟩, ⟨by repeat (first | (with_reducible first | exact HB.out | apply below_alloc | apply pw_below_drewN | apply below_drew1) | exact HB.out)⟩⟩
     case round =>
      clear H'
      try clear c1
      try clear c2
      try clear c2b0
      try clear c2b1
      try clear p2
      try clear c3
      try clear p4
      try clear q4
      try clear hx4
      try clear c6
      try clear c6b0
      try clear c6b1
      try clear p6
      try clear c12
      try clear c14
      try clear c14b0
      try clear c14b1
      try clear c16
      try clear c16b0
      try clear c17
      try clear c17b0
      try clear hx463_0
      try clear hx463_1
      try clear hx463_2
      try clear hx463_3
      try clear hx463_4
      try clear p2
      try clear p4
      try clear p463
      try clear p6
      try clear q4
      try clear q463
      obtain ⟨x9_2, rfl, HA, HK2, HB⟩ := hrel
      cases gk with
      | zero => exact absurd HA.out (by simp [laws_FnPosThere.l0])
      | succ k2 =>
       have H := HA.out
       clear HA
       simp only [laws_FnPosThere.l0] at H
       by_cases c18 : x9_2 < (t456.size : Int)
       ·rw [if_pos c18] at H
        have c18b0 : decide (x9_2 < (t456.size : Int)) = true := decide_eq_true c18
        clear c18
        replace H := Option.bind_eq_some_iff.mp H
        obtain ⟨t467, A190, H⟩ := H
        replace H : ((impl_PosThere.f k2 t455 t456 (wrap64 (x9_2 + 1))).bind fun t468 => (if t467 > t468 then (some false) else (laws_FnPosThere.l0 k2 t455 t456 t458 x8_7 (wrap64 (x9_2 + 1))))) = some r := H
        have A19 := Aside0.mk A190
        clear A190
        replace H := Option.bind_eq_some_iff.mp H
        obtain ⟨t468, A200, H⟩ := H
        replace H : (if t467 > t468 then (some false) else (laws_FnPosThere.l0 k2 t455 t456 t458 x8_7 (wrap64 (x9_2 + 1)))) = some r := H
        have A20 := Aside0.mk A200
        clear A200
        by_cases c21 : t467 > t468
        ·rw [if_pos c21] at H
         have c21b0 : decide (t468 < t467) = true := decide_eq_true c21
         clear c21
         obtain rfl := Option.some.inj H
         go_wp2_with (first | ((with_reducible refine gate_callee (f := 21) rfl ?_); refine goesL_ (some 51) rfl rfl Try.func21 (by kernel_rfl) rfl #[.string t455, .string t456, .int .i64 x9_2] rfl Z75 ?_; (with_reducible refine (impl_PosThere.calls k2 t455 t456 x9_2 t467 _ A19.out).mono ?_); rintro e w22 ⟨rfl, hb⟩; refine ⟨_, rfl, ?_⟩; have n0_ := Aside0.mk (below_step Z71 hb); clear HB; have HB := n0_; clear n0_; (try clear hb)) | ((with_reducible refine gate_callee (f := 21) rfl ?_); refine goesL_ (some 56) rfl rfl Try.func21 (by kernel_rfl) rfl #[.string t455, .string t456, .int .i64 (wrap64 (x9_2 + 1))] rfl Z75 ?_; (with_reducible refine (impl_PosThere.calls k2 t455 t456 (wrap64 (x9_2 + 1)) t468 _ A20.out).mono ?_); rintro e w23 ⟨rfl, hb⟩; refine ⟨_, rfl, ?_⟩; have n0_ := Aside0.mk (below_step Z71 hb); clear HB; have HB := n0_; clear n0_; (try clear hb)))
         go_ret
         exact ⟨by first | rfl | (simp [errW_none, errW_some] <;> rfl) | (simp [*, errW_none, errW_some] <;> rfl), by repeat (first | (with_reducible first | exact HB.out | apply below_alloc | apply pw_below_drewN | apply below_drew1) | exact HB.out)⟩
        ·rw [if_neg c21] at H
         have c21b0 : decide (t468 < t467) = false := decide_eq_false c21
         clear c21
         have H' := Aside0.mk H
         clear H
         go_wp2_with (first | ((with_reducible refine gate_callee (f := 21) rfl ?_); refine goesL_ (some 51) rfl rfl Try.func21 (by kernel_rfl) rfl #[.string t455, .string t456, .int .i64 x9_2] rfl Z75 ?_; (with_reducible refine (impl_PosThere.calls k2 t455 t456 x9_2 t467 _ A19.out).mono ?_); rintro e w24 ⟨rfl, hb⟩; refine ⟨_, rfl, ?_⟩; have n0_ := Aside0.mk (below_step Z71 hb); clear HB; have HB := n0_; clear n0_; (try clear hb)) | ((with_reducible refine gate_callee (f := 21) rfl ?_); refine goesL_ (some 56) rfl rfl Try.func21 (by kernel_rfl) rfl #[.string t455, .string t456, .int .i64 (wrap64 (x9_2 + 1))] rfl Z75 ?_; (with_reducible refine (impl_PosThere.calls k2 t455 t456 (wrap64 (x9_2 + 1)) t468 _ A20.out).mono ?_); rintro e w25 ⟨rfl, hb⟩; refine ⟨_, rfl, ?_⟩; have n0_ := Aside0.mk (below_step Z71 hb); clear HB; have HB := n0_; clear n0_; (try clear hb)))
         go_roundg k2
         case measure => have := HJ7.out; have := HK2.out; omega
         case rel => exact ⟨(wrap64 (x9_2 + 1)), Z0, H', ⟨by have := HJ7.out; have := HK2.out; omega⟩, ⟨by repeat (first | (with_reducible first | exact HB.out | apply below_alloc | apply pw_below_drewN | apply below_drew1) | exact HB.out)⟩⟩
       ·rw [if_neg c18] at H
        have c18b0 : decide (x9_2 < (t456.size : Int)) = false := decide_eq_false c18
        clear c18
        by_cases c26 : t458 ≥ 0
        ·rw [if_pos c26] at H
         have c26b0 : decide (0 ≤ t458) = true := decide_eq_true c26
         clear c26
         by_cases c27 : t458 ≤ x8_7
         ·rw [if_pos c27] at H
          have c27b0 : decide (t458 ≤ x8_7) = true := decide_eq_true c27
          clear c27
          replace H := Option.bind_eq_some_iff.mp H
          obtain ⟨t464, A280, H⟩ := H
          replace H : (if t464 = 0 then ((impl_PosThere.f k2 t455 t456 (t456.size : Int)).bind fun t465 => (if t465 = x8_7 then ((laws_haOk.f k2).bind fun t466 => (some t466)) else (some false))) else (some false)) = some r := H
          have A28 := Aside0.mk A280
          clear A280
          by_cases c29 : t464 = 0
          ·rw [if_pos c29] at H
           have c29b0 : (t464 == 0) = true := beq_iff_eq.mpr c29
           have c29b1 : (t464 != 0) = false := bne_eq_false_iff_eq.mpr c29
           clear c29
           replace H := Option.bind_eq_some_iff.mp H
           obtain ⟨t465, A300, H⟩ := H
           replace H : (if t465 = x8_7 then ((laws_haOk.f k2).bind fun t466 => (some t466)) else (some false)) = some r := H
           have A30 := Aside0.mk A300
           clear A300
           by_cases c31 : t465 = x8_7
           ·rw [if_pos c31] at H
            have c31b0 : (t465 == x8_7) = true := beq_iff_eq.mpr c31
            have c31b1 : (t465 != x8_7) = false := bne_eq_false_iff_eq.mpr c31
            clear c31
            replace H := Option.bind_eq_some_iff.mp H
            obtain ⟨t466, A320, H⟩ := H
            replace H : (some t466) = some r := H
            have A32 := Aside0.mk A320
            clear A320
            obtain rfl := Option.some.inj H
            go_wp2_with (first | (go_at_call 21; (with_reducible refine (impl_PosThere.calls k2 t455 t456 0 t464 _ A28.out).mono ?_); rintro e w33 ⟨rfl, hb⟩; have n0_ := Aside0.mk (below_step Z71 hb); clear HB; have HB := n0_; clear n0_; (try clear hb)) | (go_at_call 21; (with_reducible refine (impl_PosThere.calls k2 t455 t456 (t456.size : Int) t465 _ A30.out).mono ?_); rintro e w34 ⟨rfl, hb⟩; have n0_ := Aside0.mk (below_step Z71 hb); clear HB; have HB := n0_; clear n0_; (try clear hb)) | (go_at_call 29; (with_reducible refine (laws_haOk.calls k2  t466 _ A32.out).mono ?_); rintro e w35 ⟨rfl, hb⟩; have n0_ := Aside0.mk (below_step Z71 hb); clear HB; have HB := n0_; clear n0_; (try clear hb)))
            go_ret
            exact ⟨by first | rfl | (simp [errW_none, errW_some] <;> rfl) | (simp [*, errW_none, errW_some] <;> rfl), by repeat (first | (with_reducible first | exact HB.out | apply below_alloc | apply pw_below_drewN | apply below_drew1) | exact HB.out)⟩
           ·rw [if_neg c31] at H
            have c31b0 : (t465 == x8_7) = false := beq_eq_false_iff_ne.mpr c31
            have c31b1 : (t465 != x8_7) = true := bne_iff_ne.mpr c31
            obtain rfl := Option.some.inj H
            go_wp2_with (first | (go_at_call 21; (with_reducible refine (impl_PosThere.calls k2 t455 t456 0 t464 _ A28.out).mono ?_); rintro e w36 ⟨rfl, hb⟩; have n0_ := Aside0.mk (below_step Z71 hb); clear HB; have HB := n0_; clear n0_; (try clear hb)) | (go_at_call 21; (with_reducible refine (impl_PosThere.calls k2 t455 t456 (t456.size : Int) t465 _ A30.out).mono ?_); rintro e w37 ⟨rfl, hb⟩; have n0_ := Aside0.mk (below_step Z71 hb); clear HB; have HB := n0_; clear n0_; (try clear hb)))
            go_ret
            exact ⟨by first | rfl | (simp [errW_none, errW_some] <;> rfl) | (simp [*, errW_none, errW_some] <;> rfl), by repeat (first | (with_reducible first | exact HB.out | apply below_alloc | apply pw_below_drewN | apply below_drew1) | exact HB.out)⟩
          ·rw [if_neg c29] at H
           have c29b0 : (t464 == 0) = false := beq_eq_false_iff_ne.mpr c29
           have c29b1 : (t464 != 0) = true := bne_iff_ne.mpr c29
           obtain rfl := Option.some.inj H
           go_wp2_with (first | (go_at_call 21; (with_reducible refine (impl_PosThere.calls k2 t455 t456 0 t464 _ A28.out).mono ?_); rintro e w38 ⟨rfl, hb⟩; have n0_ := Aside0.mk (below_step Z71 hb); clear HB; have HB := n0_; clear n0_; (try clear hb)))
           go_ret
           exact ⟨by first | rfl | (simp [errW_none, errW_some] <;> rfl) | (simp [*, errW_none, errW_some] <;> rfl), by repeat (first | (with_reducible first | exact HB.out | apply below_alloc | apply pw_below_drewN | apply below_drew1) | exact HB.out)⟩
         ·rw [if_neg c27] at H
          have c27b0 : decide (t458 ≤ x8_7) = false := decide_eq_false c27
          clear c27
          obtain rfl := Option.some.inj H
          go_wp2
          go_ret
          exact ⟨by first | rfl | (simp [errW_none, errW_some] <;> rfl) | (simp [*, errW_none, errW_some] <;> rfl), by repeat (first | (with_reducible first | exact HB.out | apply below_alloc | apply pw_below_drewN | apply below_drew1) | exact HB.out)⟩
        ·rw [if_neg c26] at H
         have c26b0 : decide (0 ≤ t458) = false := decide_eq_false c26
         clear c26
         obtain rfl := Option.some.inj H
         go_wp2
         go_ret
         exact ⟨by first | rfl | (simp [errW_none, errW_some] <;> rfl) | (simp [*, errW_none, errW_some] <;> rfl), by repeat (first | (with_reducible first | exact HB.out | apply below_alloc | apply pw_below_drewN | apply below_drew1) | exact HB.out)⟩
  ·rw [if_neg c6] at H
   have c6b0 : (t458 == t459) = false := beq_eq_false_iff_ne.mpr c6
   have c6b1 : (t458 != t459) = true := bne_iff_ne.mpr c6
   obtain rfl := Option.some.inj H
   go_enter Try.func12, Try.ntmps12
   go_wp2_with (first | ((with_reducible refine gate_callee (f := 34) rfl ?_); refine goesL_ (some 15) rfl rfl Try.func34 (by kernel_rfl) rfl #[.slice A0 l0.length c0] rfl Z75 ?_; (with_reducible refine (spec_DrawPosThere.calls k _ _ l0 t455 t456 t457 _ ?side1 ?side2 A3.out).mono ?_); (case side1 => exact Z80); (case side2 => exact HC0.out); rintro e w39 ⟨rfl, hb⟩; refine ⟨_, rfl, ?_⟩; have n0_ := Aside0.mk (below_step Z71 hb); clear HB; have HB := n0_; clear n0_; (try clear hb)) | ((with_reducible refine gate_callee (f := 21) rfl ?_); refine goesL_ (some 22) rfl rfl Try.func21 (by kernel_rfl) rfl #[.string t455, .string t456, .int .i64 t457] rfl Z75 ?_; (with_reducible refine (impl_PosThere.calls k t455 t456 t457 t458 _ A4.out).mono ?_); rintro e w40 ⟨rfl, hb⟩; refine ⟨_, rfl, ?_⟩; have n0_ := Aside0.mk (below_step Z71 hb); clear HB; have HB := n0_; clear n0_; (try clear hb)) | ((with_reducible refine gate_callee (f := 20) rfl ?_); refine goesL_ (some 27) rfl rfl Try.func20 (by kernel_rfl) rfl #[.string t455, .string t456, .int .i64 t457] rfl Z75 ?_; (with_reducible refine (spec_PosThere.calls k t455 t456 t457 t459 _ A5.out).mono ?_); rintro e w41 ⟨rfl, hb⟩; refine ⟨_, rfl, ?_⟩; have n0_ := Aside0.mk (below_step Z71 hb); clear HB; have HB := n0_; clear n0_; (try clear hb)))
   go_ret
   exact ⟨by first | rfl | (simp [errW_none, errW_some] <;> rfl) | (simp [*, errW_none, errW_some] <;> rfl), by repeat (first | (with_reducible first | exact HB.out | apply below_alloc | apply pw_below_drewN | apply below_drew1) | exact HB.out)⟩

/-- THE ONE PURE STATEMENT of laws_FnPosThere: yours. -/
def laws_FnPosThere.Pure : Prop := ∀ (l0 : List Int), l0.length ≤ maxLen → l0.length * 1 ≤ 140737488351232 → (∀ x ∈ l0, (Lit.int .u8 x).wf = true) → ∃ k, laws_FnPosThere.f k l0 = some true
theorem laws_FnPosThere.walk (P : laws_FnPosThere.Pure) (a0 : Option Addr) (len0 cap0 : Nat) (z0 : List Int) (w : World) (w0 : (a0 = none ∧ len0 = 0 ∧ cap0 = 0 ∧ z0 = []) ∨ ∃ x, a0 = some x ∧ len0 ≤ cap0 ∧ cap0 ≤ maxLen ∧ z0.length = cap0 ∧ (∀ i, i < z0.length → w.cell? (x.add i) = some (.int .u8 (z0.getD i 0))) ∧ ∀ n ∈ z0, (Lit.int .u8 n).wf = true) (y0 : len0 * 1 ≤ 140737488351232) :
  Calls Try.prog 12 #[.slice a0 len0 cap0] w fun e w' => e = .returned (.bool true) ∧ Below w.heap.size w w' := by
 obtain ⟨l0, rfl, hr0, hm0, hw0, hc0⟩ := ReadsInt.ofRowC w0
 obtain ⟨k, h⟩ := P l0 hm0 y0 hw0
 refine (laws_FnPosThere.calls k _ _ l0 true w (Kd.C_of_reads (d := (0 : Int)) (h1 := fun _ => rfl) hr0) hc0 h).mono ?_
 rintro e w' ⟨rfl, hd⟩
 exact ⟨rfl, hd⟩

end Go.Proofs.Ytmahgffkkdggcaa.QFnPosThere
