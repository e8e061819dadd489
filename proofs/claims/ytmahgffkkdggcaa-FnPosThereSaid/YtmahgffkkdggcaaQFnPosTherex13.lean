-- Laid by a program of this repo (wip/tools/sprint.py): print.py's functions and walks; the contracts named 'BY HAND' are proved by hand.
import Derived.Test.YtmahgffkkdggcaaQFnPosTherex0
import Derived.Test.YtmahgffkkdggcaaQFnPosTherex4
import Derived.Test.YtmahgffkkdggcaaQFnPosTherex5
import Derived.Test.YtmahgffkkdggcaaQFnPosTherex8
import Derived.Test.YtmahgffkkdggcaaQFnPosTherex12
namespace Go.Proofs.Ytmahgffkkdggcaa.QFnPosThere
open Go.RowKit Go.Proofs.YtmahgffkkdggcaaW.PrintWords Go.Proofs.YtmahgffkkdggcaaW.PrintLast Go.Proofs.YtmahgffkkdggcaaW.PrintMore
attribute [local go_sem] max2_int min2_int max_two min_two max_three min_three max_four min_four   -- for this text's walks alone
set_option linter.unusedVariables false
set_option linter.unusedSimpArgs false

/-! ### spec_LinSays: function 88 -/
def spec_LinSays.j0 : Nat → ByteArray → Bool → Option (Int × Int × Bool)
 | 0, _, _ => none
 | k + 1, x0, x13 => if x13 = true then (some (0, 0, false)) else (if 5 ≤ (x0.size : Int) then ((spec_EndRead.f k (x0.extract 5 x0.size)).bind fun bt383 => (if bt383.2.2 = true then ((spec_EndInside.f bt383.1 bt383.2.1).bind fun t387 => (if t387 = true then (some (bt383.1, bt383.2.1, true)) else (some (0, 0, false)))) else (some (0, 0, false)))) else (none))
def spec_LinSays.f (k : Nat) (a0 : ByteArray) : Option (Int × Int × Bool) := if (a0.size : Int) < 5 then (spec_LinSays.j0 k a0 true) else (if 0 ≤ 5 then (if 5 ≤ (a0.size : Int) then (spec_LinSays.j0 k a0 ((a0.extract 0 5).toList != ([112, 111, 114, 116, 32] : List UInt8))) else (none)) else (none))
theorem spec_LinSays.mono_l : ∀ k, (∀ y0 y1, LeO (spec_LinSays.j0 k y0 y1) (spec_LinSays.j0 (k + 1) y0 y1))
 | 0 => fun _ _ r h => by simp [spec_LinSays.j0] at h
 | k + 1 => by
  have ih0 := spec_LinSays.mono_l k
  ·intro y0 y1
   unfold spec_LinSays.j0
   repeat' first
   | (with_reducible exact ih0 _ _)
   | (with_reducible exact spec_EndRead.mono _ _)
   | (with_reducible exact LeO.refl _)
   | (with_reducible exact LeO.none _)
   | (with_reducible refine LeO.ite ?_ ?_)
   | (with_reducible refine LeO.bind ?_ (fun _ => ?_))
   | exact ih0 _ _
   | exact spec_EndRead.mono _ _
   | exact LeO.none _
   | refine LeO.ite ?_ ?_
   | refine LeO.bind ?_ (fun _ => ?_)
theorem spec_LinSays.mono : ∀ a0 k, LeO (spec_LinSays.f k a0) (spec_LinSays.f (k + 1) a0) := by
 intro a0 k
 have ih0 := spec_LinSays.mono_l k
 unfold spec_LinSays.f
 repeat' first
   | (with_reducible exact ih0 _ _)
   | (with_reducible exact spec_EndRead.mono _ _)
   | (with_reducible exact LeO.refl _)
   | (with_reducible exact LeO.none _)
   | (with_reducible refine LeO.ite ?_ ?_)
   | (with_reducible refine LeO.bind ?_ (fun _ => ?_))
   | exact ih0 _ _
   | exact spec_EndRead.mono _ _
   | exact LeO.none _
   | refine LeO.ite ?_ ?_
   | refine LeO.bind ?_ (fun _ => ?_)
set_option maxHeartbeats 8000000 in
set_option maxRecDepth 100000 in
theorem spec_LinSays.calls (k : Nat) (a0 : ByteArray) (r1 : Int) (r2 : Int) (r3 : Bool) (w : World) (h : spec_LinSays.f k a0 = some (r1, r2, r3)) :
  Calls Try.prog 88 #[.string a0] w fun e w' => e = .returned (.tuple #[.agg #[.int .i64 r1, .int .i64 r2], .bool r3]) ∧ Below w.heap.size w w' := by
 have hu80 := Try.underlying80
 have HB := Aside0.mk (Below.refl w.heap.size w)
 have H : (if (a0.size : Int) < 5 then (spec_LinSays.j0 k a0 true) else (if 0 ≤ 5 then (if 5 ≤ (a0.size : Int) then (spec_LinSays.j0 k a0 ((a0.extract 0 5).toList != ([112, 111, 114, 116, 32] : List UInt8))) else (none)) else (none))) = some (r1, r2, r3) := h
 clear h
 have HC2 := Aside0.mk H
 clear H
 go_enter Try.func88, Try.ntmps88
 go_upto_region 1 with (first | ((with_reducible refine gate_dst (N := 2) rfl ?_); refine box_event ?hg (N := 2) ?hd (cs := #[.int .i64 0, .int .i64 0]) (t := 80) ?hr ?_; (case hd => rfl); (case hg => rfl); (case hr => first | (go_simp; done) | (go_simp; rfl)); intro gb382 hg w3 hbox hb; have n0_ := Aside0.mk (below_step Z71 hb); have n1_ := Aside0.mk (hbox); have n2_ := Aside0.mk ((Z189 : w.heap.size ≤ gb382)); have n3_ := Aside0.mk ((Z189 : w.heap.size ≤ gb382)); clear HB; have HB := n0_; have BK382 := n1_; have GW382 := n2_; have GE382 := n3_; clear n0_ n1_ n2_ n3_; clear hb hbox hg))
 (try simp only [Act.put, List.setIfInBounds_toArray, List.set_cons_zero, List.set_cons_succ])
 go_cut [13] (fun v13 wc => ∃ (kq : Nat) (x13_1 : Bool), v13 = .bool x13_1 ∧ Aside0 (spec_LinSays.j0 kq a0 x13_1 = some (r1, r2, r3)) ∧ Aside0 (kq ≤ k) ∧ Aside0 (wc.heap[gb382]? = some (.cells #[.int .i64 0, .int .i64 0] 80 (0, 0))) ∧ Aside0 (Below w.heap.size w wc))
 case first =>
  have H := HC2.out
  clear HC2
  by_cases c4 : (a0.size : Int) < 5
  ·rw [if_pos c4] at H
   have c4b0 : decide ((a0.size : Int) < 5) = true := decide_eq_true c4
   have c4b1 : decide (a0.size < 5) = true := decide_eq_true (by omega)
   clear c4
   (first | rw [c4b0] | (simp only [i64_w, i32_w]; rw [c4b0]) | skip)
   have H' := Aside0.mk H
   clear H
   go_wp2
   go_meet
   case rel => exact ⟨_, (true), Z0, H', ⟨by first | omega | exact Nat.le_refl _⟩, ⟨by (with_reducible repeat (first | refine blk_drewN ?_ _ | refine blk_drew ?_ | refine blk_alloc ?_ _)); exact BK382.out⟩, ⟨by repeat (first | (with_reducible first | exact HB.out | apply below_alloc | apply pw_below_drewN | apply below_drew1 | refine below_set ?_ GE382.out) | exact HB.out)⟩⟩
  ·rw [if_neg c4] at H
   have c4b0 : decide ((a0.size : Int) < 5) = false := decide_eq_false c4
   have c4b1 : decide (a0.size < 5) = false := decide_eq_false (by omega)
   clear c4
   (first | rw [c4b0] | (simp only [i64_w, i32_w]; rw [c4b0]) | skip)
   by_cases c5 : 0 ≤ 5
   ·rw [if_pos c5] at H
    have c5b0 := eq_true c5
    have c5b1 : decide (0 ≤ 5) = true := decide_eq_true c5
    clear c5
    by_cases c6 : 5 ≤ (a0.size : Int)
    ·rw [if_pos c6] at H
     have c6b0 := eq_true c6
     have c6b1 : decide (5 ≤ (a0.size : Int)) = true := decide_eq_true c6
     clear c6
     have H' := Aside0.mk H
     clear H
     go_wp2
     go_meet
     case rel => exact ⟨_, (((a0.extract 0 5).toList != ([112, 111, 114, 116, 32] : List UInt8))), Z0, H', ⟨by first | omega | exact Nat.le_refl _⟩, ⟨by (with_reducible repeat (first | refine blk_drewN ?_ _ | refine blk_drew ?_ | refine blk_alloc ?_ _)); exact BK382.out⟩, ⟨by repeat (first | (with_reducible first | exact HB.out | apply below_alloc | apply pw_below_drewN | apply below_drew1 | refine below_set ?_ GE382.out) | exact HB.out)⟩⟩
    ·rw [if_neg c6] at H
     exact absurd H (by simp)
   ·rw [if_neg c5] at H
    exact absurd H (by simp)
 case rest =>
  clear HC2
  try clear p2
  try clear c4
  try clear c4b0
  try clear c4b1
  try clear c5
  try clear c5b0
  try clear c5b1
  try clear c6
  try clear c6b0
  try clear c6b1
  obtain ⟨kq, x13_1, rfl, HA, HJ1, BK382, HB⟩ := hcut
  cases kq with
  | zero => exact absurd HA.out (by simp [spec_LinSays.j0])
  | succ kj1 =>
   have H := HA.out
   clear HA
   simp only [spec_LinSays.j0] at H
   by_cases c7 : x13_1 = true
   ·subst c7
    have H1 : (some (0, 0, false)) = some (r1, r2, r3) := by rw [if_pos rfl] at H; exact H
    clear H
    have H := H1
    clear H1
    simp only [Option.some.injEq, Prod.mk.injEq] at H
    obtain ⟨rfl, rfl, rfl⟩ := H
    have hcz8_0 : wc.cell? ⟨gb382, 0, none⟩ = some (.int .i64 0) := (blk_cell BK382.out 0).trans rfl
    have hcz8_1 : wc.cell? ⟨gb382, 1, none⟩ = some (.int .i64 0) := (blk_cell BK382.out 1).trans rfl
    have hfz8_0 := blk_frozen BK382.out 0
    have hfz8_1 := blk_frozen BK382.out 1
    go_wp2
    refine bodyPost_ret (results_ct rfl _ _ gb382 80 #[.int .i64 0, .int .i64 0] (0, 0) _ rfl Z184 Try.underlying80 rfl (by kernel_rfl)) rfl ?_
    exact ⟨by first | rfl | (simp [errW_none, errW_some] <;> rfl) | (simp [*, errW_none, errW_some] <;> rfl), by repeat (first | (with_reducible first | exact HB.out | apply below_alloc | apply pw_below_drewN | apply below_drew1 | refine below_set ?_ GE382.out) | exact HB.out)⟩
   ·replace c7 := Bool.eq_false_iff.mpr c7
    subst c7
    have H1 : (if 5 ≤ (a0.size : Int) then ((spec_EndRead.f kj1 (a0.extract 5 a0.size)).bind fun bt383 => (if bt383.2.2 = true then ((spec_EndInside.f bt383.1 bt383.2.1).bind fun t387 => (if t387 = true then (some (bt383.1, bt383.2.1, true)) else (some (0, 0, false)))) else (some (0, 0, false)))) else (none)) = some (r1, r2, r3) := by rw [if_neg (show ¬ (false = true) by decide)] at H; exact H
    clear H
    have H := H1
    clear H1
    by_cases c9 : 5 ≤ (a0.size : Int)
    ·rw [if_pos c9] at H
     have c9b0 := eq_true c9
     have c9b1 : decide (5 ≤ (a0.size : Int)) = true := decide_eq_true c9
     clear c9
     replace H := Option.bind_eq_some_iff.mp H
     obtain ⟨⟨t383, t384, t385⟩, A100, H⟩ := H
     replace H : (if t385 = true then ((spec_EndInside.f t383 t384).bind fun t387 => (if t387 = true then (some (t383, t384, true)) else (some (0, 0, false)))) else (some (0, 0, false))) = some (r1, r2, r3) := H
     have A10 := Aside0.mk A100
     clear A100
     by_cases c11 : t385 = true
     ·subst c11
      have H1 : ((spec_EndInside.f t383 t384).bind fun t387 => (if t387 = true then (some (t383, t384, true)) else (some (0, 0, false)))) = some (r1, r2, r3) := by rw [if_pos rfl] at H; exact H
      clear H
      have H := H1
      clear H1
      replace H := Option.bind_eq_some_iff.mp H
      obtain ⟨t387, A120, H⟩ := H
      replace H : (if t387 = true then (some (t383, t384, true)) else (some (0, 0, false))) = some (r1, r2, r3) := H
      have A12 := Aside0.mk A120
      clear A120
      by_cases c13 : t387 = true
      ·subst c13
       have H1 : (some (t383, t384, true)) = some (r1, r2, r3) := by rw [if_pos rfl] at H; exact H
       clear H
       have H := H1
       clear H1
       simp only [Option.some.injEq, Prod.mk.injEq] at H
       obtain ⟨rfl, rfl, rfl⟩ := H
       go_wp2_with (first | ((with_reducible refine gate_callee (f := 93) rfl ?_); refine goesL_ (some 18) rfl rfl Try.func93 (by kernel_rfl) rfl #[.string (a0.extract 5 a0.size)] rfl Z75 ?_; (with_reducible refine (spec_EndRead.calls kj1 (a0.extract 5 a0.size) t383 t384 true _ A10.out).mono ?_); rintro e w14 ⟨rfl, hb⟩; refine ⟨_, rfl, ?_⟩; have n0_ := Aside0.mk (blk_below (g := gb382) (o := .cells #[.int .i64 0, .int .i64 0] 80 (0, 0)) Z59 hb); have n1_ := Aside0.mk (below_step Z94 hb); clear BK382; clear HB; have BK382 := n0_; have HB := n1_; clear n0_ n1_; (try clear hb)) | ((with_reducible refine gate_dst (N := 4) rfl ?_); refine box_event ?hg (N := 4) ?hd (cs := #[.int .i64 0, .int .i64 0]) (t := 80) ?hr ?_; (case hd => rfl); (case hg => rfl); (case hr => first | (go_simp; done) | (go_simp; rfl)); intro gb386 hg w15 hbox hb; have n0_ := Aside0.mk (blk_below (g := gb382) (o := .cells #[.int .i64 0, .int .i64 0] 80 (0, 0)) Z59 hb); have n1_ := Aside0.mk (below_step Z94 hb); have n2_ := Aside0.mk (hbox); have n3_ := Aside0.mk ((Z192 : w.heap.size ≤ gb386)); have n4_ := Aside0.mk ((Z192 : w.heap.size ≤ gb386)); have n5_ := Aside0.mk ((Z201 : gb382 ≠ gb386)); have n6_ := Aside0.mk ((Z202 : gb386 ≠ gb382)); clear BK382; clear HB; have BK382 := n0_; have HB := n1_; have BK386 := n2_; have GW386 := n3_; have GE386 := n4_; have NB382_386 := n5_; have NB386_382 := n6_; clear n0_ n1_ n2_ n3_ n4_ n5_ n6_; clear hb hbox hg; have hnb16 := NB386_382.out; have hnc16 := NB382_386.out; have hcz17_0 : w15.cell? ⟨gb386, 0, none⟩ = some (.int .i64 0) := (blk_cell BK386.out 0).trans rfl; have hcz17_1 : w15.cell? ⟨gb386, 1, none⟩ = some (.int .i64 0) := (blk_cell BK386.out 1).trans rfl; have hfz17_0 := blk_frozen BK386.out 0; have hfz17_1 := blk_frozen BK386.out 1) | (go_at_call 75; (with_reducible refine (spec_EndInside.calls t383 t384 true _ A12.out).mono ?_); rintro e w18 ⟨rfl, hb⟩; have n0_ := Aside0.mk (blk_below (g := gb382) (o := .cells #[.int .i64 0, .int .i64 0] 80 (0, 0)) Z179 hb); have n1_ := Aside0.mk (blk_below (g := gb386) (o := .cells #[.int .i64 t383, .int .i64 t384] 80 (0, 0)) Z186 hb); have n2_ := Aside0.mk (below_step Z122 hb); clear BK382; clear BK386; clear HB; have BK382 := n0_; have BK386 := n1_; have HB := n2_; clear n0_ n1_ n2_; (try clear hb); have hcz19_0 : w18.cell? ⟨gb386, 0, none⟩ = some (.int .i64 t383) := (blk_cell BK386.out 0).trans rfl; have hcz19_1 : w18.cell? ⟨gb386, 1, none⟩ = some (.int .i64 t384) := (blk_cell BK386.out 1).trans rfl; have hfz19_0 := blk_frozen BK386.out 0; have hfz19_1 := blk_frozen BK386.out 1; have hcz20_0 : w18.cell? ⟨gb382, 0, none⟩ = some (.int .i64 0) := (blk_cell BK382.out 0).trans rfl; have hcz20_1 : w18.cell? ⟨gb382, 1, none⟩ = some (.int .i64 0) := (blk_cell BK382.out 1).trans rfl; have hfz20_0 := blk_frozen BK382.out 0; have hfz20_1 := blk_frozen BK382.out 1))
       refine bodyPost_ret (results_ct rfl _ _ gb382 80 #[.int .i64 t383, .int .i64 t384] (0, 0) _ rfl (by (with_reducible repeat (first | refine blk_drewN ?_ _ | refine blk_drew ?_ | refine blk_alloc ?_ _)); refine blk_put (cs := #[.int .i64 t383, .int .i64 0]) ?_ 1 _ rfl; (with_reducible repeat (first | refine blk_drewN ?_ _ | refine blk_drew ?_ | refine blk_alloc ?_ _)); refine blk_put (cs := #[.int .i64 0, .int .i64 0]) ?_ 0 _ rfl; (with_reducible repeat (first | refine blk_drewN ?_ _ | refine blk_drew ?_ | refine blk_alloc ?_ _)); exact BK382.out) Try.underlying80 rfl (by kernel_rfl)) rfl ?_
       exact ⟨by first | rfl | (simp [errW_none, errW_some] <;> rfl) | (simp [*, errW_none, errW_some] <;> rfl), by repeat (first | (with_reducible first | exact HB.out | apply below_alloc | apply pw_below_drewN | apply below_drew1 | refine below_set ?_ GE382.out | refine below_set ?_ GE386.out) | exact HB.out)⟩
      ·replace c13 := Bool.eq_false_iff.mpr c13
       subst c13
       have H1 : (some (0, 0, false)) = some (r1, r2, r3) := by rw [if_neg (show ¬ (false = true) by decide)] at H; exact H
       clear H
       have H := H1
       clear H1
       simp only [Option.some.injEq, Prod.mk.injEq] at H
       obtain ⟨rfl, rfl, rfl⟩ := H
       go_wp2_with (first | ((with_reducible refine gate_callee (f := 93) rfl ?_); refine goesL_ (some 18) rfl rfl Try.func93 (by kernel_rfl) rfl #[.string (a0.extract 5 a0.size)] rfl Z75 ?_; (with_reducible refine (spec_EndRead.calls kj1 (a0.extract 5 a0.size) t383 t384 true _ A10.out).mono ?_); rintro e w21 ⟨rfl, hb⟩; refine ⟨_, rfl, ?_⟩; have n0_ := Aside0.mk (blk_below (g := gb382) (o := .cells #[.int .i64 0, .int .i64 0] 80 (0, 0)) Z59 hb); have n1_ := Aside0.mk (below_step Z94 hb); clear BK382; clear HB; have BK382 := n0_; have HB := n1_; clear n0_ n1_; (try clear hb)) | ((with_reducible refine gate_dst (N := 4) rfl ?_); refine box_event ?hg (N := 4) ?hd (cs := #[.int .i64 0, .int .i64 0]) (t := 80) ?hr ?_; (case hd => rfl); (case hg => rfl); (case hr => first | (go_simp; done) | (go_simp; rfl)); intro gb386 hg w22 hbox hb; have n0_ := Aside0.mk (blk_below (g := gb382) (o := .cells #[.int .i64 0, .int .i64 0] 80 (0, 0)) Z59 hb); have n1_ := Aside0.mk (below_step Z94 hb); have n2_ := Aside0.mk (hbox); have n3_ := Aside0.mk ((Z192 : w.heap.size ≤ gb386)); have n4_ := Aside0.mk ((Z192 : w.heap.size ≤ gb386)); have n5_ := Aside0.mk ((Z201 : gb382 ≠ gb386)); have n6_ := Aside0.mk ((Z202 : gb386 ≠ gb382)); clear BK382; clear HB; have BK382 := n0_; have HB := n1_; have BK386 := n2_; have GW386 := n3_; have GE386 := n4_; have NB382_386 := n5_; have NB386_382 := n6_; clear n0_ n1_ n2_ n3_ n4_ n5_ n6_; clear hb hbox hg; have hnb23 := NB386_382.out; have hnc23 := NB382_386.out; have hcz24_0 : w22.cell? ⟨gb386, 0, none⟩ = some (.int .i64 0) := (blk_cell BK386.out 0).trans rfl; have hcz24_1 : w22.cell? ⟨gb386, 1, none⟩ = some (.int .i64 0) := (blk_cell BK386.out 1).trans rfl; have hfz24_0 := blk_frozen BK386.out 0; have hfz24_1 := blk_frozen BK386.out 1) | (go_at_call 75; (with_reducible refine (spec_EndInside.calls t383 t384 false _ A12.out).mono ?_); rintro e w25 ⟨rfl, hb⟩; have n0_ := Aside0.mk (blk_below (g := gb382) (o := .cells #[.int .i64 0, .int .i64 0] 80 (0, 0)) Z179 hb); have n1_ := Aside0.mk (blk_below (g := gb386) (o := .cells #[.int .i64 t383, .int .i64 t384] 80 (0, 0)) Z186 hb); have n2_ := Aside0.mk (below_step Z122 hb); clear BK382; clear BK386; clear HB; have BK382 := n0_; have BK386 := n1_; have HB := n2_; clear n0_ n1_ n2_; (try clear hb); have hcz26_0 : w25.cell? ⟨gb382, 0, none⟩ = some (.int .i64 0) := (blk_cell BK382.out 0).trans rfl; have hcz26_1 : w25.cell? ⟨gb382, 1, none⟩ = some (.int .i64 0) := (blk_cell BK382.out 1).trans rfl; have hfz26_0 := blk_frozen BK382.out 0; have hfz26_1 := blk_frozen BK382.out 1))
       refine bodyPost_ret (results_ct rfl _ _ gb382 80 #[.int .i64 0, .int .i64 0] (0, 0) _ rfl Z184 Try.underlying80 rfl (by kernel_rfl)) rfl ?_
       exact ⟨by first | rfl | (simp [errW_none, errW_some] <;> rfl) | (simp [*, errW_none, errW_some] <;> rfl), by repeat (first | (with_reducible first | exact HB.out | apply below_alloc | apply pw_below_drewN | apply below_drew1 | refine below_set ?_ GE382.out | refine below_set ?_ GE386.out) | exact HB.out)⟩
     ·replace c11 := Bool.eq_false_iff.mpr c11
      subst c11
      have H1 : (some (0, 0, false)) = some (r1, r2, r3) := by rw [if_neg (show ¬ (false = true) by decide)] at H; exact H
      clear H
      have H := H1
      clear H1
      simp only [Option.some.injEq, Prod.mk.injEq] at H
      obtain ⟨rfl, rfl, rfl⟩ := H
      go_wp2_with (first | ((with_reducible refine gate_callee (f := 93) rfl ?_); refine goesL_ (some 18) rfl rfl Try.func93 (by kernel_rfl) rfl #[.string (a0.extract 5 a0.size)] rfl Z75 ?_; (with_reducible refine (spec_EndRead.calls kj1 (a0.extract 5 a0.size) t383 t384 false _ A10.out).mono ?_); rintro e w27 ⟨rfl, hb⟩; refine ⟨_, rfl, ?_⟩; have n0_ := Aside0.mk (blk_below (g := gb382) (o := .cells #[.int .i64 0, .int .i64 0] 80 (0, 0)) Z59 hb); have n1_ := Aside0.mk (below_step Z94 hb); clear BK382; clear HB; have BK382 := n0_; have HB := n1_; clear n0_ n1_; (try clear hb)) | ((with_reducible refine gate_dst (N := 4) rfl ?_); refine box_event ?hg (N := 4) ?hd (cs := #[.int .i64 0, .int .i64 0]) (t := 80) ?hr ?_; (case hd => rfl); (case hg => rfl); (case hr => first | (go_simp; done) | (go_simp; rfl)); intro gb386 hg w28 hbox hb; have n0_ := Aside0.mk (blk_below (g := gb382) (o := .cells #[.int .i64 0, .int .i64 0] 80 (0, 0)) Z59 hb); have n1_ := Aside0.mk (below_step Z94 hb); have n2_ := Aside0.mk (hbox); have n3_ := Aside0.mk ((Z192 : w.heap.size ≤ gb386)); have n4_ := Aside0.mk ((Z192 : w.heap.size ≤ gb386)); have n5_ := Aside0.mk ((Z201 : gb382 ≠ gb386)); have n6_ := Aside0.mk ((Z202 : gb386 ≠ gb382)); clear BK382; clear HB; have BK382 := n0_; have HB := n1_; have BK386 := n2_; have GW386 := n3_; have GE386 := n4_; have NB382_386 := n5_; have NB386_382 := n6_; clear n0_ n1_ n2_ n3_ n4_ n5_ n6_; clear hb hbox hg; have hnb29 := NB386_382.out; have hnc29 := NB382_386.out; have hcz30_0 : w28.cell? ⟨gb386, 0, none⟩ = some (.int .i64 0) := (blk_cell BK386.out 0).trans rfl; have hcz30_1 : w28.cell? ⟨gb386, 1, none⟩ = some (.int .i64 0) := (blk_cell BK386.out 1).trans rfl; have hfz30_0 := blk_frozen BK386.out 0; have hfz30_1 := blk_frozen BK386.out 1; have hcz31_0 : w28.cell? ⟨gb382, 0, none⟩ = some (.int .i64 0) := (blk_cell BK382.out 0).trans rfl; have hcz31_1 : w28.cell? ⟨gb382, 1, none⟩ = some (.int .i64 0) := (blk_cell BK382.out 1).trans rfl; have hfz31_0 := blk_frozen BK382.out 0; have hfz31_1 := blk_frozen BK382.out 1))
      refine bodyPost_ret (results_ct rfl _ _ gb382 80 #[.int .i64 0, .int .i64 0] (0, 0) _ rfl (by (with_reducible repeat (first | refine blk_drewN ?_ _ | refine blk_drew ?_ | refine blk_alloc ?_ _)); refine blk_put (cs := #[.int .i64 0, .int .i64 0]) ?_ 1 _ rfl; (with_reducible repeat (first | refine blk_drewN ?_ _ | refine blk_drew ?_ | refine blk_alloc ?_ _)); refine blk_put (cs := #[.int .i64 0, .int .i64 0]) ?_ 0 _ rfl; (with_reducible repeat (first | refine blk_drewN ?_ _ | refine blk_drew ?_ | refine blk_alloc ?_ _)); refine blk_far ?_ NB382_386.out _; (with_reducible repeat (first | refine blk_drewN ?_ _ | refine blk_drew ?_ | refine blk_alloc ?_ _)); refine blk_far ?_ NB382_386.out _; (with_reducible repeat (first | refine blk_drewN ?_ _ | refine blk_drew ?_ | refine blk_alloc ?_ _)); exact BK382.out) Try.underlying80 rfl (by kernel_rfl)) rfl ?_
      exact ⟨by first | rfl | (simp [errW_none, errW_some] <;> rfl) | (simp [*, errW_none, errW_some] <;> rfl), by repeat (first | (with_reducible first | exact HB.out | apply below_alloc | apply pw_below_drewN | apply below_drew1 | refine below_set ?_ GE382.out | refine below_set ?_ GE386.out) | exact HB.out)⟩
    ·rw [if_neg c9] at H
     exact absurd H (by simp)

/-! ### spec_l3Line: function 79 -/
def spec_l3Line.f (k : Nat) (l0_0 : List (S80)) (a1 : ByteArray) : Option ((List (S80)) × ByteArray) := (spec_LinSays.f k a1).bind fun bt390 => (if bt390.2.2 = true then ((spec_l3Put.f k l0_0 bt390.1 bt390.2.1).bind fun bt394 => (if bt394.2 = 0 then (some (bt394.1, (⟨#[110, 111, 110, 101]⟩ : ByteArray))) else ((spec_LinPort.f k 50 bt394.2).bind fun t399 => (some (bt394.1, t399))))) else (some (l0_0, a1)))
theorem spec_l3Line.mono : ∀ a0 a1 k, LeO (spec_l3Line.f k a0 a1) (spec_l3Line.f (k + 1) a0 a1) := by
 intro a0 a1 k
 unfold spec_l3Line.f
 repeat' first
   | (with_reducible exact spec_LinPort.mono _ _ _)
   | (with_reducible exact spec_LinSays.mono _ _)
   | (with_reducible exact spec_l3Put.mono _ _ _ _)
   | (with_reducible exact LeO.refl _)
   | (with_reducible exact LeO.none _)
   | (with_reducible refine LeO.ite ?_ ?_)
   | (with_reducible refine LeO.bind ?_ (fun _ => ?_))
   | exact spec_LinPort.mono _ _ _
   | exact spec_LinSays.mono _ _
   | exact spec_l3Put.mono _ _ _ _
   | exact LeO.none _
   | refine LeO.ite ?_ ?_
   | refine LeO.bind ?_ (fun _ => ?_)
set_option maxHeartbeats 8000000 in
set_option maxRecDepth 100000 in
theorem spec_l3Line.calls (k : Nat) (P0_0_ : Nat → Prop) (u9000_ : Value) (l0_0 : List (S80)) (a1 : ByteArray) (r1 : List (S80)) (r2 : ByteArray) (w0 w : World) (hB : Below w0.heap.size w0 w) (ho0_0 : Kd.R k80 80 w w0.heap.size P0_0_ u9000_ l0_0) (h : spec_l3Line.f k l0_0 a1 = some (r1, r2)) :
  Calls Try.prog 79 #[.agg #[u9000_], .string a1] w fun e w' => ∃ v0_ : Value, e = .returned (.tuple #[.agg #[v0_], .string r2]) ∧ Kd.R k80 80 w' w0.heap.size (fun k_ => (P0_0_ k_ ∨ w.heap.size ≤ k_)) v0_ r1 ∧ Below w0.heap.size w0 w' ∧ Kept w w' (fun k_ => P0_0_ k_) := by
 have hu61 := Try.underlying61
 have hu80 := Try.underlying80
 have HO0_0 := Aside0.mk (show Kd.R k80 80 w w0.heap.size (fun k_ => (P0_0_ k_ ∨ w.heap.size ≤ k_)) u9000_ l0_0 from Kd.R_mono ho0_0 (fun k_ hk => (.inl hk)))
 have HK := Aside0.mk (Kept.refl w (fun k_ => P0_0_ k_))
 have HW0 := Aside0.mk hB.size
 have HB := Aside0.mk hB
 clear hB
 have H : ((spec_LinSays.f k a1).bind fun bt390 => (if bt390.2.2 = true then ((spec_l3Put.f k l0_0 bt390.1 bt390.2.1).bind fun bt394 => (if bt394.2 = 0 then (some (bt394.1, (⟨#[110, 111, 110, 101]⟩ : ByteArray))) else ((spec_LinPort.f k 50 bt394.2).bind fun t399 => (some (bt394.1, t399))))) else (some (l0_0, a1)))) = some (r1, r2) := h
 clear h
 replace H := Option.bind_eq_some_iff.mp H
 obtain ⟨⟨t390, t391, t392⟩, A30, H⟩ := H
 replace H : (if t392 = true then ((spec_l3Put.f k l0_0 t390 t391).bind fun bt394 => (if bt394.2 = 0 then (some (bt394.1, (⟨#[110, 111, 110, 101]⟩ : ByteArray))) else ((spec_LinPort.f k 50 bt394.2).bind fun t399 => (some (bt394.1, t399))))) else (some (l0_0, a1))) = some (r1, r2) := H
 have A3 := Aside0.mk A30
 clear A30
 by_cases c4 : t392 = true
 ·subst c4
  have H1 : ((spec_l3Put.f k l0_0 t390 t391).bind fun bt394 => (if bt394.2 = 0 then (some (bt394.1, (⟨#[110, 111, 110, 101]⟩ : ByteArray))) else ((spec_LinPort.f k 50 bt394.2).bind fun t399 => (some (bt394.1, t399))))) = some (r1, r2) := by rw [if_pos rfl] at H; exact H
  clear H
  have H := H1
  clear H1
  replace H := Option.bind_eq_some_iff.mp H
  obtain ⟨⟨t394, t397⟩, A50, H⟩ := H
  replace H : (if t397 = 0 then (some (t394, (⟨#[110, 111, 110, 101]⟩ : ByteArray))) else ((spec_LinPort.f k 50 t397).bind fun t399 => (some (t394, t399)))) = some (r1, r2) := H
  have A5 := Aside0.mk A50
  clear A50
  by_cases c6 : t397 = 0
  ·rw [if_pos c6] at H
   have c6b0 : (t397 == 0) = true := beq_iff_eq.mpr c6
   have c6b1 : (t397 != 0) = false := bne_eq_false_iff_eq.mpr c6
   clear c6
   simp only [Option.some.injEq, Prod.mk.injEq] at H
   obtain ⟨rfl, rfl⟩ := H
   obtain ⟨Ao7, co7, eo7⟩ := Kd.R_slice HO0_0.out
   subst eo7
   go_enter Try.func79, Try.ntmps79
   go_wp2_with (first | ((with_reducible refine gate_dst (N := 2) rfl ?_); refine box_event ?hg (N := 2) ?hd (cs := #[.slice Ao7 l0_0.length co7]) (t := 61) ?hr ?_; (case hd => rfl); (case hg => rfl); (case hr => first | (go_simp; done) | (go_simp; rfl)); intro gb388 hg w8 hbox hb; have n0_ := Aside0.mk (Kd.R_below Z27 hb); have n1_ := Aside0.mk (Kept.below (S := (fun k_ => P0_0_ k_)) Z69 hb); have n2_ := Aside0.mk (below_step Z71 hb); have n3_ := Aside0.mk (hbox); have n4_ := Aside0.mk ((Z188 : w.heap.size ≤ gb388)); have n5_ := Aside0.mk ((Z189 : w0.heap.size ≤ gb388)); clear HO0_0; clear HK; clear HB; have HO0_0 := n0_; have HK := n1_; have HB := n2_; have BK388 := n3_; have GW388 := n4_; have GE388 := n5_; clear n0_ n1_ n2_ n3_ n4_ n5_; clear hb hbox hg) | ((with_reducible refine gate_dst (N := 4) rfl ?_); refine box_event ?hg (N := 4) ?hd (cs := #[.slice none 0 0]) (t := 61) ?hr ?_; (case hd => rfl); (case hg => rfl); (case hr => first | (go_simp; done) | (go_simp; rfl)); intro gb389 hg w9 hbox hb; have n0_ := Aside0.mk (Kd.R_below Z27 hb); have n1_ := Aside0.mk (blk_below (g := gb388) (o := .cells #[.slice Ao7 l0_0.length co7] 61 (0, 0)) Z60 hb); have n2_ := Aside0.mk (Kept.below (S := (fun k_ => P0_0_ k_)) Z101 hb); have n3_ := Aside0.mk (below_step Z95 hb); have n4_ := Aside0.mk (hbox); have n5_ := Aside0.mk ((by rw [hg]; exact Z150 : w.heap.size ≤ gb389)); have n6_ := Aside0.mk ((by rw [hg]; exact (below_size Z95) : w0.heap.size ≤ gb389)); have n7_ := Aside0.mk ((Z205 : gb388 ≠ gb389)); have n8_ := Aside0.mk ((Z206 : gb389 ≠ gb388)); clear HO0_0; clear BK388; clear HK; clear HB; have HO0_0 := n0_; have BK388 := n1_; have HK := n2_; have HB := n3_; have BK389 := n4_; have GW389 := n5_; have GE389 := n6_; have NB388_389 := n7_; have NB389_388 := n8_; clear n0_ n1_ n2_ n3_ n4_ n5_ n6_ n7_ n8_; clear hb hbox hg) | ((with_reducible refine gate_callee (f := 88) rfl ?_); refine goesL_ (some 12) rfl rfl Try.func88 (by kernel_rfl) rfl #[.string a1] rfl Z75 ?_; (with_reducible refine (spec_LinSays.calls k a1 t390 t391 true _ A3.out).mono ?_); rintro e w10 ⟨rfl, hb⟩; refine ⟨_, rfl, ?_⟩; have n0_ := Aside0.mk (Kd.R_below Z27 hb); have n1_ := Aside0.mk (blk_below (g := gb388) (o := .cells #[.slice Ao7 l0_0.length co7] 61 (0, 0)) Z60 hb); have n2_ := Aside0.mk (blk_below (g := gb389) (o := .cells #[.slice none 0 0] 61 (0, 0)) Z61 hb); have n3_ := Aside0.mk (Kept.below (S := (fun k_ => P0_0_ k_)) Z133 hb); have n4_ := Aside0.mk (below_step Z123 hb); clear HO0_0; clear BK388; clear BK389; clear HK; clear HB; have HO0_0 := n0_; have BK388 := n1_; have BK389 := n2_; have HK := n3_; have HB := n4_; clear n0_ n1_ n2_ n3_ n4_; (try clear hb)) | ((with_reducible refine gate_dst (N := 6) rfl ?_); refine box_event ?hg (N := 6) ?hd (cs := #[.int .i64 0, .int .i64 0]) (t := 80) ?hr ?_; (case hd => rfl); (case hg => rfl); (case hr => first | (go_simp; done) | (go_simp; rfl)); intro gb393 hg w11 hbox hb; have n0_ := Aside0.mk (Kd.R_below (Kd.R_elderB Z27 gb393 (Nat.le_of_eq hg.symm)) hb); have n1_ := Aside0.mk (blk_below (g := gb388) (o := .cells #[.slice Ao7 l0_0.length co7] 61 (0, 0)) Z60 hb); have n2_ := Aside0.mk (blk_below (g := gb389) (o := .cells #[.slice none 0 0] 61 (0, 0)) Z61 hb); have n3_ := Aside0.mk (Kept.below (S := (fun k_ => P0_0_ k_)) Z133 hb); have n4_ := Aside0.mk (below_step Z123 hb); have n5_ := Aside0.mk (hbox); have n6_ := Aside0.mk ((by rw [hg]; exact Z166 : w.heap.size ≤ gb393)); have n7_ := Aside0.mk ((by rw [hg]; exact (below_size Z123) : w0.heap.size ≤ gb393)); have n8_ := Aside0.mk ((Z205 : gb388 ≠ gb393)); have n9_ := Aside0.mk ((Z206 : gb393 ≠ gb388)); have n10_ := Aside0.mk ((Z197 : gb389 ≠ gb393)); have n11_ := Aside0.mk ((Z198 : gb393 ≠ gb389)); clear HO0_0; clear BK388; clear BK389; clear HK; clear HB; have HO0_0 := n0_; have BK388 := n1_; have BK389 := n2_; have HK := n3_; have HB := n4_; have BK393 := n5_; have GW393 := n6_; have GE393 := n7_; have NB388_393 := n8_; have NB393_388 := n9_; have NB389_393 := n10_; have NB393_389 := n11_; clear n0_ n1_ n2_ n3_ n4_ n5_ n6_ n7_ n8_ n9_ n10_ n11_; clear hb hbox hg; have hnb12 := NB393_388.out; have hnc12 := NB388_393.out; have hnb13 := NB393_389.out; have hnc13 := NB389_393.out; have hcz14_0 : w11.cell? ⟨gb393, 0, none⟩ = some (.int .i64 0) := (blk_cell BK393.out 0).trans rfl; have hcz14_1 : w11.cell? ⟨gb393, 1, none⟩ = some (.int .i64 0) := (blk_cell BK393.out 1).trans rfl; have hfz14_0 := blk_frozen BK393.out 0; have hfz14_1 := blk_frozen BK393.out 1) | ((with_reducible refine gate_store (t := 80) (p := 6) rfl ?_); refine store_event (t := 80) (p := 6) (v := ?vo_w15) (w1 := ((w11.setCell ⟨gb393, 0, none⟩ (.int .i64 t390)).setCell ⟨gb393, 1, none⟩ (.int .i64 t391))) ?hg ?ho ?hn ?hr ?_; (case ho => rfl); (case hg => rfl); (case hn => rfl); (case hr => first | (go_simp; done) | (go_simp; rfl)); intro w15 hw; have n0_ : Aside0 (Kd.R k80 80 w15 w0.heap.size (fun k_ => (P0_0_ k_ ∨ w.heap.size ≤ k_) ∧ k_ ≠ gb393) (.slice Ao7 l0_0.length co7) l0_0) := ⟨(by rw [hw]; exact Z176)⟩; have n1_ : Aside0 (w15.heap[gb388]? = some (.cells #[.slice Ao7 l0_0.length co7] 61 (0, 0))) := ⟨(by rw [hw]; exact Z180)⟩; have n2_ : Aside0 (w15.heap[gb389]? = some (.cells #[.slice none 0 0] 61 (0, 0))) := ⟨(by rw [hw]; exact Z181)⟩; have n3_ : Aside0 (w15.heap[gb393]? = some (.cells #[.int .i64 t390, .int .i64 t391] 80 (0, 0))) := ⟨(by rw [hw]; exact Z187)⟩; have n4_ : Aside0 (Kept w w15 (fun k_ => P0_0_ k_)) := ⟨(by rw [hw]; exact Z152)⟩; have n5_ : Aside0 (Below w0.heap.size w0 w15) := ⟨(by rw [hw]; exact Z142)⟩; clear hw; clear HO0_0; clear BK388; clear BK389; clear BK393; clear HK; clear HB; have HO0_0 := n0_; have BK388 := n1_; have BK389 := n2_; have BK393 := n3_; have HK := n4_; have HB := n5_; clear n0_ n1_ n2_ n3_ n4_ n5_; have hnb16 := NB388_389.out; have hnc16 := NB389_388.out; have hcz17_0 : w15.cell? ⟨gb388, 0, none⟩ = some (.slice Ao7 l0_0.length co7) := (blk_cell BK388.out 0).trans rfl; have hfz17_0 := blk_frozen BK388.out 0; have hcz18_0 : w15.cell? ⟨gb393, 0, none⟩ = some (.int .i64 t390) := (blk_cell BK393.out 0).trans rfl; have hcz18_1 : w15.cell? ⟨gb393, 1, none⟩ = some (.int .i64 t391) := (blk_cell BK393.out 1).trans rfl; have hfz18_0 := blk_frozen BK393.out 0; have hfz18_1 := blk_frozen BK393.out 1) | ((with_reducible refine gate_callee (f := 76) rfl ?_); refine goesL_ (some 22) rfl rfl Try.func76 (by kernel_rfl) rfl #[.agg #[.slice Ao7 l0_0.length co7], .agg #[.int .i64 t390, .int .i64 t391]] rfl Z75 ?_; (with_reducible refine (spec_l3Put.calls k (fun k_ => some k_ = (.slice Ao7 l0_0.length co7 : Value).ownBlock) (.slice Ao7 l0_0.length co7) l0_0 t390 t391 t394 t397 w0 _ ?side1 ?side2 A5.out).mono ?_); (case side1 => exact Z137); (case side2 => exact Kd.R_tight rfl HO0_0.out); rintro e w19 ⟨v395, rfl, ho0, hb, hkp⟩; refine ⟨_, rfl, ?_⟩; have n0_ := Aside0.mk (blk_kept Z60 hkp (fun hs_ => (fun e_ => (Kd.R_ne HO0_0.out BK388.out (by decide)) e_) hs_)); have n1_ := Aside0.mk (blk_kept Z61 hkp (fun hs_ => (fun e_ => (Kd.R_ne HO0_0.out BK389.out (by decide)) e_) hs_)); have n2_ := Aside0.mk (blk_kept Z62 hkp (fun hs_ => (fun e_ => (Kd.R_away HO0_0.out (fun _ hk => hk.2)) e_) hs_)); have n3_ := Aside0.mk (Kd.R_mono (ok' := fun k_ => (P0_0_ k_ ∨ w.heap.size ≤ k_) ∧ k_ ≠ gb393) ho0 (fun k_ hk_ => ⟨Or.elim hk_ (fun hs_ => (HO0_0.out.1 k_ (hs_).symm).1) (fun hn_ => (.inr (Nat.le_trans Z175 hn_))), Or.elim hk_ (fun hs_ => fun e_ => (Kd.R_away HO0_0.out (fun _ hk => hk.2)) (by rw [← e_]; exact hs_)) (fun hn_ => (Kd.freshB (g := gb393) (o := .cells #[.int .i64 t390, .int .i64 t391] 80 (0, 0)) Z62 k_ hn_))⟩)); have n4_ := Aside0.mk (Kept.then_ (S := (fun k_ => P0_0_ k_)) Z152 hkp (fun k_ hs_ => (fun e_ => (HO0_0.out.1 k_ e_.symm).1) hs_)); have n5_ := Aside0.mk (hb); clear BK388; clear BK389; clear BK393; clear HK; clear HB; clear HO0_0; have BK388 := n0_; have BK389 := n1_; have BK393 := n2_; have HO396 := n3_; have HK := n4_; have HB := n5_; clear n0_ n1_ n2_ n3_ n4_ n5_; (try clear hb); (try clear hkp); (try clear ho0)) | ((with_reducible refine gate_dst (N := 8) rfl ?_); refine box_event ?hg (N := 8) ?hd (cs := #[.slice none 0 0]) (t := 61) ?hr ?_; (case hd => rfl); (case hg => rfl); (case hr => first | (go_simp; done) | (go_simp; rfl)); intro gb398 hg w20 hbox hb; have n0_ := Aside0.mk (Kd.R_below Z32 hb); have n1_ := Aside0.mk (blk_below (g := gb388) (o := .cells #[.slice Ao7 l0_0.length co7] 61 (0, 0)) Z60 hb); have n2_ := Aside0.mk (blk_below (g := gb389) (o := .cells #[.slice none 0 0] 61 (0, 0)) Z61 hb); have n3_ := Aside0.mk (blk_below (g := gb393) (o := .cells #[.int .i64 t390, .int .i64 t391] 80 (0, 0)) Z62 hb); have n4_ := Aside0.mk (Kept.below (S := (fun k_ => P0_0_ k_)) Z152 hb); have n5_ := Aside0.mk (below_step Z142 hb); have n6_ := Aside0.mk (hbox); have n7_ := Aside0.mk ((by rw [hg]; exact Z175 : w.heap.size ≤ gb398)); have n8_ := Aside0.mk ((by rw [hg]; exact (below_size Z142) : w0.heap.size ≤ gb398)); have n9_ := Aside0.mk ((Z205 : gb388 ≠ gb398)); have n10_ := Aside0.mk ((Z206 : gb398 ≠ gb388)); have n11_ := Aside0.mk ((Z197 : gb389 ≠ gb398)); have n12_ := Aside0.mk ((Z198 : gb398 ≠ gb389)); have n13_ := Aside0.mk ((Z223 : gb393 ≠ gb398)); have n14_ := Aside0.mk ((Z224 : gb398 ≠ gb393)); clear HO396; clear BK388; clear BK389; clear BK393; clear HK; clear HB; have HO396 := n0_; have BK388 := n1_; have BK389 := n2_; have BK393 := n3_; have HK := n4_; have HB := n5_; have BK398 := n6_; have GW398 := n7_; have GE398 := n8_; have NB388_398 := n9_; have NB398_388 := n10_; have NB389_398 := n11_; have NB398_389 := n12_; have NB393_398 := n13_; have NB398_393 := n14_; clear n0_ n1_ n2_ n3_ n4_ n5_ n6_ n7_ n8_ n9_ n10_ n11_ n12_ n13_ n14_; clear hb hbox hg; obtain ⟨Ao21, co21, eo21⟩ := Kd.R_slice HO396.out; subst eo21; have hnb22 := NB398_388.out; have hnc22 := NB388_398.out; have hnb23 := NB398_389.out; have hnc23 := NB389_398.out; have hnb24 := NB398_393.out; have hnc24 := NB393_398.out; have hcz25_0 : w20.cell? ⟨gb398, 0, none⟩ = some (.slice none 0 0) := (blk_cell BK398.out 0).trans rfl; have hfz25_0 := blk_frozen BK398.out 0; have hcz26_0 : w20.cell? ⟨gb389, 0, none⟩ = some (.slice none 0 0) := (blk_cell BK389.out 0).trans rfl; have hfz26_0 := blk_frozen BK389.out 0))
   refine bodyPost_ret (results_ct rfl _ _ gb389 61 #[.slice Ao21 t394.length co21] (0, 0) _ rfl (by (with_reducible repeat (first | refine blk_drewN ?_ _ | refine blk_drew ?_ | refine blk_alloc ?_ _)); refine blk_put (cs := #[.slice none 0 0]) ?_ 0 _ rfl; (with_reducible repeat (first | refine blk_drewN ?_ _ | refine blk_drew ?_ | refine blk_alloc ?_ _)); refine blk_far ?_ NB389_398.out _; (with_reducible repeat (first | refine blk_drewN ?_ _ | refine blk_drew ?_ | refine blk_alloc ?_ _)); exact BK389.out) Try.underlying61 rfl (by kernel_rfl)) rfl ?_
   exact ⟨_, by first | rfl | (simp [errW_none, errW_some] <;> rfl) | (simp [*, errW_none, errW_some] <;> rfl), by (with_reducible repeat (first | apply Kd.R_alloc | apply Kd.R_drewN | apply Kd.R_drew)); exact Kd.R_mono (Kd.R_far (p := ⟨gb389, 0, none⟩) (Kd.R_far (p := ⟨gb398, 0, none⟩) (Kd.R_types (Kd.R_types HO396.out BK398.out (by decide)) BK389.out (by decide)) (fun _ hk => hk.1.2) (.slice Ao21 t394.length co21)) (fun _ hk => hk.2) (.slice Ao21 t394.length co21)) (fun _ hk => hk.1.1.1), by repeat (first | (with_reducible first | exact HB.out | apply below_alloc | apply pw_below_drewN | apply below_drew1 | refine below_set ?_ GE388.out | refine below_set ?_ GE389.out | refine below_set ?_ GE393.out | refine below_set ?_ GE398.out) | exact HB.out), by repeat (first | (with_reducible first | exact HK.out | apply Kept.alloc | apply Kept.drewN | apply Kept.drew | refine Kept.setCell ?_ (.inr GW388.out) _ | refine Kept.setCell ?_ (.inr GW389.out) _ | refine Kept.setCell ?_ (.inr GW393.out) _ | refine Kept.setCell ?_ (.inr GW398.out) _) | exact HK.out)⟩
  ·rw [if_neg c6] at H
   have c6b0 : (t397 == 0) = false := beq_eq_false_iff_ne.mpr c6
   have c6b1 : (t397 != 0) = true := bne_iff_ne.mpr c6
   replace H := Option.bind_eq_some_iff.mp H
   obtain ⟨t399, A270, H⟩ := H
   replace H : (some (t394, t399)) = some (r1, r2) := H
   have A27 := Aside0.mk A270
   clear A270
   simp only [Option.some.injEq, Prod.mk.injEq] at H
   obtain ⟨rfl, rfl⟩ := H
   obtain ⟨Ao28, co28, eo28⟩ := Kd.R_slice HO0_0.out
   subst eo28
   go_enter Try.func79, Try.ntmps79
   try go_wp2_with (first | ((with_reducible refine gate_dst (N := 2) rfl ?_); refine box_event ?hg (N := 2) ?hd (cs := #[.slice Ao28 l0_0.length co28]) (t := 61) ?hr ?_; (case hd => rfl); (case hg => rfl); (case hr => first | (go_simp; done) | (go_simp; rfl)); intro gb388 hg w29 hbox hb; have n0_ := Aside0.mk (Kd.R_below Z27 hb); have n1_ := Aside0.mk (Kept.below (S := (fun k_ => P0_0_ k_)) Z69 hb); have n2_ := Aside0.mk (below_step Z71 hb); have n3_ := Aside0.mk (hbox); have n4_ := Aside0.mk ((Z188 : w.heap.size ≤ gb388)); have n5_ := Aside0.mk ((Z189 : w0.heap.size ≤ gb388)); clear HO0_0; clear HK; clear HB; have HO0_0 := n0_; have HK := n1_; have HB := n2_; have BK388 := n3_; have GW388 := n4_; have GE388 := n5_; clear n0_ n1_ n2_ n3_ n4_ n5_; clear hb hbox hg) | ((with_reducible refine gate_dst (N := 4) rfl ?_); refine box_event ?hg (N := 4) ?hd (cs := #[.slice none 0 0]) (t := 61) ?hr ?_; (case hd => rfl); (case hg => rfl); (case hr => first | (go_simp; done) | (go_simp; rfl)); intro gb389 hg w30 hbox hb; have n0_ := Aside0.mk (Kd.R_below Z27 hb); have n1_ := Aside0.mk (blk_below (g := gb388) (o := .cells #[.slice Ao28 l0_0.length co28] 61 (0, 0)) Z60 hb); have n2_ := Aside0.mk (Kept.below (S := (fun k_ => P0_0_ k_)) Z101 hb); have n3_ := Aside0.mk (below_step Z95 hb); have n4_ := Aside0.mk (hbox); have n5_ := Aside0.mk ((by rw [hg]; exact Z150 : w.heap.size ≤ gb389)); have n6_ := Aside0.mk ((by rw [hg]; exact (below_size Z95) : w0.heap.size ≤ gb389)); have n7_ := Aside0.mk ((Z217 : gb388 ≠ gb389)); have n8_ := Aside0.mk ((Z218 : gb389 ≠ gb388)); clear HO0_0; clear BK388; clear HK; clear HB; have HO0_0 := n0_; have BK388 := n1_; have HK := n2_; have HB := n3_; have BK389 := n4_; have GW389 := n5_; have GE389 := n6_; have NB388_389 := n7_; have NB389_388 := n8_; clear n0_ n1_ n2_ n3_ n4_ n5_ n6_ n7_ n8_; clear hb hbox hg) | ((with_reducible refine gate_callee (f := 88) rfl ?_); refine goesL_ (some 12) rfl rfl Try.func88 (by kernel_rfl) rfl #[.string a1] rfl Z75 ?_; (with_reducible refine (spec_LinSays.calls k a1 t390 t391 true _ A3.out).mono ?_); rintro e w31 ⟨rfl, hb⟩; refine ⟨_, rfl, ?_⟩; have n0_ := Aside0.mk (Kd.R_below Z27 hb); have n1_ := Aside0.mk (blk_below (g := gb388) (o := .cells #[.slice Ao28 l0_0.length co28] 61 (0, 0)) Z60 hb); have n2_ := Aside0.mk (blk_below (g := gb389) (o := .cells #[.slice none 0 0] 61 (0, 0)) Z61 hb); have n3_ := Aside0.mk (Kept.below (S := (fun k_ => P0_0_ k_)) Z133 hb); have n4_ := Aside0.mk (below_step Z123 hb); clear HO0_0; clear BK388; clear BK389; clear HK; clear HB; have HO0_0 := n0_; have BK388 := n1_; have BK389 := n2_; have HK := n3_; have HB := n4_; clear n0_ n1_ n2_ n3_ n4_; (try clear hb)) | ((with_reducible refine gate_dst (N := 6) rfl ?_); refine box_event ?hg (N := 6) ?hd (cs := #[.int .i64 0, .int .i64 0]) (t := 80) ?hr ?_; (case hd => rfl); (case hg => rfl); (case hr => first | (go_simp; done) | (go_simp; rfl)); intro gb393 hg w32 hbox hb; have n0_ := Aside0.mk (Kd.R_below (Kd.R_elderB Z27 gb393 (Nat.le_of_eq hg.symm)) hb); have n1_ := Aside0.mk (blk_below (g := gb388) (o := .cells #[.slice Ao28 l0_0.length co28] 61 (0, 0)) Z60 hb); have n2_ := Aside0.mk (blk_below (g := gb389) (o := .cells #[.slice none 0 0] 61 (0, 0)) Z61 hb); have n3_ := Aside0.mk (Kept.below (S := (fun k_ => P0_0_ k_)) Z133 hb); have n4_ := Aside0.mk (below_step Z123 hb); have n5_ := Aside0.mk (hbox); have n6_ := Aside0.mk ((by rw [hg]; exact Z166 : w.heap.size ≤ gb393)); have n7_ := Aside0.mk ((by rw [hg]; exact (below_size Z123) : w0.heap.size ≤ gb393)); have n8_ := Aside0.mk ((Z217 : gb388 ≠ gb393)); have n9_ := Aside0.mk ((Z218 : gb393 ≠ gb388)); have n10_ := Aside0.mk ((Z197 : gb389 ≠ gb393)); have n11_ := Aside0.mk ((Z198 : gb393 ≠ gb389)); clear HO0_0; clear BK388; clear BK389; clear HK; clear HB; have HO0_0 := n0_; have BK388 := n1_; have BK389 := n2_; have HK := n3_; have HB := n4_; have BK393 := n5_; have GW393 := n6_; have GE393 := n7_; have NB388_393 := n8_; have NB393_388 := n9_; have NB389_393 := n10_; have NB393_389 := n11_; clear n0_ n1_ n2_ n3_ n4_ n5_ n6_ n7_ n8_ n9_ n10_ n11_; clear hb hbox hg; have hnb33 := NB393_388.out; have hnc33 := NB388_393.out; have hnb34 := NB393_389.out; have hnc34 := NB389_393.out; have hcz35_0 : w32.cell? ⟨gb393, 0, none⟩ = some (.int .i64 0) := (blk_cell BK393.out 0).trans rfl; have hcz35_1 : w32.cell? ⟨gb393, 1, none⟩ = some (.int .i64 0) := (blk_cell BK393.out 1).trans rfl; have hfz35_0 := blk_frozen BK393.out 0; have hfz35_1 := blk_frozen BK393.out 1) | ((with_reducible refine gate_store (t := 80) (p := 6) rfl ?_); refine store_event (t := 80) (p := 6) (v := ?vo_w36) (w1 := ((w32.setCell ⟨gb393, 0, none⟩ (.int .i64 t390)).setCell ⟨gb393, 1, none⟩ (.int .i64 t391))) ?hg ?ho ?hn ?hr ?_; (case ho => rfl); (case hg => rfl); (case hn => rfl); (case hr => first | (go_simp; done) | (go_simp; rfl)); intro w36 hw; have n0_ : Aside0 (Kd.R k80 80 w36 w0.heap.size (fun k_ => (P0_0_ k_ ∨ w.heap.size ≤ k_) ∧ k_ ≠ gb393) (.slice Ao28 l0_0.length co28) l0_0) := ⟨(by rw [hw]; exact Z176)⟩; have n1_ : Aside0 (w36.heap[gb388]? = some (.cells #[.slice Ao28 l0_0.length co28] 61 (0, 0))) := ⟨(by rw [hw]; exact Z180)⟩; have n2_ : Aside0 (w36.heap[gb389]? = some (.cells #[.slice none 0 0] 61 (0, 0))) := ⟨(by rw [hw]; exact Z181)⟩; have n3_ : Aside0 (w36.heap[gb393]? = some (.cells #[.int .i64 t390, .int .i64 t391] 80 (0, 0))) := ⟨(by rw [hw]; exact Z187)⟩; have n4_ : Aside0 (Kept w w36 (fun k_ => P0_0_ k_)) := ⟨(by rw [hw]; exact Z152)⟩; have n5_ : Aside0 (Below w0.heap.size w0 w36) := ⟨(by rw [hw]; exact Z142)⟩; clear hw; clear HO0_0; clear BK388; clear BK389; clear BK393; clear HK; clear HB; have HO0_0 := n0_; have BK388 := n1_; have BK389 := n2_; have BK393 := n3_; have HK := n4_; have HB := n5_; clear n0_ n1_ n2_ n3_ n4_ n5_; have hnb37 := NB388_389.out; have hnc37 := NB389_388.out; have hcz38_0 : w36.cell? ⟨gb388, 0, none⟩ = some (.slice Ao28 l0_0.length co28) := (blk_cell BK388.out 0).trans rfl; have hfz38_0 := blk_frozen BK388.out 0; have hcz39_0 : w36.cell? ⟨gb393, 0, none⟩ = some (.int .i64 t390) := (blk_cell BK393.out 0).trans rfl; have hcz39_1 : w36.cell? ⟨gb393, 1, none⟩ = some (.int .i64 t391) := (blk_cell BK393.out 1).trans rfl; have hfz39_0 := blk_frozen BK393.out 0; have hfz39_1 := blk_frozen BK393.out 1) | ((with_reducible refine gate_callee (f := 76) rfl ?_); refine goesL_ (some 22) rfl rfl Try.func76 (by kernel_rfl) rfl #[.agg #[.slice Ao28 l0_0.length co28], .agg #[.int .i64 t390, .int .i64 t391]] rfl Z75 ?_; (with_reducible refine (spec_l3Put.calls k (fun k_ => some k_ = (.slice Ao28 l0_0.length co28 : Value).ownBlock) (.slice Ao28 l0_0.length co28) l0_0 t390 t391 t394 t397 w0 _ ?side1 ?side2 A5.out).mono ?_); (case side1 => exact Z137); (case side2 => exact Kd.R_tight rfl HO0_0.out); rintro e w40 ⟨v395, rfl, ho0, hb, hkp⟩; refine ⟨_, rfl, ?_⟩; have n0_ := Aside0.mk (blk_kept Z60 hkp (fun hs_ => (fun e_ => (Kd.R_ne HO0_0.out BK388.out (by decide)) e_) hs_)); have n1_ := Aside0.mk (blk_kept Z61 hkp (fun hs_ => (fun e_ => (Kd.R_ne HO0_0.out BK389.out (by decide)) e_) hs_)); have n2_ := Aside0.mk (blk_kept Z62 hkp (fun hs_ => (fun e_ => (Kd.R_away HO0_0.out (fun _ hk => hk.2)) e_) hs_)); have n3_ := Aside0.mk (Kd.R_mono (ok' := fun k_ => (P0_0_ k_ ∨ w.heap.size ≤ k_) ∧ k_ ≠ gb393) ho0 (fun k_ hk_ => ⟨Or.elim hk_ (fun hs_ => (HO0_0.out.1 k_ (hs_).symm).1) (fun hn_ => (.inr (Nat.le_trans Z175 hn_))), Or.elim hk_ (fun hs_ => fun e_ => (Kd.R_away HO0_0.out (fun _ hk => hk.2)) (by rw [← e_]; exact hs_)) (fun hn_ => (Kd.freshB (g := gb393) (o := .cells #[.int .i64 t390, .int .i64 t391] 80 (0, 0)) Z62 k_ hn_))⟩)); have n4_ := Aside0.mk (Kept.then_ (S := (fun k_ => P0_0_ k_)) Z152 hkp (fun k_ hs_ => (fun e_ => (HO0_0.out.1 k_ e_.symm).1) hs_)); have n5_ := Aside0.mk (hb); clear BK388; clear BK389; clear BK393; clear HK; clear HB; clear HO0_0; have BK388 := n0_; have BK389 := n1_; have BK393 := n2_; have HO396 := n3_; have HK := n4_; have HB := n5_; clear n0_ n1_ n2_ n3_ n4_ n5_; (try clear hb); (try clear hkp); (try clear ho0)) | ((with_reducible refine gate_dst (N := 8) rfl ?_); refine box_event ?hg (N := 8) ?hd (cs := #[.slice none 0 0]) (t := 61) ?hr ?_; (case hd => rfl); (case hg => rfl); (case hr => first | (go_simp; done) | (go_simp; rfl)); intro gb398 hg w41 hbox hb; have n0_ := Aside0.mk (Kd.R_below Z32 hb); have n1_ := Aside0.mk (blk_below (g := gb388) (o := .cells #[.slice Ao28 l0_0.length co28] 61 (0, 0)) Z60 hb); have n2_ := Aside0.mk (blk_below (g := gb389) (o := .cells #[.slice none 0 0] 61 (0, 0)) Z61 hb); have n3_ := Aside0.mk (blk_below (g := gb393) (o := .cells #[.int .i64 t390, .int .i64 t391] 80 (0, 0)) Z62 hb); have n4_ := Aside0.mk (Kept.below (S := (fun k_ => P0_0_ k_)) Z152 hb); have n5_ := Aside0.mk (below_step Z142 hb); have n6_ := Aside0.mk (hbox); have n7_ := Aside0.mk ((by rw [hg]; exact Z175 : w.heap.size ≤ gb398)); have n8_ := Aside0.mk ((by rw [hg]; exact (below_size Z142) : w0.heap.size ≤ gb398)); have n9_ := Aside0.mk ((Z217 : gb388 ≠ gb398)); have n10_ := Aside0.mk ((Z218 : gb398 ≠ gb388)); have n11_ := Aside0.mk ((Z197 : gb389 ≠ gb398)); have n12_ := Aside0.mk ((Z198 : gb398 ≠ gb389)); have n13_ := Aside0.mk ((Z223 : gb393 ≠ gb398)); have n14_ := Aside0.mk ((Z224 : gb398 ≠ gb393)); clear HO396; clear BK388; clear BK389; clear BK393; clear HK; clear HB; have HO396 := n0_; have BK388 := n1_; have BK389 := n2_; have BK393 := n3_; have HK := n4_; have HB := n5_; have BK398 := n6_; have GW398 := n7_; have GE398 := n8_; have NB388_398 := n9_; have NB398_388 := n10_; have NB389_398 := n11_; have NB398_389 := n12_; have NB393_398 := n13_; have NB398_393 := n14_; clear n0_ n1_ n2_ n3_ n4_ n5_ n6_ n7_ n8_ n9_ n10_ n11_ n12_ n13_ n14_; clear hb hbox hg; obtain ⟨Ao42, co42, eo42⟩ := Kd.R_slice HO396.out; subst eo42; have hnb43 := NB398_388.out; have hnc43 := NB388_398.out; have hnb44 := NB398_389.out; have hnc44 := NB389_398.out; have hnb45 := NB398_393.out; have hnc45 := NB393_398.out; have hcz46_0 : w41.cell? ⟨gb398, 0, none⟩ = some (.slice none 0 0) := (blk_cell BK398.out 0).trans rfl; have hfz46_0 := blk_frozen BK398.out 0))
   have n0_ : Aside0 (Kd.R k80 80 (w41.setCell ⟨gb398, 0, none⟩ (.slice Ao42 t394.length co42)) w0.heap.size (fun k_ => (P0_0_ k_ ∨ w.heap.size ≤ k_) ∧ k_ ≠ gb393) (.slice Ao42 t394.length co42) t394) := ⟨by (with_reducible repeat (first | apply Kd.R_alloc | apply Kd.R_drewN | apply Kd.R_drew)); exact Kd.R_mono (Kd.R_far (p := ⟨gb398, 0, none⟩) (Kd.R_types HO396.out BK398.out (by decide)) (fun _ hk => hk.2) (.slice Ao42 t394.length co42)) (fun _ hk => ⟨hk.1.1, hk.1.2⟩)⟩
   have n1_ : Aside0 ((w41.setCell ⟨gb398, 0, none⟩ (.slice Ao42 t394.length co42)).heap[gb388]? = some (.cells #[.slice Ao28 l0_0.length co28] 61 (0, 0))) := ⟨by (with_reducible repeat (first | refine blk_drewN ?_ _ | refine blk_drew ?_ | refine blk_alloc ?_ _)); refine blk_far ?_ NB388_398.out _; (with_reducible repeat (first | refine blk_drewN ?_ _ | refine blk_drew ?_ | refine blk_alloc ?_ _)); exact BK388.out⟩
   have n2_ : Aside0 ((w41.setCell ⟨gb398, 0, none⟩ (.slice Ao42 t394.length co42)).heap[gb389]? = some (.cells #[.slice none 0 0] 61 (0, 0))) := ⟨by (with_reducible repeat (first | refine blk_drewN ?_ _ | refine blk_drew ?_ | refine blk_alloc ?_ _)); refine blk_far ?_ NB389_398.out _; (with_reducible repeat (first | refine blk_drewN ?_ _ | refine blk_drew ?_ | refine blk_alloc ?_ _)); exact BK389.out⟩
   have n3_ : Aside0 ((w41.setCell ⟨gb398, 0, none⟩ (.slice Ao42 t394.length co42)).heap[gb393]? = some (.cells #[.int .i64 t390, .int .i64 t391] 80 (0, 0))) := ⟨by (with_reducible repeat (first | refine blk_drewN ?_ _ | refine blk_drew ?_ | refine blk_alloc ?_ _)); refine blk_far ?_ NB393_398.out _; (with_reducible repeat (first | refine blk_drewN ?_ _ | refine blk_drew ?_ | refine blk_alloc ?_ _)); exact BK393.out⟩
   have n4_ : Aside0 ((w41.setCell ⟨gb398, 0, none⟩ (.slice Ao42 t394.length co42)).heap[gb398]? = some (.cells #[.slice Ao42 t394.length co42] 61 (0, 0))) := ⟨by (with_reducible repeat (first | refine blk_drewN ?_ _ | refine blk_drew ?_ | refine blk_alloc ?_ _)); refine blk_put (cs := #[.slice none 0 0]) ?_ 0 _ rfl; (with_reducible repeat (first | refine blk_drewN ?_ _ | refine blk_drew ?_ | refine blk_alloc ?_ _)); exact BK398.out⟩
   have n5_ : Aside0 (Kept w (w41.setCell ⟨gb398, 0, none⟩ (.slice Ao42 t394.length co42)) (fun k_ => P0_0_ k_)) := ⟨by repeat (first | (with_reducible first | exact HK.out | apply Kept.alloc | apply Kept.drewN | apply Kept.drew | refine Kept.setCell ?_ (.inr GW388.out) _ | refine Kept.setCell ?_ (.inr GW389.out) _ | refine Kept.setCell ?_ (.inr GW393.out) _ | refine Kept.setCell ?_ (.inr GW398.out) _) | exact HK.out)⟩
   have n6_ : Aside0 (Below w0.heap.size w0 (w41.setCell ⟨gb398, 0, none⟩ (.slice Ao42 t394.length co42))) := ⟨by repeat (first | (with_reducible first | exact HB.out | apply below_alloc | apply pw_below_drewN | apply below_drew1 | refine below_set ?_ GE388.out | refine below_set ?_ GE389.out | refine below_set ?_ GE393.out | refine below_set ?_ GE398.out) | exact HB.out)⟩
   (try clear HO396)
   (try clear BK388)
   (try clear BK389)
   (try clear BK393)
   (try clear BK398)
   (try clear HK)
   (try clear HB)
   generalize (w41.setCell ⟨gb398, 0, none⟩ (.slice Ao42 t394.length co42)) = w47 at n0_ n1_ n2_ n3_ n4_ n5_ n6_ ⊢
   have HO396 := n0_
   have BK388 := n1_
   have BK389 := n2_
   have BK393 := n3_
   have BK398 := n4_
   have HK := n5_
   have HB := n6_
   clear n0_ n1_ n2_ n3_ n4_ n5_ n6_
   have n0_ := Aside0.mk (Kd.R_drew HO396.out)
   have n1_ := Aside0.mk (blk_drew BK388.out)
   have n2_ := Aside0.mk (blk_drew BK389.out)
   have n3_ := Aside0.mk (blk_drew BK393.out)
   have n4_ := Aside0.mk (blk_drew BK398.out)
   have n5_ := Aside0.mk (Kept.drew HK.out)
   have n6_ := Aside0.mk (below_drew1 HB.out)
   clear HO396
   clear BK388
   clear BK389
   clear BK393
   clear BK398
   clear HK
   clear HB
   have HO396 := n0_
   have BK388 := n1_
   have BK389 := n2_
   have BK393 := n3_
   have BK398 := n4_
   have HK := n5_
   have HB := n6_
   clear n0_ n1_ n2_ n3_ n4_ n5_ n6_
   refine start_ (n := 6) (S := fun w' => w'.cell? ⟨gb398, 0, none⟩ = some (.slice Ao42 t394.length co42)) (ds := []) #[false, false, false, false, false, false] (by kernel_rfl) rfl rfl ((blk_cell BK398.out 0).trans rfl) (fun hHeld => ?_)
   generalize w47.drew = w48 at HO396 BK388 BK389 BK393 BK398 HK HB hHeld ⊢
   refine pure_ (i := 1) (N := some 29) (v := ?_) (a' := ?_) #[false, true, false, false, false, false] rfl rfl (by kernel_rfl) (fun _ _ _ h => h) (Or.inl ⟨by rfl, ?_⟩) ?_ ?_
   rotate_left
   ·intro w'
    go_simp
    with_reducible rfl
   rotate_left
   ·simp only [Act.put, List.setIfInBounds_toArray, List.set_cons_zero, List.set_cons_succ, i64_w, i32_w]
    rfl
   refine pure_ (i := 2) (N := some 30) (v := ?_) (a' := ?_) #[false, true, true, false, false, false] rfl rfl (by kernel_rfl) (fun _ _ _ h => h) (Or.inl ⟨by rfl, ?_⟩) ?_ ?_
   rotate_left
   ·intro w'
    go_simp
    with_reducible rfl
   rotate_left
   ·simp only [Act.put, List.setIfInBounds_toArray, List.set_cons_zero, List.set_cons_succ, i64_w, i32_w]
    rfl
   refine take_ (i := 0) (N := some 28) (v := ?_) (a' := ?_) #[true, true, true, false, false, false] rfl rfl (by kernel_rfl) (fun _ _ _ h => h) (Or.inl ⟨by rfl, ?_⟩) hHeld ?_ ?_
   rotate_left
   ·intro w' s0
    go_simp
    with_reducible rfl
   rotate_left
   ·simp only [Act.put, List.setIfInBounds_toArray, List.set_cons_zero, List.set_cons_succ, i64_w, i32_w]
    rfl
   refine one_ (i := 3) (N := some 31) #[true, true, true, true, false, false] rfl rfl (by kernel_rfl) (by decide) (fun K hK => ?_)
   refine goes_ Try.func77 (by kernel_rfl) rfl #[.agg #[.int .i64 50, .int .i64 t397]] (by rfl) rfl rfl Z75 ?_
   with_reducible refine (spec_LinPort.calls k 50 t397 t399 _ A27.out).mono ?_
   rintro e w49 ⟨rfl, hb⟩
   refine ⟨_, rfl, ?_⟩
   have n0_ := Aside0.mk (Kd.R_below Z32 hb)
   have n1_ := Aside0.mk (blk_below (g := gb388) (o := .cells #[.slice Ao28 l0_0.length co28] 61 (0, 0)) Z60 hb)
   have n2_ := Aside0.mk (blk_below (g := gb389) (o := .cells #[.slice none 0 0] 61 (0, 0)) Z61 hb)
   have n3_ := Aside0.mk (blk_below (g := gb393) (o := .cells #[.int .i64 t390, .int .i64 t391] 80 (0, 0)) Z62 hb)
   have n4_ := Aside0.mk (blk_below (g := gb398) (o := .cells #[.slice Ao42 t394.length co42] 61 (0, 0)) (by (with_reducible repeat (first | refine blk_drewN ?_ _ | refine blk_drew ?_ | refine blk_alloc ?_ _)); exact BK398.out) hb)
   have n5_ := Aside0.mk (Kept.below (S := (fun k_ => P0_0_ k_)) (by repeat (first | (with_reducible first | exact HK.out | apply Kept.alloc | apply Kept.drewN | apply Kept.drew | refine Kept.setCell ?_ (.inr GW388.out) _ | refine Kept.setCell ?_ (.inr GW389.out) _ | refine Kept.setCell ?_ (.inr GW393.out) _ | refine Kept.setCell ?_ (.inr GW398.out) _) | exact HK.out)) hb)
   have n6_ := Aside0.mk (below_step (by repeat (first | (with_reducible first | exact HB.out | apply below_alloc | apply pw_below_drewN | apply below_drew1 | refine below_set ?_ GE388.out | refine below_set ?_ GE389.out | refine below_set ?_ GE393.out | refine below_set ?_ GE398.out) | exact HB.out)) hb)
   clear HO396
   clear BK388
   clear BK389
   clear BK393
   clear BK398
   clear HK
   clear HB
   have HO396 := n0_
   have BK388 := n1_
   have BK389 := n2_
   have BK393 := n3_
   have BK398 := n4_
   have HK := n5_
   have HB := n6_
   clear n0_ n1_ n2_ n3_ n4_ n5_ n6_
   (try clear hb)
   (try clear hb2)
   (try clear hk)
   (try clear hi)
   refine hK.out _ _ ((blk_cell BK398.out 0).trans rfl) (fun hHeld => ?_)
   clear hK K
   refine norm_ (a' := ?_) ?_ ?_
   rotate_left
   ·show Act.put _ (some 31) _ = _
    simp only [Act.put, List.setIfInBounds_toArray, List.set_cons_zero, List.set_cons_succ, i64_w, i32_w]
    rfl
   refine one_ (i := 4) (N := none) #[true, true, true, true, true, false] rfl rfl (by kernel_rfl) (by decide) (fun K hK => ?_)
   have hs50 : w49.cell? ⟨gb389, 0, none⟩ = some (.slice none 0 0) := (blk_cell BK389.out 0).trans rfl
   have hfs50 := blk_frozen BK389.out 0
   have hns50_0 := NB388_389.out
   have hns50_2 := NB393_389.out
   have hns50_3 := NB398_389.out
   have hms50_0 := NB389_388.out
   have hms50_2 := NB389_393.out
   have hms50_3 := NB389_398.out
   refine skip_ (w1 := ?_) (by rfl) rfl ?_ ?_
   rotate_left
   ·go_simp
    rfl
   refine hK.out _ _ (((cell_far (p := ⟨gb389, _, none⟩) NB398_389.out _).trans (hHeld))) (fun hHeld => ?_)
   clear hK K
   refine pure_ (i := 5) (N := some 5) (v := ?_) (a' := ?_) #[true, true, true, true, true, true] rfl rfl (by kernel_rfl) (fun _ _ _ h => h) (Or.inl ⟨by rfl, ?_⟩) ?_ ?_
   rotate_left
   ·intro w'
    go_simp
    with_reducible rfl
   rotate_left
   ·simp only [Act.put, List.setIfInBounds_toArray, List.set_cons_zero, List.set_cons_succ, i64_w, i32_w]
    rfl
   refine done_ (by kernel_rfl) ?_
   try go_wp2
   refine bodyPost_ret (results_ct rfl _ _ gb389 61 #[.slice Ao42 t394.length co42] (0, 0) _ rfl (by (with_reducible repeat (first | refine blk_drewN ?_ _ | refine blk_drew ?_ | refine blk_alloc ?_ _)); refine blk_put (cs := #[.slice none 0 0]) ?_ 0 _ rfl; (with_reducible repeat (first | refine blk_drewN ?_ _ | refine blk_drew ?_ | refine blk_alloc ?_ _)); exact BK389.out) Try.underlying61 rfl (by kernel_rfl)) rfl ?_
   exact ⟨_, by first | rfl | (simp [errW_none, errW_some] <;> rfl) | (simp [*, errW_none, errW_some] <;> rfl), by (with_reducible repeat (first | apply Kd.R_alloc | apply Kd.R_drewN | apply Kd.R_drew)); exact Kd.R_mono (Kd.R_far (p := ⟨gb389, 0, none⟩) (Kd.R_types HO396.out BK389.out (by decide)) (fun _ hk => hk.2) (.slice Ao42 t394.length co42)) (fun _ hk => hk.1.1), by repeat (first | (with_reducible first | exact HB.out | apply below_alloc | apply pw_below_drewN | apply below_drew1 | refine below_set ?_ GE388.out | refine below_set ?_ GE389.out | refine below_set ?_ GE393.out | refine below_set ?_ GE398.out) | exact HB.out), by repeat (first | (with_reducible first | exact HK.out | apply Kept.alloc | apply Kept.drewN | apply Kept.drew | refine Kept.setCell ?_ (.inr GW388.out) _ | refine Kept.setCell ?_ (.inr GW389.out) _ | refine Kept.setCell ?_ (.inr GW393.out) _ | refine Kept.setCell ?_ (.inr GW398.out) _) | exact HK.out)⟩
 ·replace c4 := Bool.eq_false_iff.mpr c4
  subst c4
  have H1 : (some (l0_0, a1)) = some (r1, r2) := by rw [if_neg (show ¬ (false = true) by decide)] at H; exact H
  clear H
  have H := H1
  clear H1
  simp only [Option.some.injEq, Prod.mk.injEq] at H
  obtain ⟨rfl, rfl⟩ := H
  obtain ⟨Ao51, co51, eo51⟩ := Kd.R_slice HO0_0.out
  subst eo51
  go_enter Try.func79, Try.ntmps79
  go_wp2_with (first | ((with_reducible refine gate_dst (N := 2) rfl ?_); refine box_event ?hg (N := 2) ?hd (cs := #[.slice Ao51 l0_0.length co51]) (t := 61) ?hr ?_; (case hd => rfl); (case hg => rfl); (case hr => first | (go_simp; done) | (go_simp; rfl)); intro gb388 hg w52 hbox hb; have n0_ := Aside0.mk (Kd.R_below Z27 hb); have n1_ := Aside0.mk (Kept.below (S := (fun k_ => P0_0_ k_)) Z69 hb); have n2_ := Aside0.mk (below_step Z71 hb); have n3_ := Aside0.mk (hbox); have n4_ := Aside0.mk ((Z188 : w.heap.size ≤ gb388)); have n5_ := Aside0.mk ((Z189 : w0.heap.size ≤ gb388)); clear HO0_0; clear HK; clear HB; have HO0_0 := n0_; have HK := n1_; have HB := n2_; have BK388 := n3_; have GW388 := n4_; have GE388 := n5_; clear n0_ n1_ n2_ n3_ n4_ n5_; clear hb hbox hg) | ((with_reducible refine gate_dst (N := 4) rfl ?_); refine box_event ?hg (N := 4) ?hd (cs := #[.slice none 0 0]) (t := 61) ?hr ?_; (case hd => rfl); (case hg => rfl); (case hr => first | (go_simp; done) | (go_simp; rfl)); intro gb389 hg w53 hbox hb; have n0_ := Aside0.mk (Kd.R_below Z27 hb); have n1_ := Aside0.mk (blk_below (g := gb388) (o := .cells #[.slice Ao51 l0_0.length co51] 61 (0, 0)) Z60 hb); have n2_ := Aside0.mk (Kept.below (S := (fun k_ => P0_0_ k_)) Z101 hb); have n3_ := Aside0.mk (below_step Z95 hb); have n4_ := Aside0.mk (hbox); have n5_ := Aside0.mk ((by rw [hg]; exact Z150 : w.heap.size ≤ gb389)); have n6_ := Aside0.mk ((by rw [hg]; exact (below_size Z95) : w0.heap.size ≤ gb389)); have n7_ := Aside0.mk ((Z219 : gb388 ≠ gb389)); have n8_ := Aside0.mk ((Z220 : gb389 ≠ gb388)); clear HO0_0; clear BK388; clear HK; clear HB; have HO0_0 := n0_; have BK388 := n1_; have HK := n2_; have HB := n3_; have BK389 := n4_; have GW389 := n5_; have GE389 := n6_; have NB388_389 := n7_; have NB389_388 := n8_; clear n0_ n1_ n2_ n3_ n4_ n5_ n6_ n7_ n8_; clear hb hbox hg) | ((with_reducible refine gate_callee (f := 88) rfl ?_); refine goesL_ (some 12) rfl rfl Try.func88 (by kernel_rfl) rfl #[.string a1] rfl Z75 ?_; (with_reducible refine (spec_LinSays.calls k a1 t390 t391 false _ A3.out).mono ?_); rintro e w54 ⟨rfl, hb⟩; refine ⟨_, rfl, ?_⟩; have n0_ := Aside0.mk (Kd.R_below Z27 hb); have n1_ := Aside0.mk (blk_below (g := gb388) (o := .cells #[.slice Ao51 l0_0.length co51] 61 (0, 0)) Z60 hb); have n2_ := Aside0.mk (blk_below (g := gb389) (o := .cells #[.slice none 0 0] 61 (0, 0)) Z61 hb); have n3_ := Aside0.mk (Kept.below (S := (fun k_ => P0_0_ k_)) Z133 hb); have n4_ := Aside0.mk (below_step Z123 hb); clear HO0_0; clear BK388; clear BK389; clear HK; clear HB; have HO0_0 := n0_; have BK388 := n1_; have BK389 := n2_; have HK := n3_; have HB := n4_; clear n0_ n1_ n2_ n3_ n4_; (try clear hb)) | ((with_reducible refine gate_dst (N := 6) rfl ?_); refine box_event ?hg (N := 6) ?hd (cs := #[.int .i64 0, .int .i64 0]) (t := 80) ?hr ?_; (case hd => rfl); (case hg => rfl); (case hr => first | (go_simp; done) | (go_simp; rfl)); intro gb393 hg w55 hbox hb; have n0_ := Aside0.mk (Kd.R_below (Kd.R_elderB Z27 gb393 (Nat.le_of_eq hg.symm)) hb); have n1_ := Aside0.mk (blk_below (g := gb388) (o := .cells #[.slice Ao51 l0_0.length co51] 61 (0, 0)) Z60 hb); have n2_ := Aside0.mk (blk_below (g := gb389) (o := .cells #[.slice none 0 0] 61 (0, 0)) Z61 hb); have n3_ := Aside0.mk (Kept.below (S := (fun k_ => P0_0_ k_)) Z133 hb); have n4_ := Aside0.mk (below_step Z123 hb); have n5_ := Aside0.mk (hbox); have n6_ := Aside0.mk ((by rw [hg]; exact Z166 : w.heap.size ≤ gb393)); have n7_ := Aside0.mk ((by rw [hg]; exact (below_size Z123) : w0.heap.size ≤ gb393)); have n8_ := Aside0.mk ((Z219 : gb388 ≠ gb393)); have n9_ := Aside0.mk ((Z220 : gb393 ≠ gb388)); have n10_ := Aside0.mk ((Z197 : gb389 ≠ gb393)); have n11_ := Aside0.mk ((Z198 : gb393 ≠ gb389)); clear HO0_0; clear BK388; clear BK389; clear HK; clear HB; have HO0_0 := n0_; have BK388 := n1_; have BK389 := n2_; have HK := n3_; have HB := n4_; have BK393 := n5_; have GW393 := n6_; have GE393 := n7_; have NB388_393 := n8_; have NB393_388 := n9_; have NB389_393 := n10_; have NB393_389 := n11_; clear n0_ n1_ n2_ n3_ n4_ n5_ n6_ n7_ n8_ n9_ n10_ n11_; clear hb hbox hg; have hnb56 := NB393_388.out; have hnc56 := NB388_393.out; have hnb57 := NB393_389.out; have hnc57 := NB389_393.out; have hcz58_0 : w55.cell? ⟨gb393, 0, none⟩ = some (.int .i64 0) := (blk_cell BK393.out 0).trans rfl; have hcz58_1 : w55.cell? ⟨gb393, 1, none⟩ = some (.int .i64 0) := (blk_cell BK393.out 1).trans rfl; have hfz58_0 := blk_frozen BK393.out 0; have hfz58_1 := blk_frozen BK393.out 1; have hnb59 := NB388_389.out; have hnc59 := NB389_388.out; have hcz60_0 : w55.cell? ⟨gb388, 0, none⟩ = some (.slice Ao51 l0_0.length co51) := (blk_cell BK388.out 0).trans rfl; have hfz60_0 := blk_frozen BK388.out 0; have hcz61_0 : w55.cell? ⟨gb389, 0, none⟩ = some (.slice none 0 0) := (blk_cell BK389.out 0).trans rfl; have hfz61_0 := blk_frozen BK389.out 0))
  refine bodyPost_ret (results_ct rfl _ _ gb389 61 #[.slice Ao51 l0_0.length co51] (0, 0) _ rfl (by (with_reducible repeat (first | refine blk_drewN ?_ _ | refine blk_drew ?_ | refine blk_alloc ?_ _)); refine blk_put (cs := #[.slice none 0 0]) ?_ 0 _ rfl; (with_reducible repeat (first | refine blk_drewN ?_ _ | refine blk_drew ?_ | refine blk_alloc ?_ _)); refine blk_far ?_ NB389_393.out _; (with_reducible repeat (first | refine blk_drewN ?_ _ | refine blk_drew ?_ | refine blk_alloc ?_ _)); refine blk_far ?_ NB389_393.out _; (with_reducible repeat (first | refine blk_drewN ?_ _ | refine blk_drew ?_ | refine blk_alloc ?_ _)); exact BK389.out) Try.underlying61 rfl (by kernel_rfl)) rfl ?_
  exact ⟨_, by first | rfl | (simp [errW_none, errW_some] <;> rfl) | (simp [*, errW_none, errW_some] <;> rfl), by (with_reducible repeat (first | apply Kd.R_alloc | apply Kd.R_drewN | apply Kd.R_drew)); exact Kd.R_mono (Kd.R_far (p := ⟨gb389, 0, none⟩) (Kd.R_far (p := ⟨gb393, 1, none⟩) (Kd.R_far (p := ⟨gb393, 0, none⟩) (Kd.R_types (Kd.R_mono HO0_0.out (fun k_ hk => (⟨hk, hk.2⟩ : _ ∧ k_ ≠ gb393))) BK389.out (by decide)) (fun _ hk => hk.1.2) (.int .i64 t390)) (fun _ hk => hk.1.2) (.int .i64 t391)) (fun _ hk => hk.2) (.slice Ao51 l0_0.length co51)) (fun _ hk => hk.1.1.1), by repeat (first | (with_reducible first | exact HB.out | apply below_alloc | apply pw_below_drewN | apply below_drew1 | refine below_set ?_ GE388.out | refine below_set ?_ GE389.out | refine below_set ?_ GE393.out) | exact HB.out), by repeat (first | (with_reducible first | exact HK.out | apply Kept.alloc | apply Kept.drewN | apply Kept.drew | refine Kept.setCell ?_ (.inr GW388.out) _ | refine Kept.setCell ?_ (.inr GW389.out) _ | refine Kept.setCell ?_ (.inr GW393.out) _) | exact HK.out)⟩

end Go.Proofs.Ytmahgffkkdggcaa.QFnPosThere
