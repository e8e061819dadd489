-- Laid by a program of this repo (wip/tools/sprint.py): print.py's functions and walks; the contracts named 'BY HAND' are proved by hand.
import Derived.Test.YtlofgoahgnllkaaDoorQFnBakLinex5
import Derived.Test.YtlofgoahgnllkaaDoorQFnBakLinex12
import Derived.Test.YtlofgoahgnllkaaDoorQFnBakLinex11
import Derived.Test.YtlofgoahgnllkaaDoorQFnBakLinex10
import Derived.Test.YtlofgoahgnllkaaDoorQFnBakLinex0
import Derived.Test.YtlofgoahgnllkaaDoorQFnBakLinex1
import Derived.Test.YtlofgoahgnllkaaDoorQFnBakLinex2
import Derived.Test.YtlofgoahgnllkaaDoorQFnBakLinex3
import Derived.Test.YtlofgoahgnllkaaDoorQFnBakLinex4
import Derived.Test.YtlofgoahgnllkaaDoorQFnBakLinex6
import Derived.Test.YtlofgoahgnllkaaDoorQFnBakLinex7
import Derived.Test.YtlofgoahgnllkaaDoorQFnBakLinex8
import Derived.Test.YtlofgoahgnllkaaDoorQFnBakLinex9
import Derived.Test.YtlofgoahgnllkaaDoorQFnBakLinex13
namespace Go.Proofs.YtlofgoahgnllkaaDoor.QFnBakLine
open Go.RowKit Go.Proofs.YtlofgoahgnllkaaDoorW.PrintWords Go.Proofs.YtlofgoahgnllkaaDoorW.PrintLast Go.Proofs.YtlofgoahgnllkaaDoorW.PrintMore
attribute [local go_sem] max2_int min2_int max_two min_two max_three min_three max_four min_four   -- for this text's walks alone
set_option linter.unusedVariables false
set_option linter.unusedSimpArgs false

attribute [local go_sem high] eqA43
/-! ### spec_LinSays: function 38 -/
def spec_LinSays.j0 : Nat → ByteArray → Bool → Option (Int × Int × Bool)
 | 0, _, _ => none
 | k + 1, x0, x13 => if x13 = true then (some (0, 0, false)) else (if 5 ≤ (x0.size : Int) then ((spec_EndRead.f k (x0.extract 5 x0.size)).bind fun bt398 => (if bt398.2.2 = true then ((spec_EndInside.f bt398.1 bt398.2.1).bind fun t402 => (if t402 = true then (some (bt398.1, bt398.2.1, true)) else (some (0, 0, false)))) else (some (0, 0, false)))) else (none))
def spec_LinSays.f (k : Nat) (a0 : ByteArray) : Option (Int × Int × Bool) := if (a0.size : Int) < 5 then (spec_LinSays.j0 k a0 true) else (if 0 ≤ 5 then (if 5 ≤ (a0.size : Int) then (spec_LinSays.j0 k a0 ((a0.extract 0 5).toList != ([112, 111, 114, 116, 32] : List UInt8))) else (none)) else (none))
theorem spec_LinSays.mono_l : ∀ k, (∀ y0 y1, LeO (spec_LinSays.j0 k y0 y1) (spec_LinSays.j0 (k + 1) y0 y1))
 | 0 => fun _ _ r h => by simp [spec_LinSays.j0] at h
 | k + 1 => by
  have ih0 := spec_LinSays.mono_l k
  ·intro y0 y1
   unfold spec_LinSays.j0
   repeat' first
   | (with_reducible exact ih0 _ _)
   | (with_reducible exact spec_EndRead.mono _ _)
   | (with_reducible exact LeO.refl _)
   | (with_reducible exact LeO.none _)
   | (with_reducible refine LeO.ite ?_ ?_)
   | (with_reducible refine LeO.bind ?_ (fun _ => ?_))
   | exact ih0 _ _
   | exact spec_EndRead.mono _ _
   | exact LeO.none _
   | refine LeO.ite ?_ ?_
   | refine LeO.bind ?_ (fun _ => ?_)
theorem spec_LinSays.mono : ∀ a0 k, LeO (spec_LinSays.f k a0) (spec_LinSays.f (k + 1) a0) := by
 intro a0 k
 have ih0 := spec_LinSays.mono_l k
 unfold spec_LinSays.f
 repeat' first
   | (with_reducible exact ih0 _ _)
   | (with_reducible exact spec_EndRead.mono _ _)
   | (with_reducible exact LeO.refl _)
   | (with_reducible exact LeO.none _)
   | (with_reducible refine LeO.ite ?_ ?_)
   | (with_reducible refine LeO.bind ?_ (fun _ => ?_))
   | exact ih0 _ _
   | exact spec_EndRead.mono _ _
   | exact LeO.none _
   | refine LeO.ite ?_ ?_
   | refine LeO.bind ?_ (fun _ => ?_)
set_option maxHeartbeats 8000000 in
set_option maxRecDepth 100000 in
theorem spec_LinSays.calls (k : Nat) (a0 : ByteArray) (r1 : Int) (r2 : Int) (r3 : Bool) (w : World) (h : spec_LinSays.f k a0 = some (r1, r2, r3)) :
  Calls Tryd.prog 38 #[.string a0] w fun e w' => e = .returned (.tuple #[.agg #[.int .i64 r1, .int .i64 r2], .bool r3]) ∧ Below w.heap.size w w' := by
 have hu43 := Tryd.underlying43
 have HB := Aside0.mk (Below.refl w.heap.size w)
 have H : (if (a0.size : Int) < 5 then (spec_LinSays.j0 k a0 true) else (if 0 ≤ 5 then (if 5 ≤ (a0.size : Int) then (spec_LinSays.j0 k a0 ((a0.extract 0 5).toList != ([112, 111, 114, 116, 32] : List UInt8))) else (none)) else (none))) = some (r1, r2, r3) := h
 clear h
 have HC2 := Aside0.mk H
 clear H
 go_enter Tryd.func38, Tryd.ntmps38
 go_upto_region 1 with (first | ((with_reducible refine gate_dst (N := 2) rfl ?_); refine box_event ?hg (N := 2) ?hd (cs := #[.int .i64 0, .int .i64 0]) (t := 43) ?hr ?_; (case hd => rfl); (case hg => rfl); (case hr => first | (go_simp; done) | (go_simp; rfl)); intro gb397 hg w3 hbox hb; have n0_ := Aside0.mk (below_step Z51 hb); have n1_ := Aside0.mk (hbox); have n2_ := Aside0.mk ((Z160 : w.heap.size ≤ gb397)); have n3_ := Aside0.mk ((Z160 : w.heap.size ≤ gb397)); clear HB; have HB := n0_; have BK397 := n1_; have GW397 := n2_; have GE397 := n3_; clear n0_ n1_ n2_ n3_; clear hb hbox hg))
 (try simp only [Act.put, List.setIfInBounds_toArray, List.set_cons_zero, List.set_cons_succ])
 go_cut [13] (fun v13 wc => ∃ (kq : Nat) (x13_1 : Bool), v13 = .bool x13_1 ∧ Aside0 (spec_LinSays.j0 kq a0 x13_1 = some (r1, r2, r3)) ∧ Aside0 (kq ≤ k) ∧ Aside0 (wc.heap[gb397]? = some (.cells #[.int .i64 0, .int .i64 0] 43 (0, 0))) ∧ Aside0 (Below w.heap.size w wc))
 case first =>
  have H := HC2.out
  clear HC2
  by_cases c4 : (a0.size : Int) < 5
  ·rw [if_pos c4] at H
   have c4b0 : decide ((a0.size : Int) < 5) = true := decide_eq_true c4
   have c4b1 : decide (a0.size < 5) = true := decide_eq_true (by omega)
   clear c4
   (first | rw [c4b0] | (simp only [i64_w, i32_w]; rw [c4b0]) | skip)
   have H' := Aside0.mk H
   clear H
   go_wp2
   go_meet
   case rel => exact ⟨_, (true), Z0, H', ⟨by first | omega | exact Nat.le_refl _⟩, ⟨by (with_reducible repeat (first | refine blk_drewN ?_ _ | refine blk_drew ?_ | refine blk_alloc ?_ _)); exact BK397.out⟩, ⟨by repeat (first | (with_reducible first | exact HB.out | apply below_alloc | apply pw_below_drewN | apply below_drew1 | refine below_set ?_ GE397.out) | exact HB.out)⟩⟩
  ·rw [if_neg c4] at H
   have c4b0 : decide ((a0.size : Int) < 5) = false := decide_eq_false c4
   have c4b1 : decide (a0.size < 5) = false := decide_eq_false (by omega)
   clear c4
   (first | rw [c4b0] | (simp only [i64_w, i32_w]; rw [c4b0]) | skip)
   by_cases c5 : 0 ≤ 5
   ·rw [if_pos c5] at H
    have c5b0 := eq_true c5
    have c5b1 : decide (0 ≤ 5) = true := decide_eq_true c5
    clear c5
    by_cases c6 : 5 ≤ (a0.size : Int)
    ·rw [if_pos c6] at H
     have c6b0 := eq_true c6
     have c6b1 : decide (5 ≤ (a0.size : Int)) = true := decide_eq_true c6
     clear c6
     have H' := Aside0.mk H
     clear H
     go_wp2
     go_meet
     case rel => exact ⟨_, (((a0.extract 0 5).toList != ([112, 111, 114, 116, 32] : List UInt8))), Z0, H', ⟨by first | omega | exact Nat.le_refl _⟩, ⟨by (with_reducible repeat (first | refine blk_drewN ?_ _ | refine blk_drew ?_ | refine blk_alloc ?_ _)); exact BK397.out⟩, ⟨by repeat (first | (with_reducible first | exact HB.out | apply below_alloc | apply pw_below_drewN | apply below_drew1 | refine below_set ?_ GE397.out) | exact HB.out)⟩⟩
    ·rw [if_neg c6] at H
     exact absurd H (by simp)
   ·rw [if_neg c5] at H
    exact absurd H (by simp)
 case rest =>
  clear HC2
  try clear p2
  try clear c3
  try clear c4
  try clear c4b0
  try clear c4b1
  try clear c5
  try clear c5b0
  try clear c5b1
  try clear c6
  try clear c6b0
  try clear c6b1
  obtain ⟨kq, x13_1, rfl, HA, HJ1, BK397, HB⟩ := hcut
  cases kq with
  | zero => exact absurd HA.out (by simp [spec_LinSays.j0])
  | succ kj1 =>
   have H := HA.out
   clear HA
   simp only [spec_LinSays.j0] at H
   by_cases c7 : x13_1 = true
   ·subst c7
    have H1 : (some (0, 0, false)) = some (r1, r2, r3) := by rw [if_pos rfl] at H; exact H
    clear H
    have H := H1
    clear H1
    simp only [Option.some.injEq, Prod.mk.injEq] at H
    obtain ⟨rfl, rfl, rfl⟩ := H
    have hcz8_0 : wc.cell? ⟨gb397, 0, none⟩ = some (.int .i64 0) := (blk_cell BK397.out 0).trans rfl
    have hcz8_1 : wc.cell? ⟨gb397, 1, none⟩ = some (.int .i64 0) := (blk_cell BK397.out 1).trans rfl
    have hfz8_0 := blk_frozen BK397.out 0
    have hfz8_1 := blk_frozen BK397.out 1
    go_wp2
    refine bodyPost_ret (results_ct rfl _ _ gb397 43 #[.int .i64 0, .int .i64 0] (0, 0) _ rfl Z157 Tryd.underlying43 rfl (by kernel_rfl)) rfl ?_
    exact ⟨by first | rfl | (simp [errW_none, errW_some] <;> rfl) | (simp [*, errW_none, errW_some] <;> rfl), by repeat (first | (with_reducible first | exact HB.out | apply below_alloc | apply pw_below_drewN | apply below_drew1 | refine below_set ?_ GE397.out) | exact HB.out)⟩
   ·replace c7 := Bool.eq_false_iff.mpr c7
    subst c7
    have H1 : (if 5 ≤ (a0.size : Int) then ((spec_EndRead.f kj1 (a0.extract 5 a0.size)).bind fun bt398 => (if bt398.2.2 = true then ((spec_EndInside.f bt398.1 bt398.2.1).bind fun t402 => (if t402 = true then (some (bt398.1, bt398.2.1, true)) else (some (0, 0, false)))) else (some (0, 0, false)))) else (none)) = some (r1, r2, r3) := by rw [if_neg (show ¬ (false = true) by decide)] at H; exact H
    clear H
    have H := H1
    clear H1
    by_cases c9 : 5 ≤ (a0.size : Int)
    ·rw [if_pos c9] at H
     have c9b0 := eq_true c9
     have c9b1 : decide (5 ≤ (a0.size : Int)) = true := decide_eq_true c9
     clear c9
     replace H := Option.bind_eq_some_iff.mp H
     obtain ⟨⟨t398, t399, t400⟩, A100, H⟩ := H
     replace H : (if t400 = true then ((spec_EndInside.f t398 t399).bind fun t402 => (if t402 = true then (some (t398, t399, true)) else (some (0, 0, false)))) else (some (0, 0, false))) = some (r1, r2, r3) := H
     have A10 := Aside0.mk A100
     clear A100
     by_cases c11 : t400 = true
     ·subst c11
      have H1 : ((spec_EndInside.f t398 t399).bind fun t402 => (if t402 = true then (some (t398, t399, true)) else (some (0, 0, false)))) = some (r1, r2, r3) := by rw [if_pos rfl] at H; exact H
      clear H
      have H := H1
      clear H1
      replace H := Option.bind_eq_some_iff.mp H
      obtain ⟨t402, A120, H⟩ := H
      replace H : (if t402 = true then (some (t398, t399, true)) else (some (0, 0, false))) = some (r1, r2, r3) := H
      have A12 := Aside0.mk A120
      clear A120
      by_cases c13 : t402 = true
      ·subst c13
       have H1 : (some (t398, t399, true)) = some (r1, r2, r3) := by rw [if_pos rfl] at H; exact H
       clear H
       have H := H1
       clear H1
       simp only [Option.some.injEq, Prod.mk.injEq] at H
       obtain ⟨rfl, rfl, rfl⟩ := H
       go_wp2_with (first | ((with_reducible refine gate_callee (f := 34) rfl ?_); refine goesL_ (some 18) rfl rfl Tryd.func34 (by kernel_rfl) rfl #[.string (a0.extract 5 a0.size)] rfl Z55 ?_; (with_reducible refine (spec_EndRead.calls kj1 (a0.extract 5 a0.size) t398 t399 true _ A10.out).mono ?_); rintro e w14 ⟨rfl, hb⟩; refine ⟨_, rfl, ?_⟩; have n0_ := Aside0.mk (blk_below (g := gb397) (o := .cells #[.int .i64 0, .int .i64 0] 43 (0, 0)) Z46 hb); have n1_ := Aside0.mk (below_step Z78 hb); clear BK397; clear HB; have BK397 := n0_; have HB := n1_; clear n0_ n1_; (try clear hb)) | ((with_reducible refine gate_dst (N := 4) rfl ?_); refine box_event ?hg (N := 4) ?hd (cs := #[.int .i64 0, .int .i64 0]) (t := 43) ?hr ?_; (case hd => rfl); (case hg => rfl); (case hr => first | (go_simp; done) | (go_simp; rfl)); intro gb401 hg w15 hbox hb; have n0_ := Aside0.mk (blk_below (g := gb397) (o := .cells #[.int .i64 0, .int .i64 0] 43 (0, 0)) Z46 hb); have n1_ := Aside0.mk (below_step Z78 hb); have n2_ := Aside0.mk (hbox); have n3_ := Aside0.mk ((Z164 : w.heap.size ≤ gb401)); have n4_ := Aside0.mk ((Z164 : w.heap.size ≤ gb401)); have n5_ := Aside0.mk ((Z172 : gb397 ≠ gb401)); have n6_ := Aside0.mk ((Z173 : gb401 ≠ gb397)); clear BK397; clear HB; have BK397 := n0_; have HB := n1_; have BK401 := n2_; have GW401 := n3_; have GE401 := n4_; have NB397_401 := n5_; have NB401_397 := n6_; clear n0_ n1_ n2_ n3_ n4_ n5_ n6_; clear hb hbox hg; have hnb16 := NB401_397.out; have hnc16 := NB397_401.out; have hcz17_0 : w15.cell? ⟨gb401, 0, none⟩ = some (.int .i64 0) := (blk_cell BK401.out 0).trans rfl; have hcz17_1 : w15.cell? ⟨gb401, 1, none⟩ = some (.int .i64 0) := (blk_cell BK401.out 1).trans rfl; have hfz17_0 := blk_frozen BK401.out 0; have hfz17_1 := blk_frozen BK401.out 1) | (go_at_call 41; (with_reducible refine (spec_EndInside.calls t398 t399 true _ A12.out).mono ?_); rintro e w18 ⟨rfl, hb⟩; have n0_ := Aside0.mk (blk_below (g := gb397) (o := .cells #[.int .i64 0, .int .i64 0] 43 (0, 0)) Z154 hb); have n1_ := Aside0.mk (blk_below (g := gb401) (o := .cells #[.int .i64 t398, .int .i64 t399] 43 (0, 0)) Z159 hb); have n2_ := Aside0.mk (below_step Z109 hb); clear BK397; clear BK401; clear HB; have BK397 := n0_; have BK401 := n1_; have HB := n2_; clear n0_ n1_ n2_; (try clear hb); have hcz19_0 : w18.cell? ⟨gb401, 0, none⟩ = some (.int .i64 t398) := (blk_cell BK401.out 0).trans rfl; have hcz19_1 : w18.cell? ⟨gb401, 1, none⟩ = some (.int .i64 t399) := (blk_cell BK401.out 1).trans rfl; have hfz19_0 := blk_frozen BK401.out 0; have hfz19_1 := blk_frozen BK401.out 1; have hcz20_0 : w18.cell? ⟨gb397, 0, none⟩ = some (.int .i64 0) := (blk_cell BK397.out 0).trans rfl; have hcz20_1 : w18.cell? ⟨gb397, 1, none⟩ = some (.int .i64 0) := (blk_cell BK397.out 1).trans rfl; have hfz20_0 := blk_frozen BK397.out 0; have hfz20_1 := blk_frozen BK397.out 1))
       refine bodyPost_ret (results_ct rfl _ _ gb397 43 #[.int .i64 t398, .int .i64 t399] (0, 0) _ rfl (by (with_reducible repeat (first | refine blk_drewN ?_ _ | refine blk_drew ?_ | refine blk_alloc ?_ _)); refine blk_put (cs := #[.int .i64 t398, .int .i64 0]) ?_ 1 _ rfl; (with_reducible repeat (first | refine blk_drewN ?_ _ | refine blk_drew ?_ | refine blk_alloc ?_ _)); refine blk_put (cs := #[.int .i64 0, .int .i64 0]) ?_ 0 _ rfl; (with_reducible repeat (first | refine blk_drewN ?_ _ | refine blk_drew ?_ | refine blk_alloc ?_ _)); exact BK397.out) Tryd.underlying43 rfl (by kernel_rfl)) rfl ?_
       exact ⟨by first | rfl | (simp [errW_none, errW_some] <;> rfl) | (simp [*, errW_none, errW_some] <;> rfl), by repeat (first | (with_reducible first | exact HB.out | apply below_alloc | apply pw_below_drewN | apply below_drew1 | refine below_set ?_ GE397.out | refine below_set ?_ GE401.out) | exact HB.out)⟩
      ·replace c13 := Bool.eq_false_iff.mpr c13
       subst c13
       have H1 : (some (0, 0, false)) = some (r1, r2, r3) := by rw [if_neg (show ¬ (false = true) by decide)] at H; exact H
       clear H
       have H := H1
       clear H1
       simp only [Option.some.injEq, Prod.mk.injEq] at H
       obtain ⟨rfl, rfl, rfl⟩ := H
       go_wp2_with (first | ((with_reducible refine gate_callee (f := 34) rfl ?_); refine goesL_ (some 18) rfl rfl Tryd.func34 (by kernel_rfl) rfl #[.string (a0.extract 5 a0.size)] rfl Z55 ?_; (with_reducible refine (spec_EndRead.calls kj1 (a0.extract 5 a0.size) t398 t399 true _ A10.out).mono ?_); rintro e w21 ⟨rfl, hb⟩; refine ⟨_, rfl, ?_⟩; have n0_ := Aside0.mk (blk_below (g := gb397) (o := .cells #[.int .i64 0, .int .i64 0] 43 (0, 0)) Z46 hb); have n1_ := Aside0.mk (below_step Z78 hb); clear BK397; clear HB; have BK397 := n0_; have HB := n1_; clear n0_ n1_; (try clear hb)) | ((with_reducible refine gate_dst (N := 4) rfl ?_); refine box_event ?hg (N := 4) ?hd (cs := #[.int .i64 0, .int .i64 0]) (t := 43) ?hr ?_; (case hd => rfl); (case hg => rfl); (case hr => first | (go_simp; done) | (go_simp; rfl)); intro gb401 hg w22 hbox hb; have n0_ := Aside0.mk (blk_below (g := gb397) (o := .cells #[.int .i64 0, .int .i64 0] 43 (0, 0)) Z46 hb); have n1_ := Aside0.mk (below_step Z78 hb); have n2_ := Aside0.mk (hbox); have n3_ := Aside0.mk ((Z164 : w.heap.size ≤ gb401)); have n4_ := Aside0.mk ((Z164 : w.heap.size ≤ gb401)); have n5_ := Aside0.mk ((Z172 : gb397 ≠ gb401)); have n6_ := Aside0.mk ((Z173 : gb401 ≠ gb397)); clear BK397; clear HB; have BK397 := n0_; have HB := n1_; have BK401 := n2_; have GW401 := n3_; have GE401 := n4_; have NB397_401 := n5_; have NB401_397 := n6_; clear n0_ n1_ n2_ n3_ n4_ n5_ n6_; clear hb hbox hg; have hnb23 := NB401_397.out; have hnc23 := NB397_401.out; have hcz24_0 : w22.cell? ⟨gb401, 0, none⟩ = some (.int .i64 0) := (blk_cell BK401.out 0).trans rfl; have hcz24_1 : w22.cell? ⟨gb401, 1, none⟩ = some (.int .i64 0) := (blk_cell BK401.out 1).trans rfl; have hfz24_0 := blk_frozen BK401.out 0; have hfz24_1 := blk_frozen BK401.out 1) | (go_at_call 41; (with_reducible refine (spec_EndInside.calls t398 t399 false _ A12.out).mono ?_); rintro e w25 ⟨rfl, hb⟩; have n0_ := Aside0.mk (blk_below (g := gb397) (o := .cells #[.int .i64 0, .int .i64 0] 43 (0, 0)) Z154 hb); have n1_ := Aside0.mk (blk_below (g := gb401) (o := .cells #[.int .i64 t398, .int .i64 t399] 43 (0, 0)) Z159 hb); have n2_ := Aside0.mk (below_step Z109 hb); clear BK397; clear BK401; clear HB; have BK397 := n0_; have BK401 := n1_; have HB := n2_; clear n0_ n1_ n2_; (try clear hb); have hcz26_0 : w25.cell? ⟨gb397, 0, none⟩ = some (.int .i64 0) := (blk_cell BK397.out 0).trans rfl; have hcz26_1 : w25.cell? ⟨gb397, 1, none⟩ = some (.int .i64 0) := (blk_cell BK397.out 1).trans rfl; have hfz26_0 := blk_frozen BK397.out 0; have hfz26_1 := blk_frozen BK397.out 1))
       refine bodyPost_ret (results_ct rfl _ _ gb397 43 #[.int .i64 0, .int .i64 0] (0, 0) _ rfl Z157 Tryd.underlying43 rfl (by kernel_rfl)) rfl ?_
       exact ⟨by first | rfl | (simp [errW_none, errW_some] <;> rfl) | (simp [*, errW_none, errW_some] <;> rfl), by repeat (first | (with_reducible first | exact HB.out | apply below_alloc | apply pw_below_drewN | apply below_drew1 | refine below_set ?_ GE397.out | refine below_set ?_ GE401.out) | exact HB.out)⟩
     ·replace c11 := Bool.eq_false_iff.mpr c11
      subst c11
      have H1 : (some (0, 0, false)) = some (r1, r2, r3) := by rw [if_neg (show ¬ (false = true) by decide)] at H; exact H
      clear H
      have H := H1
      clear H1
      simp only [Option.some.injEq, Prod.mk.injEq] at H
      obtain ⟨rfl, rfl, rfl⟩ := H
      go_wp2_with (first | ((with_reducible refine gate_callee (f := 34) rfl ?_); refine goesL_ (some 18) rfl rfl Tryd.func34 (by kernel_rfl) rfl #[.string (a0.extract 5 a0.size)] rfl Z55 ?_; (with_reducible refine (spec_EndRead.calls kj1 (a0.extract 5 a0.size) t398 t399 false _ A10.out).mono ?_); rintro e w27 ⟨rfl, hb⟩; refine ⟨_, rfl, ?_⟩; have n0_ := Aside0.mk (blk_below (g := gb397) (o := .cells #[.int .i64 0, .int .i64 0] 43 (0, 0)) Z46 hb); have n1_ := Aside0.mk (below_step Z78 hb); clear BK397; clear HB; have BK397 := n0_; have HB := n1_; clear n0_ n1_; (try clear hb)) | ((with_reducible refine gate_dst (N := 4) rfl ?_); refine box_event ?hg (N := 4) ?hd (cs := #[.int .i64 0, .int .i64 0]) (t := 43) ?hr ?_; (case hd => rfl); (case hg => rfl); (case hr => first | (go_simp; done) | (go_simp; rfl)); intro gb401 hg w28 hbox hb; have n0_ := Aside0.mk (blk_below (g := gb397) (o := .cells #[.int .i64 0, .int .i64 0] 43 (0, 0)) Z46 hb); have n1_ := Aside0.mk (below_step Z78 hb); have n2_ := Aside0.mk (hbox); have n3_ := Aside0.mk ((Z164 : w.heap.size ≤ gb401)); have n4_ := Aside0.mk ((Z164 : w.heap.size ≤ gb401)); have n5_ := Aside0.mk ((Z172 : gb397 ≠ gb401)); have n6_ := Aside0.mk ((Z173 : gb401 ≠ gb397)); clear BK397; clear HB; have BK397 := n0_; have HB := n1_; have BK401 := n2_; have GW401 := n3_; have GE401 := n4_; have NB397_401 := n5_; have NB401_397 := n6_; clear n0_ n1_ n2_ n3_ n4_ n5_ n6_; clear hb hbox hg; have hnb29 := NB401_397.out; have hnc29 := NB397_401.out; have hcz30_0 : w28.cell? ⟨gb401, 0, none⟩ = some (.int .i64 0) := (blk_cell BK401.out 0).trans rfl; have hcz30_1 : w28.cell? ⟨gb401, 1, none⟩ = some (.int .i64 0) := (blk_cell BK401.out 1).trans rfl; have hfz30_0 := blk_frozen BK401.out 0; have hfz30_1 := blk_frozen BK401.out 1; have hcz31_0 : w28.cell? ⟨gb397, 0, none⟩ = some (.int .i64 0) := (blk_cell BK397.out 0).trans rfl; have hcz31_1 : w28.cell? ⟨gb397, 1, none⟩ = some (.int .i64 0) := (blk_cell BK397.out 1).trans rfl; have hfz31_0 := blk_frozen BK397.out 0; have hfz31_1 := blk_frozen BK397.out 1))
      refine bodyPost_ret (results_ct rfl _ _ gb397 43 #[.int .i64 0, .int .i64 0] (0, 0) _ rfl (by (with_reducible repeat (first | refine blk_drewN ?_ _ | refine blk_drew ?_ | refine blk_alloc ?_ _)); refine blk_put (cs := #[.int .i64 0, .int .i64 0]) ?_ 1 _ rfl; (with_reducible repeat (first | refine blk_drewN ?_ _ | refine blk_drew ?_ | refine blk_alloc ?_ _)); refine blk_put (cs := #[.int .i64 0, .int .i64 0]) ?_ 0 _ rfl; (with_reducible repeat (first | refine blk_drewN ?_ _ | refine blk_drew ?_ | refine blk_alloc ?_ _)); refine blk_far ?_ NB397_401.out _; (with_reducible repeat (first | refine blk_drewN ?_ _ | refine blk_drew ?_ | refine blk_alloc ?_ _)); refine blk_far ?_ NB397_401.out _; (with_reducible repeat (first | refine blk_drewN ?_ _ | refine blk_drew ?_ | refine blk_alloc ?_ _)); exact BK397.out) Tryd.underlying43 rfl (by kernel_rfl)) rfl ?_
      exact ⟨by first | rfl | (simp [errW_none, errW_some] <;> rfl) | (simp [*, errW_none, errW_some] <;> rfl), by repeat (first | (with_reducible first | exact HB.out | apply below_alloc | apply pw_below_drewN | apply below_drew1 | refine below_set ?_ GE397.out | refine below_set ?_ GE401.out) | exact HB.out)⟩
    ·rw [if_neg c9] at H
     exact absurd H (by simp)

/-! ### impl_LinSays: function 27 -/
def impl_LinSays.f (k : Nat) (a0 : ByteArray) : Option (Int × Int × Bool) := if 0 ≤ (a0.size : Int) then (if ((a0.size : Int) : Int).toNat ≤ 281474976710656 then ((spec_LinSays.f k a0).bind fun bt407 => (some (bt407.1, bt407.2.1, bt407.2.2))) else (none)) else (none)
theorem impl_LinSays.mono : ∀ a0 k, LeO (impl_LinSays.f k a0) (impl_LinSays.f (k + 1) a0) := by
 intro a0 k
 unfold impl_LinSays.f
 repeat' first
   | (with_reducible exact spec_LinSays.mono _ _)
   | (with_reducible exact LeO.refl _)
   | (with_reducible exact LeO.none _)
   | (with_reducible refine LeO.ite ?_ ?_)
   | (with_reducible refine LeO.bind ?_ (fun _ => ?_))
   | exact spec_LinSays.mono _ _
   | exact LeO.none _
   | refine LeO.ite ?_ ?_
   | refine LeO.bind ?_ (fun _ => ?_)
-- BY HAND
open Go.Proofs.YtlofgoahgnllkaaDoor.Ends
theorem spec_ins (a p : Int) : spec_EndInside.f a p = some (insB a p) := by
 simp only [spec_EndInside.f, spec_l1In.f, insB]
 by_cases h1 : a ≥ 1 <;> by_cases h2 : a ≤ 9 <;> by_cases h3 : p ≥ 1 <;> by_cases h4 : p ≤ 999 <;> simp [h1, h2, h3, h4] <;> omega
theorem impl_ins (a p : Int) : impl_EndInside.f a p = some (insB a p) := by
 simp only [impl_EndInside.f, impl_inside.f, impl_portOk.f, impl_within.f, insB]
 by_cases h1 : a ≥ 1 <;> by_cases h2 : a ≤ 9 <;> by_cases h3 : p ≥ 1 <;> by_cases h4 : p ≤ 999 <;> simp [h1, h2, h3, h4] <;> omega
theorem inC : Ends.InC := fun a p W => impl_EndInside.calls a p (insB a p) W (impl_ins a p)
theorem says_part (s : ByteArray) (hs : s.size ≤ 281474976710656) (k : Nat) (x y : Int) (b : Bool) (h : spec_LinSays.f k s = some (x, y, b)) : Ends.LS s x y b := by
 have hno : ∀ {x y : Int} {b : Bool}, (∀ a p, ¬ Ends.IsPort s a p) → some ((0 : Int), (0 : Int), false) = some (x, y, b) → Ends.LS s x y b := fun hn e => by
  simp only [Option.some.injEq, Prod.mk.injEq] at e
  obtain ⟨rfl, rfl, rfl⟩ := e
  exact .inr ⟨fun a p hp => absurd hp (hn a p), rfl, rfl, rfl⟩
 have hj : ∀ t, spec_LinSays.j0 k s t = some (x, y, b) → (t = false → Ends.isPre s = true) → (t = true → Ends.isPre s = false) → Ends.LS s x y b := fun t hj h0 h1 => by
  cases k with
  | zero => rw [spec_LinSays.j0] at hj; cases hj
  | succ k =>
   rw [spec_LinSays.j0] at hj
   cases t with
   | true =>
    rw [if_pos rfl] at hj
    exact hno (fun a p hp => by have := ((Ends.isPort_iff s a p).1 hp).1; rw [h1 rfl] at this; cases this) hj
   | false =>
    rw [if_neg (by decide)] at hj
    have h5 := isPre_size (h0 rfl)
    rw [if_pos (by omega)] at hj
    obtain ⟨⟨u, v, c⟩, e1, e2⟩ := Option.bind_eq_some_iff.mp hj
    rcases read_part _ (ext5 s _ hs) k u v c e1 with ⟨hi, rfl⟩ | ⟨hn, rfl, rfl, rfl⟩
    ·have hp : Ends.IsPort s u v := (Ends.isPort_iff s u v).2 ⟨h0 rfl, hi⟩
     rw [if_pos rfl, spec_ins, Option.bind_some] at e2
     by_cases ci : insB u v = true
     ·rw [if_pos ci] at e2
      simp only [Option.some.injEq, Prod.mk.injEq] at e2
      obtain ⟨rfl, rfl, rfl⟩ := e2
      exact .inl ⟨hp, ci, rfl⟩
     ·rw [if_neg ci] at e2
      simp only [Option.some.injEq, Prod.mk.injEq] at e2
      obtain ⟨rfl, rfl, rfl⟩ := e2
      refine .inr ⟨fun a p h => ?_, rfl, rfl, rfl⟩
      obtain ⟨e3, e4⟩ := Ends.port_one hp h
      rw [← e3, ← e4]
      exact eq_false_of_ne_true ci
    ·rw [if_neg (by decide)] at e2
     exact hno (fun a p hp => hn a p ((Ends.isPort_iff s a p).1 hp).2) e2
 unfold spec_LinSays.f at h
 by_cases c : (s.size : Int) < 5
 ·rw [if_pos c] at h
  refine hj true h (fun e => by cases e) (fun _ => ?_)
  cases hp : Ends.isPre s with
  | false => rfl
  | true => have := isPre_size hp; omega
 ·rw [if_neg c, if_pos (by omega), if_pos (by omega), pre_eq] at h
  exact hj _ h (fun e => by simpa using e) (fun e => by simpa using e)
theorem ls_one {s : ByteArray} {x y x' y' : Int} {b b' : Bool} (h : Ends.LS s x y b) (h' : Ends.LS s x' y' b') : x' = x ∧ y' = y ∧ b' = b := by
 rcases h with ⟨h1, i1, rfl⟩ | ⟨h1, rfl, rfl, rfl⟩ <;> rcases h' with ⟨g1, j1, rfl⟩ | ⟨g1, rfl, rfl, rfl⟩
 ·obtain ⟨e1, e2⟩ := Ends.port_one h1 g1
  exact ⟨e1.symm, e2.symm, rfl⟩
 ·rw [g1 x y h1] at i1; cases i1
 ·rw [h1 x' y' g1] at j1; cases j1
 ·exact ⟨rfl, rfl, rfl⟩
theorem impl_LinSays.calls (k : Nat) (a0 : ByteArray) (r1 : Int) (r2 : Int) (r3 : Bool) (w : World) (h : impl_LinSays.f k a0 = some (r1, r2, r3)) (hL_ : Ends.LErr w) :
  Calls Tryd.prog 27 #[.string a0] w fun e w' => e = .returned (.tuple #[.agg #[.int .i64 r1, .int .i64 r2], .bool r3]) ∧ Below w.heap.size w w' := by
 unfold impl_LinSays.f at h
 rw [if_pos (by omega)] at h
 by_cases hs : ((a0.size : Int) : Int).toNat ≤ 281474976710656
 ·rw [if_pos hs] at h
  obtain ⟨⟨t1, t2, t3⟩, h1, h2⟩ := Option.bind_eq_some_iff.mp h
  simp only [Option.some.injEq, Prod.mk.injEq] at h2
  obtain ⟨rfl, rfl, rfl⟩ := h2
  have hed := says_part a0 (by omega) k t1 t2 t3 h1
  refine (Ends.linsays_calls a0 w (by omega) hL_ okC inC).mono ?_
  rintro e w' ⟨x, y, b, h3, rfl, hb⟩
  obtain ⟨rfl, rfl, rfl⟩ := ls_one hed h3
  exact ⟨rfl, hb⟩
 ·rw [if_neg hs] at h; cases h

/-! ### laws_FnBakLine: function 5 -/
mutual
def laws_FnBakLine.j0 : Nat → ByteArray → ByteArray → Bool → List (S43) → Option (Bool)
 | 0, _, _, _, _ => none
 | k + 1, x4, x5, x35, x415000 => if x35 = true then (if x5.toList = ([] : List UInt8) then ((laws_haOk.f k).bind fun t419 => (some t419)) else (some false)) else ((impl_LinBox.f k x4).bind fun bt420 => ((impl_MapEnd.f x415000 bt420.1).bind fun bt422 => (if bt420.2 = true then (laws_FnBakLine.j1 k x4 x5 (!bt422.2.2) bt422.1 bt422.2.1) else (laws_FnBakLine.j1 k x4 x5 true bt422.1 bt422.2.1))))
def laws_FnBakLine.j1 : Nat → ByteArray → ByteArray → Bool → Int → Int → Option (Bool)
 | 0, _, _, _, _, _ => none
 | k + 1, x4, x5, x57, x426000, x426001 => if x57 = true then (if x5.toList = x4.toList then ((laws_haOk.f k).bind fun t426 => (some t426)) else (some false)) else ((impl_LinSays.f k x5).bind fun bt427 => (if bt427.2.2 = true then (if (bt427.1 == x426000 && (bt427.2.1 == x426001)) = true then ((impl_LinOk.f k x5).bind fun t431 => (some t431)) else (some false)) else (some false)))
end
def laws_FnBakLine.f (k : Nat) (l0 : List Int) : Option (Bool) := if (l0.length : Int) > 1048576 then (some true) else ((spec_DrawBakLine.f k l0).bind fun bt410 => ((impl_BakLine.f k bt410.1 bt410.2).bind fun t415 => ((spec_BakLine.f k bt410.1 bt410.2).bind fun t416 => (if t415.toList = t416.toList then ((spec_MapOk.f k bt410.1).bind fun t417 => (if t417 = true then ((spec_LinOk.f k bt410.2).bind fun t418 => (laws_FnBakLine.j0 k bt410.2 t415 (!t418) bt410.1)) else (laws_FnBakLine.j0 k bt410.2 t415 true bt410.1))) else (some false)))))
theorem laws_FnBakLine.mono_l : ∀ k, (∀ y0 y1 y2 y3, LeO (laws_FnBakLine.j0 k y0 y1 y2 y3) (laws_FnBakLine.j0 (k + 1) y0 y1 y2 y3)) ∧ (∀ y0 y1 y2 y3 y4, LeO (laws_FnBakLine.j1 k y0 y1 y2 y3 y4) (laws_FnBakLine.j1 (k + 1) y0 y1 y2 y3 y4))
 | 0 => ⟨fun _ _ _ _ r h => by simp [laws_FnBakLine.j0] at h, fun _ _ _ _ _ r h => by simp [laws_FnBakLine.j1] at h⟩
 | k + 1 => by
  obtain ⟨ih0, ih1⟩ := laws_FnBakLine.mono_l k
  refine ⟨?_, ?_⟩
  ·intro y0 y1 y2 y3
   unfold laws_FnBakLine.j0
   repeat' first
   | (with_reducible exact ih0 _ _ _ _)
   | (with_reducible exact ih1 _ _ _ _ _)
   | (with_reducible exact impl_BakLine.mono _ _ _)
   | (with_reducible exact impl_LinBox.mono _ _)
   | (with_reducible exact impl_LinOk.mono _ _)
   | (with_reducible exact impl_LinSays.mono _ _)
   | (with_reducible exact laws_haOk.mono _)
   | (with_reducible exact spec_BakLine.mono _ _ _)
   | (with_reducible exact spec_DrawBakLine.mono _ _)
   | (with_reducible exact spec_LinOk.mono _ _)
   | (with_reducible exact spec_MapOk.mono _ _)
   | (with_reducible exact LeO.refl _)
   | (with_reducible exact LeO.none _)
   | (with_reducible refine LeO.ite ?_ ?_)
   | (with_reducible refine LeO.bind ?_ (fun _ => ?_))
   | exact ih0 _ _ _ _
   | exact ih1 _ _ _ _ _
   | exact impl_BakLine.mono _ _ _
   | exact impl_LinBox.mono _ _
   | exact impl_LinOk.mono _ _
   | exact impl_LinSays.mono _ _
   | exact laws_haOk.mono _
   | exact spec_BakLine.mono _ _ _
   | exact spec_DrawBakLine.mono _ _
   | exact spec_LinOk.mono _ _
   | exact spec_MapOk.mono _ _
   | exact LeO.none _
   | refine LeO.ite ?_ ?_
   | refine LeO.bind ?_ (fun _ => ?_)
  ·intro y0 y1 y2 y3 y4
   unfold laws_FnBakLine.j1
   repeat' first
   | (with_reducible exact ih0 _ _ _ _)
   | (with_reducible exact ih1 _ _ _ _ _)
   | (with_reducible exact impl_BakLine.mono _ _ _)
   | (with_reducible exact impl_LinBox.mono _ _)
   | (with_reducible exact impl_LinOk.mono _ _)
   | (with_reducible exact impl_LinSays.mono _ _)
   | (with_reducible exact laws_haOk.mono _)
   | (with_reducible exact spec_BakLine.mono _ _ _)
   | (with_reducible exact spec_DrawBakLine.mono _ _)
   | (with_reducible exact spec_LinOk.mono _ _)
   | (with_reducible exact spec_MapOk.mono _ _)
   | (with_reducible exact LeO.refl _)
   | (with_reducible exact LeO.none _)
   | (with_reducible refine LeO.ite ?_ ?_)
   | (with_reducible refine LeO.bind ?_ (fun _ => ?_))
   | exact ih0 _ _ _ _
   | exact ih1 _ _ _ _ _
   | exact impl_BakLine.mono _ _ _
   | exact impl_LinBox.mono _ _
   | exact impl_LinOk.mono _ _
   | exact impl_LinSays.mono _ _
   | exact laws_haOk.mono _
   | exact spec_BakLine.mono _ _ _
   | exact spec_DrawBakLine.mono _ _
   | exact spec_LinOk.mono _ _
   | exact spec_MapOk.mono _ _
   | exact LeO.none _
   | refine LeO.ite ?_ ?_
   | refine LeO.bind ?_ (fun _ => ?_)
theorem laws_FnBakLine.mono : ∀ a0 k, LeO (laws_FnBakLine.f k a0) (laws_FnBakLine.f (k + 1) a0) := by
 intro a0 k
 obtain ⟨ih0, ih1⟩ := laws_FnBakLine.mono_l k
 unfold laws_FnBakLine.f
 repeat' first
   | (with_reducible exact ih0 _ _ _ _)
   | (with_reducible exact ih1 _ _ _ _ _)
   | (with_reducible exact impl_BakLine.mono _ _ _)
   | (with_reducible exact impl_LinBox.mono _ _)
   | (with_reducible exact impl_LinOk.mono _ _)
   | (with_reducible exact impl_LinSays.mono _ _)
   | (with_reducible exact laws_haOk.mono _)
   | (with_reducible exact spec_BakLine.mono _ _ _)
   | (with_reducible exact spec_DrawBakLine.mono _ _)
   | (with_reducible exact spec_LinOk.mono _ _)
   | (with_reducible exact spec_MapOk.mono _ _)
   | (with_reducible exact LeO.refl _)
   | (with_reducible exact LeO.none _)
   | (with_reducible refine LeO.ite ?_ ?_)
   | (with_reducible refine LeO.bind ?_ (fun _ => ?_))
   | exact ih0 _ _ _ _
   | exact ih1 _ _ _ _ _
   | exact impl_BakLine.mono _ _ _
   | exact impl_LinBox.mono _ _
   | exact impl_LinOk.mono _ _
   | exact impl_LinSays.mono _ _
   | exact laws_haOk.mono _
   | exact spec_BakLine.mono _ _ _
   | exact spec_DrawBakLine.mono _ _
   | exact spec_LinOk.mono _ _
   | exact spec_MapOk.mono _ _
   | exact LeO.none _
   | refine LeO.ite ?_ ?_
   | refine LeO.bind ?_ (fun _ => ?_)
set_option maxHeartbeats 8000000 in
set_option maxRecDepth 100000 in
theorem laws_FnBakLine.calls (k : Nat) (A0 : Option Addr) (c0 : Nat) (l0 : List Int) (r : Bool) (w : World) (hr0 : Kd.C (Kd.int .u8) w A0 l0.length l0) (hc0 : l0.length ≤ c0) (h : laws_FnBakLine.f k l0 = some r) (hL_ : Ends.LErr w) :
  Calls Tryd.prog 5 #[.slice A0 l0.length c0] w fun e w' => e = .returned (.bool r) ∧ Below w.heap.size w w' := by
 have HL_ := Aside0.mk hL_
 clear hL_
 have hu29 := Tryd.underlying29
 have hu43 := Tryd.underlying43
 have HR0 := Aside0.mk hr0
 have HC0 := Aside0.mk hc0
 clear hr0 hc0
 have HB := Aside0.mk (Below.refl w.heap.size w)
 have H : (if (l0.length : Int) > 1048576 then (some true) else ((spec_DrawBakLine.f k l0).bind fun bt410 => ((impl_BakLine.f k bt410.1 bt410.2).bind fun t415 => ((spec_BakLine.f k bt410.1 bt410.2).bind fun t416 => (if t415.toList = t416.toList then ((spec_MapOk.f k bt410.1).bind fun t417 => (if t417 = true then ((spec_LinOk.f k bt410.2).bind fun t418 => (laws_FnBakLine.j0 k bt410.2 t415 (!t418) bt410.1)) else (laws_FnBakLine.j0 k bt410.2 t415 true bt410.1))) else (some false)))))) = some r := h
 clear h
 by_cases c2 : (l0.length : Int) > 1048576
 ·rw [if_pos c2] at H
  have c2b0 : decide (1048576 < (l0.length : Int)) = true := decide_eq_true c2
  have c2b1 : decide (1048576 < l0.length) = true := decide_eq_true (by omega)
  clear c2
  obtain rfl := Option.some.inj H
  go_enter Tryd.func5, Tryd.ntmps5
  go_wp2
  go_ret
  exact ⟨by first | rfl | (simp [errW_none, errW_some] <;> rfl) | (simp [*, errW_none, errW_some] <;> rfl), by repeat (first | (with_reducible first | exact HB.out | apply below_alloc | apply pw_below_drewN | apply below_drew1) | exact HB.out)⟩
 ·rw [if_neg c2] at H
  have c2b0 : decide (1048576 < (l0.length : Int)) = false := decide_eq_false c2
  have c2b1 : decide (1048576 < l0.length) = false := decide_eq_false (by omega)
  clear c2
  replace H := Option.bind_eq_some_iff.mp H
  obtain ⟨⟨t410, t413⟩, A30, H⟩ := H
  replace H : ((impl_BakLine.f k t410 t413).bind fun t415 => ((spec_BakLine.f k t410 t413).bind fun t416 => (if t415.toList = t416.toList then ((spec_MapOk.f k t410).bind fun t417 => (if t417 = true then ((spec_LinOk.f k t413).bind fun t418 => (laws_FnBakLine.j0 k t413 t415 (!t418) t410)) else (laws_FnBakLine.j0 k t413 t415 true t410))) else (some false)))) = some r := H
  have A3 := Aside0.mk A30
  clear A30
  replace H := Option.bind_eq_some_iff.mp H
  obtain ⟨t415, A40, H⟩ := H
  replace H : ((spec_BakLine.f k t410 t413).bind fun t416 => (if t415.toList = t416.toList then ((spec_MapOk.f k t410).bind fun t417 => (if t417 = true then ((spec_LinOk.f k t413).bind fun t418 => (laws_FnBakLine.j0 k t413 t415 (!t418) t410)) else (laws_FnBakLine.j0 k t413 t415 true t410))) else (some false))) = some r := H
  have A4 := Aside0.mk A40
  clear A40
  replace H := Option.bind_eq_some_iff.mp H
  obtain ⟨t416, A50, H⟩ := H
  replace H : (if t415.toList = t416.toList then ((spec_MapOk.f k t410).bind fun t417 => (if t417 = true then ((spec_LinOk.f k t413).bind fun t418 => (laws_FnBakLine.j0 k t413 t415 (!t418) t410)) else (laws_FnBakLine.j0 k t413 t415 true t410))) else (some false)) = some r := H
  have A5 := Aside0.mk A50
  clear A50
  by_cases c6 : t415.toList = t416.toList
  ·rw [if_pos c6] at H
   have c6b0 : (t415.toList == t416.toList) = true := beq_iff_eq.mpr c6
   have c6b1 : (t415.toList != t416.toList) = false := bne_eq_false_iff_eq.mpr c6
   clear c6
   have HC7 := Aside0.mk H
   clear H
   go_enter Tryd.func5, Tryd.ntmps5
   go_upto_region 7 with (first | ((with_reducible refine gate_callee (f := 21) rfl ?_); refine goesL_ (some 17) rfl rfl Tryd.func21 (by kernel_rfl) rfl #[.slice A0 l0.length c0] rfl Z55 ?_; (with_reducible refine (spec_DrawBakLine.calls k _ _ l0 t410 t413 _ ?side1 ?side2 A3.out).mono ?_); (case side1 => exact Z59); (case side2 => exact HC0.out); rintro e w8 ⟨v411, rfl, ho0, hb⟩; refine ⟨_, rfl, ?_⟩; have n0_ := Aside0.mk (Kd.R_lower ho0 (below_size Z51)); have n1_ := Aside0.mk (below_step Z51 hb); clear HB; have HO412 := n0_; have HB := n1_; clear n0_ n1_; (try clear hb); (try clear ho0)) | ((with_reducible refine gate_dst (N := 3) rfl ?_); refine box_event ?hg (N := 3) ?hd (cs := #[.slice none 0 0]) (t := 29) ?hr ?_; (case hd => rfl); (case hg => rfl); (case hr => first | (go_simp; done) | (go_simp; rfl)); intro gb414 hg w9 hbox hb; have n0_ := Aside0.mk (Kd.R_below Z11 hb); have n1_ := Aside0.mk (below_step Z51 hb); have n2_ := Aside0.mk (hbox); have n3_ := Aside0.mk ((Z160 : w.heap.size ≤ gb414)); have n4_ := Aside0.mk ((Z160 : w.heap.size ≤ gb414)); clear HO412; clear HB; have HO412 := n0_; have HB := n1_; have BK414 := n2_; have GW414 := n3_; have GE414 := n4_; clear n0_ n1_ n2_ n3_ n4_; clear hb hbox hg; obtain ⟨Ao10, co10, eo10⟩ := Kd.R_slice HO412.out; subst eo10; have hcz11_0 : w9.cell? ⟨gb414, 0, none⟩ = some (.slice none 0 0) := (blk_cell BK414.out 0).trans rfl; have hfz11_0 := blk_frozen BK414.out 0) | ((with_reducible refine gate_callee (f := 19) rfl ?_); refine goesL_ (some 22) rfl rfl Tryd.func19 (by kernel_rfl) rfl #[.agg #[.slice Ao10 t410.length co10], .string t413] rfl Z55 ?_; (with_reducible refine (impl_BakLine.calls k _ _ t410 t413 t415 _ ?side1 ?side2 A4.out ?sideL_).mono ?_); (case sideL_ => exact (Ends.LErr.below HL_.out Z124)); (case side1 => refine (Kd.R_reads' (e := 43) (base := w.heap.size) (ok := fun k_ => True) (n := t410.length) (c := co10) ?_).2.2; exact Z134); (case side2 => exact (Kd.R_reads' HO412.out).2.1); rintro e w12 ⟨rfl, hb⟩; refine ⟨_, rfl, ?_⟩; have n0_ := Aside0.mk (Kd.R_below Z134 hb); have n1_ := Aside0.mk (blk_below (g := gb414) (o := .cells #[.slice Ao10 t410.length co10] 29 (0, 0)) Z146 hb); have n2_ := Aside0.mk (below_step Z79 hb); clear HO412; clear BK414; clear HB; have HO412 := n0_; have BK414 := n1_; have HB := n2_; clear n0_ n1_ n2_; (try clear hb); have hcz13_0 : w12.cell? ⟨gb414, 0, none⟩ = some (.slice Ao10 t410.length co10) := (blk_cell BK414.out 0).trans rfl; have hfz13_0 := blk_frozen BK414.out 0) | ((with_reducible refine gate_callee (f := 17) rfl ?_); refine goesL_ (some 26) rfl rfl Tryd.func17 (by kernel_rfl) rfl #[.agg #[.slice Ao10 t410.length co10], .string t413] rfl Z55 ?_; (with_reducible refine (spec_BakLine.calls k _ _ t410 t413 t416 _ ?side1 ?side2 A5.out).mono ?_); (case side1 => exact Z86); (case side2 => exact (Kd.R_reads' HO412.out).2.1); rintro e w14 ⟨rfl, hb⟩; refine ⟨_, rfl, ?_⟩; have n0_ := Aside0.mk (Kd.R_below Z11 hb); have n1_ := Aside0.mk (blk_below (g := gb414) (o := .cells #[.slice Ao10 t410.length co10] 29 (0, 0)) Z47 hb); have n2_ := Aside0.mk (below_step Z79 hb); clear HO412; clear BK414; clear HB; have HO412 := n0_; have BK414 := n1_; have HB := n2_; clear n0_ n1_ n2_; (try clear hb)))
   (try simp only [Act.put, List.setIfInBounds_toArray, List.set_cons_zero, List.set_cons_succ])
   go_cut [35] (fun v35 wc => ∃ (kq : Nat) (x35_6 : Bool), v35 = .bool x35_6 ∧ Aside0 (laws_FnBakLine.j0 kq t413 t415 x35_6 t410 = some r) ∧ Aside0 (kq ≤ k) ∧ Aside0 (Kd.R k43 43 wc w.heap.size (fun _ => True) (.slice Ao10 t410.length co10) t410) ∧ Aside0 (wc.heap[gb414]? = some (.cells #[(.slice Ao10 t410.length co10)] 29 (0, 0))) ∧ Aside0 (Below w.heap.size w wc))
   case first =>
    have H := HC7.out
    clear HC7
    replace H := Option.bind_eq_some_iff.mp H
    obtain ⟨t417, A150, H⟩ := H
    replace H : (if t417 = true then ((spec_LinOk.f k t413).bind fun t418 => (laws_FnBakLine.j0 k t413 t415 (!t418) t410)) else (laws_FnBakLine.j0 k t413 t415 true t410)) = some r := H
    have A15 := Aside0.mk A150
    clear A150
    by_cases c16 : t417 = true
    ·subst c16
     have H1 : ((spec_LinOk.f k t413).bind fun t418 => (laws_FnBakLine.j0 k t413 t415 (!t418) t410)) = some r := by rw [if_pos rfl] at H; exact H
     clear H
     have H := H1
     clear H1
     replace H := Option.bind_eq_some_iff.mp H
     obtain ⟨t418, A170, H⟩ := H
     replace H : (laws_FnBakLine.j0 k t413 t415 (!t418) t410) = some r := H
     have A17 := Aside0.mk A170
     clear A170
     have H' := Aside0.mk H
     clear H
     have hcz18_0 : w14.cell? ⟨gb414, 0, none⟩ = some (.slice Ao10 t410.length co10) := (blk_cell BK414.out 0).trans rfl
     have hfz18_0 := blk_frozen BK414.out 0
     go_wp2_with (first | ((with_reducible refine gate_callee (f := 22) rfl ?_); refine goesL_ (some 29) rfl rfl Tryd.func22 (by kernel_rfl) rfl #[.agg #[.slice Ao10 t410.length co10]] rfl Z55 ?_; (with_reducible refine (spec_MapOk.calls k _ _ t410 true _ ?side1 ?side2 A15.out).mono ?_); (case side1 => exact Z86); (case side2 => exact (Kd.R_reads' HO412.out).2.1); rintro e w19 ⟨rfl, hb⟩; refine ⟨_, rfl, ?_⟩; have n0_ := Aside0.mk (Kd.R_below Z11 hb); have n1_ := Aside0.mk (blk_below (g := gb414) (o := .cells #[.slice Ao10 t410.length co10] 29 (0, 0)) Z47 hb); have n2_ := Aside0.mk (below_step Z79 hb); clear HO412; clear BK414; clear HB; have HO412 := n0_; have BK414 := n1_; have HB := n2_; clear n0_ n1_ n2_; (try clear hb)) | (go_at_call 23; (with_reducible refine (spec_LinOk.calls k t413 t418 _ A17.out).mono ?_); rintro e w' ⟨rfl, ⟨nd, rfl⟩⟩))
     go_meet
     case rel => exact ⟨_, (!t418), Z0, H', ⟨by first | omega | exact Nat.le_refl _⟩, ⟨by (with_reducible repeat (first | apply Kd.R_alloc | apply Kd.R_drewN | apply Kd.R_drew)); exact HO412.out⟩, ⟨by (with_reducible repeat (first | refine blk_drewN ?_ _ | refine blk_drew ?_ | refine blk_alloc ?_ _)); exact BK414.out⟩, ⟨by repeat (first | (with_reducible first | exact HB.out | apply below_alloc | apply pw_below_drewN | apply below_drew1 | refine below_set ?_ GE414.out) | exact HB.out)⟩⟩
    ·replace c16 := Bool.eq_false_iff.mpr c16
     subst c16
     have H1 : (laws_FnBakLine.j0 k t413 t415 true t410) = some r := by rw [if_neg (show ¬ (false = true) by decide)] at H; exact H
     clear H
     have H := H1
     clear H1
     have H' := Aside0.mk H
     clear H
     have hcz20_0 : w14.cell? ⟨gb414, 0, none⟩ = some (.slice Ao10 t410.length co10) := (blk_cell BK414.out 0).trans rfl
     have hfz20_0 := blk_frozen BK414.out 0
     go_wp2_with (first | ((with_reducible refine gate_callee (f := 22) rfl ?_); refine goesL_ (some 29) rfl rfl Tryd.func22 (by kernel_rfl) rfl #[.agg #[.slice Ao10 t410.length co10]] rfl Z55 ?_; (with_reducible refine (spec_MapOk.calls k _ _ t410 false _ ?side1 ?side2 A15.out).mono ?_); (case side1 => exact Z86); (case side2 => exact (Kd.R_reads' HO412.out).2.1); rintro e w21 ⟨rfl, hb⟩; refine ⟨_, rfl, ?_⟩; have n0_ := Aside0.mk (Kd.R_below Z11 hb); have n1_ := Aside0.mk (blk_below (g := gb414) (o := .cells #[.slice Ao10 t410.length co10] 29 (0, 0)) Z47 hb); have n2_ := Aside0.mk (below_step Z79 hb); clear HO412; clear BK414; clear HB; have HO412 := n0_; have BK414 := n1_; have HB := n2_; clear n0_ n1_ n2_; (try clear hb)))
     go_meet
     case rel => exact ⟨_, (true), Z0, H', ⟨by first | omega | exact Nat.le_refl _⟩, ⟨by (with_reducible repeat (first | apply Kd.R_alloc | apply Kd.R_drewN | apply Kd.R_drew)); exact HO412.out⟩, ⟨by (with_reducible repeat (first | refine blk_drewN ?_ _ | refine blk_drew ?_ | refine blk_alloc ?_ _)); exact BK414.out⟩, ⟨by repeat (first | (with_reducible first | exact HB.out | apply below_alloc | apply pw_below_drewN | apply below_drew1 | refine below_set ?_ GE414.out) | exact HB.out)⟩⟩
   case rest =>
    clear HC7
    try clear c1
    try clear c2
    try clear c2b0
    try clear c2b1
    try clear p2
    try clear c5
    try clear c6
    try clear c6b0
    try clear c6b1
    try clear c16
    try clear c17
    try clear c19
    try clear c21
    try clear hcz11_0
    try clear hcz13_0
    try clear hcz18_0
    try clear hcz20_0
    try clear hfz11_0
    try clear hfz13_0
    try clear hfz18_0
    try clear hfz20_0
    obtain ⟨kq, x35_6, rfl, HA, HJ6, HO_415000, BK414, HB⟩ := hcut
    cases kq with
    | zero => exact absurd HA.out (by simp [laws_FnBakLine.j0])
    | succ kj6 =>
     have H := HA.out
     clear HA
     simp only [laws_FnBakLine.j0] at H
     by_cases c22 : x35_6 = true
     ·subst c22
      have H1 : (if t415.toList = ([] : List UInt8) then ((laws_haOk.f kj6).bind fun t419 => (some t419)) else (some false)) = some r := by rw [if_pos rfl] at H; exact H
      clear H
      have H := H1
      clear H1
      by_cases c23 : t415.toList = ([] : List UInt8)
      ·rw [if_pos c23] at H
       have c23b0 : (t415.toList == ([] : List UInt8)) = true := beq_iff_eq.mpr c23
       have c23b1 : (t415.toList != ([] : List UInt8)) = false := bne_eq_false_iff_eq.mpr c23
       clear c23
       replace H := Option.bind_eq_some_iff.mp H
       obtain ⟨t419, A240, H⟩ := H
       replace H : (some t419) = some r := H
       have A24 := Aside0.mk A240
       clear A240
       obtain rfl := Option.some.inj H
       go_wp2_with (first | (go_at_call 24; (with_reducible refine (laws_haOk.calls kj6  t419 _ A24.out).mono ?_); rintro e w25 ⟨rfl, hb⟩; have n0_ := Aside0.mk (Kd.R_below Z13 hb); have n1_ := Aside0.mk (blk_below (g := gb414) (o := .cells #[.slice Ao10 t410.length co10] 29 (0, 0)) Z47 hb); have n2_ := Aside0.mk (below_step Z79 hb); clear HO_415000; clear BK414; clear HB; have HO_415000 := n0_; have BK414 := n1_; have HB := n2_; clear n0_ n1_ n2_; (try clear hb)))
       go_ret
       exact ⟨by first | rfl | (simp [errW_none, errW_some] <;> rfl) | (simp [*, errW_none, errW_some] <;> rfl), by repeat (first | (with_reducible first | exact HB.out | apply below_alloc | apply pw_below_drewN | apply below_drew1 | refine below_set ?_ GE414.out) | exact HB.out)⟩
      ·rw [if_neg c23] at H
       have c23b0 : (t415.toList == ([] : List UInt8)) = false := beq_eq_false_iff_ne.mpr c23
       have c23b1 : (t415.toList != ([] : List UInt8)) = true := bne_iff_ne.mpr c23
       obtain rfl := Option.some.inj H
       go_wp2
       go_ret
       exact ⟨by first | rfl | (simp [errW_none, errW_some] <;> rfl) | (simp [*, errW_none, errW_some] <;> rfl), by repeat (first | (with_reducible first | exact HB.out | apply below_alloc | apply pw_below_drewN | apply below_drew1 | refine below_set ?_ GE414.out) | exact HB.out)⟩
     ·replace c22 := Bool.eq_false_iff.mpr c22
      subst c22
      have H1 : ((impl_LinBox.f kj6 t413).bind fun bt420 => ((impl_MapEnd.f t410 bt420.1).bind fun bt422 => (if bt420.2 = true then (laws_FnBakLine.j1 kj6 t413 t415 (!bt422.2.2) bt422.1 bt422.2.1) else (laws_FnBakLine.j1 kj6 t413 t415 true bt422.1 bt422.2.1)))) = some r := by rw [if_neg (show ¬ (false = true) by decide)] at H; exact H
      clear H
      have H := H1
      clear H1
      replace H := Option.bind_eq_some_iff.mp H
      obtain ⟨⟨t420, t421⟩, A260, H⟩ := H
      replace H : ((impl_MapEnd.f t410 t420).bind fun bt422 => (if t421 = true then (laws_FnBakLine.j1 kj6 t413 t415 (!bt422.2.2) bt422.1 bt422.2.1) else (laws_FnBakLine.j1 kj6 t413 t415 true bt422.1 bt422.2.1))) = some r := H
      have A26 := Aside0.mk A260
      clear A260
      replace H := Option.bind_eq_some_iff.mp H
      obtain ⟨⟨t422, t423, t424⟩, A270, H⟩ := H
      replace H : (if t421 = true then (laws_FnBakLine.j1 kj6 t413 t415 (!t424) t422 t423) else (laws_FnBakLine.j1 kj6 t413 t415 true t422 t423)) = some r := H
      have A27 := Aside0.mk A270
      clear A270
      have HC28 := Aside0.mk H
      clear H
      go_upto_region 11 with (first | ((with_reducible refine gate_callee (f := 25) rfl ?_); refine goesL_ (some 43) rfl rfl Tryd.func25 (by kernel_rfl) rfl #[.string t413] rfl Z55 ?_; (with_reducible refine (impl_LinBox.calls kj6 t413 t420 t421 _ A26.out ?sideL_).mono ?_); (case sideL_ => exact (Ends.LErr.below HL_.out Z124)); rintro e w29 ⟨rfl, hb⟩; refine ⟨_, rfl, ?_⟩; have n0_ := Aside0.mk (Kd.R_below Z13 hb); have n1_ := Aside0.mk (blk_below (g := gb414) (o := .cells #[.slice Ao10 t410.length co10] 29 (0, 0)) Z47 hb); have n2_ := Aside0.mk (below_step Z79 hb); clear HO_415000; clear BK414; clear HB; have HO_415000 := n0_; have BK414 := n1_; have HB := n2_; clear n0_ n1_ n2_; (try clear hb); have hcz30_0 : w29.cell? ⟨gb414, 0, none⟩ = some (.slice Ao10 t410.length co10) := (blk_cell BK414.out 0).trans rfl; have hfz30_0 := blk_frozen BK414.out 0) | ((with_reducible refine gate_callee (f := 26) rfl ?_); refine goesL_ (some 49) rfl rfl Tryd.func26 (by kernel_rfl) rfl #[.agg #[.slice Ao10 t410.length co10], .int .i64 t420] rfl Z55 ?_; (with_reducible refine (impl_MapEnd.calls _ _ t410 t420 t422 t423 t424 _ ?side1 ?side2 A27.out).mono ?_); (case side1 => repeat (first | exact (Kd.R_reads' HO_415000.out).2.2 | (with_reducible refine Kd.C_alloc ?_ _) | (with_reducible refine Kd.C_drewN ?_ _) | (with_reducible refine Kd.C_drew ?_))); (case side2 => exact (Kd.R_reads' HO_415000.out).2.1); rintro e w31 ⟨rfl, hb⟩; refine ⟨_, rfl, ?_⟩; have n0_ := Aside0.mk (Kd.R_below Z13 hb); have n1_ := Aside0.mk (blk_below (g := gb414) (o := .cells #[.slice Ao10 t410.length co10] 29 (0, 0)) Z47 hb); have n2_ := Aside0.mk (below_step Z79 hb); clear HO_415000; clear BK414; clear HB; have HO_415000 := n0_; have BK414 := n1_; have HB := n2_; clear n0_ n1_ n2_; (try clear hb)) | ((with_reducible refine gate_dst (N := 8) rfl ?_); refine box_event ?hg (N := 8) ?hd (cs := #[.int .i64 0, .int .i64 0]) (t := 43) ?hr ?_; (case hd => rfl); (case hg => rfl); (case hr => first | (go_simp; done) | (go_simp; rfl)); intro gb425 hg w32 hbox hb; have n0_ := Aside0.mk (Kd.R_below (Kd.R_elderB Z13 gb425 (Nat.le_of_eq hg.symm)) hb); have n1_ := Aside0.mk (blk_below (g := gb414) (o := .cells #[.slice Ao10 t410.length co10] 29 (0, 0)) Z47 hb); have n2_ := Aside0.mk (below_step Z79 hb); have n3_ := Aside0.mk (hbox); have n4_ := Aside0.mk ((by rw [hg]; exact (below_size Z79) : w.heap.size ≤ gb425)); have n5_ := Aside0.mk ((by rw [hg]; exact (below_size Z79) : w.heap.size ≤ gb425)); have n6_ := Aside0.mk ((Z192 : gb414 ≠ gb425)); have n7_ := Aside0.mk ((Z193 : gb425 ≠ gb414)); clear HO_415000; clear BK414; clear HB; have HO_415000 := n0_; have BK414 := n1_; have HB := n2_; have BK425 := n3_; have GW425 := n4_; have GE425 := n5_; have NB414_425 := n6_; have NB425_414 := n7_; clear n0_ n1_ n2_ n3_ n4_ n5_ n6_ n7_; clear hb hbox hg; have hnb33 := NB425_414.out; have hnc33 := NB414_425.out; have hcz34_0 : w32.cell? ⟨gb425, 0, none⟩ = some (.int .i64 0) := (blk_cell BK425.out 0).trans rfl; have hcz34_1 : w32.cell? ⟨gb425, 1, none⟩ = some (.int .i64 0) := (blk_cell BK425.out 1).trans rfl; have hfz34_0 := blk_frozen BK425.out 0; have hfz34_1 := blk_frozen BK425.out 1))
      (try simp only [Act.put, List.setIfInBounds_toArray, List.set_cons_zero, List.set_cons_succ])
      go_cut [57] (fun v57 wc => ∃ (kq : Nat) (x57_27 : Bool), v57 = .bool x57_27 ∧ Aside0 (laws_FnBakLine.j1 kq t413 t415 x57_27 t422 t423 = some r) ∧ Aside0 (kq ≤ kj6) ∧ Aside0 (Kd.R k43 43 wc w.heap.size (fun k_ => k_ ≠ gb425) (.slice Ao10 t410.length co10) t410) ∧ Aside0 (wc.heap[gb414]? = some (.cells #[(.slice Ao10 t410.length co10)] 29 (0, 0))) ∧ Aside0 (wc.heap[gb425]? = some (.cells #[.int .i64 t422, .int .i64 t423] 43 (0, 0))) ∧ Aside0 (Below w.heap.size w wc))
      case first =>
       have H := HC28.out
       clear HC28
       by_cases c35 : t421 = true
       ·subst c35
        have H1 : (laws_FnBakLine.j1 kj6 t413 t415 (!t424) t422 t423) = some r := by rw [if_pos rfl] at H; exact H
        clear H
        have H := H1
        clear H1
        have H' := Aside0.mk H
        clear H
        go_wp2
        go_meet
        case rel => exact ⟨_, (!t424), Z0, H', ⟨by have := HJ6.out; first | omega | exact Nat.le_refl _⟩, ⟨by (with_reducible repeat (first | apply Kd.R_alloc | apply Kd.R_drewN | apply Kd.R_drew)); exact Kd.R_mono (Kd.R_far (p := ⟨gb425, 1, none⟩) (Kd.R_far (p := ⟨gb425, 0, none⟩) (Kd.R_mono HO_415000.out (fun k_ hk => (⟨hk, hk.2⟩ : _ ∧ k_ ≠ gb425))) (fun _ hk => hk.2) (.int .i64 t422)) (fun _ hk => hk.2) (.int .i64 t423)) (fun _ hk => hk.1.2)⟩, ⟨by (with_reducible repeat (first | refine blk_drewN ?_ _ | refine blk_drew ?_ | refine blk_alloc ?_ _)); refine blk_far ?_ NB414_425.out _; (with_reducible repeat (first | refine blk_drewN ?_ _ | refine blk_drew ?_ | refine blk_alloc ?_ _)); refine blk_far ?_ NB414_425.out _; (with_reducible repeat (first | refine blk_drewN ?_ _ | refine blk_drew ?_ | refine blk_alloc ?_ _)); exact BK414.out⟩, ⟨by (with_reducible repeat (first | refine blk_drewN ?_ _ | refine blk_drew ?_ | refine blk_alloc ?_ _)); refine blk_put (cs := #[.int .i64 t422, .int .i64 0]) ?_ 1 _ rfl; (with_reducible repeat (first | refine blk_drewN ?_ _ | refine blk_drew ?_ | refine blk_alloc ?_ _)); refine blk_put (cs := #[.int .i64 0, .int .i64 0]) ?_ 0 _ rfl; (with_reducible repeat (first | refine blk_drewN ?_ _ | refine blk_drew ?_ | refine blk_alloc ?_ _)); exact BK425.out⟩, ⟨by repeat (first | (with_reducible first | exact HB.out | apply below_alloc | apply pw_below_drewN | apply below_drew1 | refine below_set ?_ GE414.out | refine below_set ?_ GE425.out) | exact HB.out)⟩⟩
       ·replace c35 := Bool.eq_false_iff.mpr c35
        subst c35
        have H1 : (laws_FnBakLine.j1 kj6 t413 t415 true t422 t423) = some r := by rw [if_neg (show ¬ (false = true) by decide)] at H; exact H
        clear H
        have H := H1
        clear H1
        have H' := Aside0.mk H
        clear H
        go_wp2
        go_meet
        case rel => exact ⟨_, (true), Z0, H', ⟨by have := HJ6.out; first | omega | exact Nat.le_refl _⟩, ⟨by (with_reducible repeat (first | apply Kd.R_alloc | apply Kd.R_drewN | apply Kd.R_drew)); exact Kd.R_mono (Kd.R_far (p := ⟨gb425, 1, none⟩) (Kd.R_far (p := ⟨gb425, 0, none⟩) (Kd.R_mono HO_415000.out (fun k_ hk => (⟨hk, hk.2⟩ : _ ∧ k_ ≠ gb425))) (fun _ hk => hk.2) (.int .i64 t422)) (fun _ hk => hk.2) (.int .i64 t423)) (fun _ hk => hk.1.2)⟩, ⟨by (with_reducible repeat (first | refine blk_drewN ?_ _ | refine blk_drew ?_ | refine blk_alloc ?_ _)); refine blk_far ?_ NB414_425.out _; (with_reducible repeat (first | refine blk_drewN ?_ _ | refine blk_drew ?_ | refine blk_alloc ?_ _)); refine blk_far ?_ NB414_425.out _; (with_reducible repeat (first | refine blk_drewN ?_ _ | refine blk_drew ?_ | refine blk_alloc ?_ _)); exact BK414.out⟩, ⟨by (with_reducible repeat (first | refine blk_drewN ?_ _ | refine blk_drew ?_ | refine blk_alloc ?_ _)); refine blk_put (cs := #[.int .i64 t422, .int .i64 0]) ?_ 1 _ rfl; (with_reducible repeat (first | refine blk_drewN ?_ _ | refine blk_drew ?_ | refine blk_alloc ?_ _)); refine blk_put (cs := #[.int .i64 0, .int .i64 0]) ?_ 0 _ rfl; (with_reducible repeat (first | refine blk_drewN ?_ _ | refine blk_drew ?_ | refine blk_alloc ?_ _)); exact BK425.out⟩, ⟨by repeat (first | (with_reducible first | exact HB.out | apply below_alloc | apply pw_below_drewN | apply below_drew1 | refine below_set ?_ GE414.out | refine below_set ?_ GE425.out) | exact HB.out)⟩⟩
      case rest =>
       clear HC28
       try clear c1
       try clear c2
       try clear c2b0
       try clear c2b1
       try clear p2
       try clear c3
       try clear c5
       try clear c6
       try clear c6b0
       try clear c6b1
       try clear c16
       try clear c17
       try clear c19
       try clear c21
       try clear c22
       try clear c23
       try clear c23b0
       try clear c23b1
       try clear c25
       try clear c26
       try clear c33
       try clear c35
       try clear hcz11_0
       try clear hcz13_0
       try clear hcz18_0
       try clear hcz20_0
       try clear hcz30_0
       try clear hcz34_0
       try clear hcz34_1
       try clear hfz11_0
       try clear hfz13_0
       try clear hfz18_0
       try clear hfz20_0
       try clear hfz30_0
       try clear hfz34_0
       try clear hfz34_1
       try clear p2
       obtain ⟨kq, x57_27, rfl, HA, HJ27, HO_415000, BK414, BK425, HB⟩ := hcut
       cases kq with
       | zero => exact absurd HA.out (by simp [laws_FnBakLine.j1])
       | succ kj27 =>
        have H := HA.out
        clear HA
        simp only [laws_FnBakLine.j1] at H
        by_cases c36 : x57_27 = true
        ·subst c36
         have H1 : (if t415.toList = t413.toList then ((laws_haOk.f kj27).bind fun t426 => (some t426)) else (some false)) = some r := by rw [if_pos rfl] at H; exact H
         clear H
         have H := H1
         clear H1
         by_cases c37 : t415.toList = t413.toList
         ·rw [if_pos c37] at H
          have c37b0 : (t415.toList == t413.toList) = true := beq_iff_eq.mpr c37
          have c37b1 : (t415.toList != t413.toList) = false := bne_eq_false_iff_eq.mpr c37
          clear c37
          replace H := Option.bind_eq_some_iff.mp H
          obtain ⟨t426, A380, H⟩ := H
          replace H : (some t426) = some r := H
          have A38 := Aside0.mk A380
          clear A380
          obtain rfl := Option.some.inj H
          go_wp2_with (first | (go_at_call 24; (with_reducible refine (laws_haOk.calls kj27  t426 _ A38.out).mono ?_); rintro e w39 ⟨rfl, hb⟩; have n0_ := Aside0.mk (Kd.R_below Z13 hb); have n1_ := Aside0.mk (blk_below (g := gb414) (o := .cells #[.slice Ao10 t410.length co10] 29 (0, 0)) Z47 hb); have n2_ := Aside0.mk (blk_below (g := gb425) (o := .cells #[.int .i64 t422, .int .i64 t423] 43 (0, 0)) Z48 hb); have n3_ := Aside0.mk (below_step Z110 hb); clear HO_415000; clear BK414; clear BK425; clear HB; have HO_415000 := n0_; have BK414 := n1_; have BK425 := n2_; have HB := n3_; clear n0_ n1_ n2_ n3_; (try clear hb)))
          go_ret
          exact ⟨by first | rfl | (simp [errW_none, errW_some] <;> rfl) | (simp [*, errW_none, errW_some] <;> rfl), by repeat (first | (with_reducible first | exact HB.out | apply below_alloc | apply pw_below_drewN | apply below_drew1 | refine below_set ?_ GE414.out | refine below_set ?_ GE425.out) | exact HB.out)⟩
         ·rw [if_neg c37] at H
          have c37b0 : (t415.toList == t413.toList) = false := beq_eq_false_iff_ne.mpr c37
          have c37b1 : (t415.toList != t413.toList) = true := bne_iff_ne.mpr c37
          obtain rfl := Option.some.inj H
          go_wp2
          go_ret
          exact ⟨by first | rfl | (simp [errW_none, errW_some] <;> rfl) | (simp [*, errW_none, errW_some] <;> rfl), by repeat (first | (with_reducible first | exact HB.out | apply below_alloc | apply pw_below_drewN | apply below_drew1 | refine below_set ?_ GE414.out | refine below_set ?_ GE425.out) | exact HB.out)⟩
        ·replace c36 := Bool.eq_false_iff.mpr c36
         subst c36
         have H1 : ((impl_LinSays.f kj27 t415).bind fun bt427 => (if bt427.2.2 = true then (if (bt427.1 == t422 && (bt427.2.1 == t423)) = true then ((impl_LinOk.f kj27 t415).bind fun t431 => (some t431)) else (some false)) else (some false))) = some r := by rw [if_neg (show ¬ (false = true) by decide)] at H; exact H
         clear H
         have H := H1
         clear H1
         replace H := Option.bind_eq_some_iff.mp H
         obtain ⟨⟨t427, t428, t429⟩, A400, H⟩ := H
         replace H : (if t429 = true then (if (t427 == t422 && (t428 == t423)) = true then ((impl_LinOk.f kj27 t415).bind fun t431 => (some t431)) else (some false)) else (some false)) = some r := H
         have A40 := Aside0.mk A400
         clear A400
         by_cases c41 : t429 = true
         ·subst c41
          have H1 : (if (t427 == t422 && (t428 == t423)) = true then ((impl_LinOk.f kj27 t415).bind fun t431 => (some t431)) else (some false)) = some r := by rw [if_pos rfl] at H; exact H
          clear H
          have H := H1
          clear H1
          by_cases c42 : (t427 == t422 && (t428 == t423)) = true
          ·rw [if_pos c42] at H
           have c42b0 : (t427 == t422 && (t428 == t423)) = true := c42
           (try (have c42b1 : decide (t427 = t422 && (t428 == t423)) = true := by simpa using c42))
           (try (have c42b2 : (t427 == t422 && (t428 == t423)) = true := by simpa using c42))
           clear c42
           replace H := Option.bind_eq_some_iff.mp H
           obtain ⟨t431, A430, H⟩ := H
           replace H : (some t431) = some r := H
           have A43 := Aside0.mk A430
           clear A430
           obtain rfl := Option.some.inj H
           go_wp2_with (first | ((with_reducible refine gate_callee (f := 27) rfl ?_); refine goesL_ (some 66) rfl rfl Tryd.func27 (by kernel_rfl) rfl #[.string t415] rfl Z55 ?_; (with_reducible refine (impl_LinSays.calls kj27 t415 t427 t428 true _ A40.out ?sideL_).mono ?_); (case sideL_ => exact (Ends.LErr.below HL_.out Z124)); rintro e w44 ⟨rfl, hb⟩; refine ⟨_, rfl, ?_⟩; have n0_ := Aside0.mk (Kd.R_below Z13 hb); have n1_ := Aside0.mk (blk_below (g := gb414) (o := .cells #[.slice Ao10 t410.length co10] 29 (0, 0)) Z47 hb); have n2_ := Aside0.mk (blk_below (g := gb425) (o := .cells #[.int .i64 t422, .int .i64 t423] 43 (0, 0)) Z48 hb); have n3_ := Aside0.mk (below_step Z110 hb); clear HO_415000; clear BK414; clear BK425; clear HB; have HO_415000 := n0_; have BK414 := n1_; have BK425 := n2_; have HB := n3_; clear n0_ n1_ n2_ n3_; (try clear hb)) | ((with_reducible refine gate_dst (N := 10) rfl ?_); refine box_event ?hg (N := 10) ?hd (cs := #[.int .i64 0, .int .i64 0]) (t := 43) ?hr ?_; (case hd => rfl); (case hg => rfl); (case hr => first | (go_simp; done) | (go_simp; rfl)); intro gb430 hg w45 hbox hb; have n0_ := Aside0.mk (Kd.R_below (Kd.R_elderB Z13 gb430 (Nat.le_of_eq hg.symm)) hb); have n1_ := Aside0.mk (blk_below (g := gb414) (o := .cells #[.slice Ao10 t410.length co10] 29 (0, 0)) Z47 hb); have n2_ := Aside0.mk (blk_below (g := gb425) (o := .cells #[.int .i64 t422, .int .i64 t423] 43 (0, 0)) Z48 hb); have n3_ := Aside0.mk (below_step Z110 hb); have n4_ := Aside0.mk (hbox); have n5_ := Aside0.mk ((Z165 : w.heap.size ≤ gb430)); have n6_ := Aside0.mk ((Z165 : w.heap.size ≤ gb430)); have n7_ := Aside0.mk ((Z192 : gb414 ≠ gb430)); have n8_ := Aside0.mk ((Z193 : gb430 ≠ gb414)); have n9_ := Aside0.mk ((Z196 : gb425 ≠ gb430)); have n10_ := Aside0.mk ((Z197 : gb430 ≠ gb425)); clear HO_415000; clear BK414; clear BK425; clear HB; have HO_415000 := n0_; have BK414 := n1_; have BK425 := n2_; have HB := n3_; have BK430 := n4_; have GW430 := n5_; have GE430 := n6_; have NB414_430 := n7_; have NB430_414 := n8_; have NB425_430 := n9_; have NB430_425 := n10_; clear n0_ n1_ n2_ n3_ n4_ n5_ n6_ n7_ n8_ n9_ n10_; clear hb hbox hg; have hnb46 := NB430_414.out; have hnc46 := NB414_430.out; have hnb47 := NB430_425.out; have hnc47 := NB425_430.out; have hcz48_0 : w45.cell? ⟨gb430, 0, none⟩ = some (.int .i64 0) := (blk_cell BK430.out 0).trans rfl; have hcz48_1 : w45.cell? ⟨gb430, 1, none⟩ = some (.int .i64 0) := (blk_cell BK430.out 1).trans rfl; have hfz48_0 := blk_frozen BK430.out 0; have hfz48_1 := blk_frozen BK430.out 1; have hnb49 := NB425_414.out; have hnc49 := NB414_425.out; have hcz50_0 : w45.cell? ⟨gb425, 0, none⟩ = some (.int .i64 t422) := (blk_cell BK425.out 0).trans rfl; have hcz50_1 : w45.cell? ⟨gb425, 1, none⟩ = some (.int .i64 t423) := (blk_cell BK425.out 1).trans rfl; have hfz50_0 := blk_frozen BK425.out 0; have hfz50_1 := blk_frozen BK425.out 1) | (go_at_call 28; (with_reducible refine (impl_LinOk.calls kj27 t415 t431 _ A43.out).mono ?_); rintro e w51 ⟨rfl, hb⟩; have n0_ := Aside0.mk (Kd.R_below (by (with_reducible repeat (first | apply Kd.R_alloc | apply Kd.R_drewN | apply Kd.R_drew)); exact (Kd.R_mono (Kd.R_far (p := ⟨gb430, 1, none⟩) (Kd.R_far (p := ⟨gb430, 0, none⟩) (Kd.R_mono HO_415000.out (fun k_ hk => (⟨hk, hk.2⟩ : _ ∧ k_ ≠ gb430))) (fun _ hk => hk.2) (.int .i64 t427)) (fun _ hk => hk.2) (.int .i64 t428)) (fun _ h_ => h_.1))) hb); have n1_ := Aside0.mk (blk_below (g := gb414) (o := .cells #[.slice Ao10 t410.length co10] 29 (0, 0)) (by (with_reducible repeat (first | refine blk_drewN ?_ _ | refine blk_drew ?_ | refine blk_alloc ?_ _)); refine blk_far ?_ NB414_430.out _; (with_reducible repeat (first | refine blk_drewN ?_ _ | refine blk_drew ?_ | refine blk_alloc ?_ _)); refine blk_far ?_ NB414_430.out _; (with_reducible repeat (first | refine blk_drewN ?_ _ | refine blk_drew ?_ | refine blk_alloc ?_ _)); exact BK414.out) hb); have n2_ := Aside0.mk (blk_below (g := gb425) (o := .cells #[.int .i64 t422, .int .i64 t423] 43 (0, 0)) (by (with_reducible repeat (first | refine blk_drewN ?_ _ | refine blk_drew ?_ | refine blk_alloc ?_ _)); refine blk_far ?_ NB425_430.out _; (with_reducible repeat (first | refine blk_drewN ?_ _ | refine blk_drew ?_ | refine blk_alloc ?_ _)); refine blk_far ?_ NB425_430.out _; (with_reducible repeat (first | refine blk_drewN ?_ _ | refine blk_drew ?_ | refine blk_alloc ?_ _)); exact BK425.out) hb); have n3_ := Aside0.mk (blk_below (g := gb430) (o := .cells #[.int .i64 t427, .int .i64 t428] 43 (0, 0)) (by (with_reducible repeat (first | refine blk_drewN ?_ _ | refine blk_drew ?_ | refine blk_alloc ?_ _)); refine blk_put (cs := #[.int .i64 t427, .int .i64 0]) ?_ 1 _ rfl; (with_reducible repeat (first | refine blk_drewN ?_ _ | refine blk_drew ?_ | refine blk_alloc ?_ _)); refine blk_put (cs := #[.int .i64 0, .int .i64 0]) ?_ 0 _ rfl; (with_reducible repeat (first | refine blk_drewN ?_ _ | refine blk_drew ?_ | refine blk_alloc ?_ _)); exact BK430.out) hb); have n4_ := Aside0.mk (below_step Z124 hb); clear HO_415000; clear BK414; clear BK425; clear BK430; clear HB; have HO_415000 := n0_; have BK414 := n1_; have BK425 := n2_; have BK430 := n3_; have HB := n4_; clear n0_ n1_ n2_ n3_ n4_; (try clear hb)))
           go_ret
           exact ⟨by first | rfl | (simp [errW_none, errW_some] <;> rfl) | (simp [*, errW_none, errW_some] <;> rfl), by repeat (first | (with_reducible first | exact HB.out | apply below_alloc | apply pw_below_drewN | apply below_drew1 | refine below_set ?_ GE414.out | refine below_set ?_ GE425.out | refine below_set ?_ GE430.out) | exact HB.out)⟩
          ·rw [if_neg c42] at H
           have c42b0 : (t427 == t422 && (t428 == t423)) = false := by simpa using c42
           (try (have c42b1 : decide (t427 = t422 && (t428 == t423)) = false := by simpa using c42))
           (try (have c42b2 : (t427 == t422 && (t428 == t423)) = false := by simpa using c42))
           (try (have c42b3 : ¬ (t427 = t422 && (t428 == t423)) := by simpa using c42))
           clear c42
           obtain rfl := Option.some.inj H
           go_wp2_with (first | ((with_reducible refine gate_callee (f := 27) rfl ?_); refine goesL_ (some 66) rfl rfl Tryd.func27 (by kernel_rfl) rfl #[.string t415] rfl Z55 ?_; (with_reducible refine (impl_LinSays.calls kj27 t415 t427 t428 true _ A40.out ?sideL_).mono ?_); (case sideL_ => exact (Ends.LErr.below HL_.out Z124)); rintro e w52 ⟨rfl, hb⟩; refine ⟨_, rfl, ?_⟩; have n0_ := Aside0.mk (Kd.R_below Z13 hb); have n1_ := Aside0.mk (blk_below (g := gb414) (o := .cells #[.slice Ao10 t410.length co10] 29 (0, 0)) Z47 hb); have n2_ := Aside0.mk (blk_below (g := gb425) (o := .cells #[.int .i64 t422, .int .i64 t423] 43 (0, 0)) Z48 hb); have n3_ := Aside0.mk (below_step Z110 hb); clear HO_415000; clear BK414; clear BK425; clear HB; have HO_415000 := n0_; have BK414 := n1_; have BK425 := n2_; have HB := n3_; clear n0_ n1_ n2_ n3_; (try clear hb)) | ((with_reducible refine gate_dst (N := 10) rfl ?_); refine box_event ?hg (N := 10) ?hd (cs := #[.int .i64 0, .int .i64 0]) (t := 43) ?hr ?_; (case hd => rfl); (case hg => rfl); (case hr => first | (go_simp; done) | (go_simp; rfl)); intro gb430 hg w53 hbox hb; have n0_ := Aside0.mk (Kd.R_below (Kd.R_elderB Z13 gb430 (Nat.le_of_eq hg.symm)) hb); have n1_ := Aside0.mk (blk_below (g := gb414) (o := .cells #[.slice Ao10 t410.length co10] 29 (0, 0)) Z47 hb); have n2_ := Aside0.mk (blk_below (g := gb425) (o := .cells #[.int .i64 t422, .int .i64 t423] 43 (0, 0)) Z48 hb); have n3_ := Aside0.mk (below_step Z110 hb); have n4_ := Aside0.mk (hbox); have n5_ := Aside0.mk ((Z165 : w.heap.size ≤ gb430)); have n6_ := Aside0.mk ((Z165 : w.heap.size ≤ gb430)); have n7_ := Aside0.mk ((Z192 : gb414 ≠ gb430)); have n8_ := Aside0.mk ((Z193 : gb430 ≠ gb414)); have n9_ := Aside0.mk ((Z196 : gb425 ≠ gb430)); have n10_ := Aside0.mk ((Z197 : gb430 ≠ gb425)); clear HO_415000; clear BK414; clear BK425; clear HB; have HO_415000 := n0_; have BK414 := n1_; have BK425 := n2_; have HB := n3_; have BK430 := n4_; have GW430 := n5_; have GE430 := n6_; have NB414_430 := n7_; have NB430_414 := n8_; have NB425_430 := n9_; have NB430_425 := n10_; clear n0_ n1_ n2_ n3_ n4_ n5_ n6_ n7_ n8_ n9_ n10_; clear hb hbox hg; have hnb54 := NB430_414.out; have hnc54 := NB414_430.out; have hnb55 := NB430_425.out; have hnc55 := NB425_430.out; have hcz56_0 : w53.cell? ⟨gb430, 0, none⟩ = some (.int .i64 0) := (blk_cell BK430.out 0).trans rfl; have hcz56_1 : w53.cell? ⟨gb430, 1, none⟩ = some (.int .i64 0) := (blk_cell BK430.out 1).trans rfl; have hfz56_0 := blk_frozen BK430.out 0; have hfz56_1 := blk_frozen BK430.out 1; have hnb57 := NB425_414.out; have hnc57 := NB414_425.out; have hcz58_0 : w53.cell? ⟨gb425, 0, none⟩ = some (.int .i64 t422) := (blk_cell BK425.out 0).trans rfl; have hcz58_1 : w53.cell? ⟨gb425, 1, none⟩ = some (.int .i64 t423) := (blk_cell BK425.out 1).trans rfl; have hfz58_0 := blk_frozen BK425.out 0; have hfz58_1 := blk_frozen BK425.out 1))
           go_ret
           exact ⟨by first | rfl | (simp [errW_none, errW_some] <;> rfl) | (simp [*, errW_none, errW_some] <;> rfl), by repeat (first | (with_reducible first | exact HB.out | apply below_alloc | apply pw_below_drewN | apply below_drew1 | refine below_set ?_ GE414.out | refine below_set ?_ GE425.out | refine below_set ?_ GE430.out) | exact HB.out)⟩
         ·replace c41 := Bool.eq_false_iff.mpr c41
          subst c41
          have H1 : (some false) = some r := by rw [if_neg (show ¬ (false = true) by decide)] at H; exact H
          clear H
          have H := H1
          clear H1
          obtain rfl := Option.some.inj H
          go_wp2_with (first | ((with_reducible refine gate_callee (f := 27) rfl ?_); refine goesL_ (some 66) rfl rfl Tryd.func27 (by kernel_rfl) rfl #[.string t415] rfl Z55 ?_; (with_reducible refine (impl_LinSays.calls kj27 t415 t427 t428 false _ A40.out ?sideL_).mono ?_); (case sideL_ => exact (Ends.LErr.below HL_.out Z124)); rintro e w59 ⟨rfl, hb⟩; refine ⟨_, rfl, ?_⟩; have n0_ := Aside0.mk (Kd.R_below Z13 hb); have n1_ := Aside0.mk (blk_below (g := gb414) (o := .cells #[.slice Ao10 t410.length co10] 29 (0, 0)) Z47 hb); have n2_ := Aside0.mk (blk_below (g := gb425) (o := .cells #[.int .i64 t422, .int .i64 t423] 43 (0, 0)) Z48 hb); have n3_ := Aside0.mk (below_step Z110 hb); clear HO_415000; clear BK414; clear BK425; clear HB; have HO_415000 := n0_; have BK414 := n1_; have BK425 := n2_; have HB := n3_; clear n0_ n1_ n2_ n3_; (try clear hb)) | ((with_reducible refine gate_dst (N := 10) rfl ?_); refine box_event ?hg (N := 10) ?hd (cs := #[.int .i64 0, .int .i64 0]) (t := 43) ?hr ?_; (case hd => rfl); (case hg => rfl); (case hr => first | (go_simp; done) | (go_simp; rfl)); intro gb430 hg w60 hbox hb; have n0_ := Aside0.mk (Kd.R_below (Kd.R_elderB Z13 gb430 (Nat.le_of_eq hg.symm)) hb); have n1_ := Aside0.mk (blk_below (g := gb414) (o := .cells #[.slice Ao10 t410.length co10] 29 (0, 0)) Z47 hb); have n2_ := Aside0.mk (blk_below (g := gb425) (o := .cells #[.int .i64 t422, .int .i64 t423] 43 (0, 0)) Z48 hb); have n3_ := Aside0.mk (below_step Z110 hb); have n4_ := Aside0.mk (hbox); have n5_ := Aside0.mk ((Z165 : w.heap.size ≤ gb430)); have n6_ := Aside0.mk ((Z165 : w.heap.size ≤ gb430)); have n7_ := Aside0.mk ((Z192 : gb414 ≠ gb430)); have n8_ := Aside0.mk ((Z193 : gb430 ≠ gb414)); have n9_ := Aside0.mk ((Z196 : gb425 ≠ gb430)); have n10_ := Aside0.mk ((Z197 : gb430 ≠ gb425)); clear HO_415000; clear BK414; clear BK425; clear HB; have HO_415000 := n0_; have BK414 := n1_; have BK425 := n2_; have HB := n3_; have BK430 := n4_; have GW430 := n5_; have GE430 := n6_; have NB414_430 := n7_; have NB430_414 := n8_; have NB425_430 := n9_; have NB430_425 := n10_; clear n0_ n1_ n2_ n3_ n4_ n5_ n6_ n7_ n8_ n9_ n10_; clear hb hbox hg; have hnb61 := NB430_414.out; have hnc61 := NB414_430.out; have hnb62 := NB430_425.out; have hnc62 := NB425_430.out; have hcz63_0 : w60.cell? ⟨gb430, 0, none⟩ = some (.int .i64 0) := (blk_cell BK430.out 0).trans rfl; have hcz63_1 : w60.cell? ⟨gb430, 1, none⟩ = some (.int .i64 0) := (blk_cell BK430.out 1).trans rfl; have hfz63_0 := blk_frozen BK430.out 0; have hfz63_1 := blk_frozen BK430.out 1))
          go_ret
          exact ⟨by first | rfl | (simp [errW_none, errW_some] <;> rfl) | (simp [*, errW_none, errW_some] <;> rfl), by repeat (first | (with_reducible first | exact HB.out | apply below_alloc | apply pw_below_drewN | apply below_drew1 | refine below_set ?_ GE414.out | refine below_set ?_ GE425.out | refine below_set ?_ GE430.out) | exact HB.out)⟩
  ·rw [if_neg c6] at H
   have c6b0 : (t415.toList == t416.toList) = false := beq_eq_false_iff_ne.mpr c6
   have c6b1 : (t415.toList != t416.toList) = true := bne_iff_ne.mpr c6
   obtain rfl := Option.some.inj H
   go_enter Tryd.func5, Tryd.ntmps5
   go_wp2_with (first | ((with_reducible refine gate_callee (f := 21) rfl ?_); refine goesL_ (some 17) rfl rfl Tryd.func21 (by kernel_rfl) rfl #[.slice A0 l0.length c0] rfl Z55 ?_; (with_reducible refine (spec_DrawBakLine.calls k _ _ l0 t410 t413 _ ?side1 ?side2 A3.out).mono ?_); (case side1 => exact Z59); (case side2 => exact HC0.out); rintro e w64 ⟨v411, rfl, ho0, hb⟩; refine ⟨_, rfl, ?_⟩; have n0_ := Aside0.mk (Kd.R_lower ho0 (below_size Z51)); have n1_ := Aside0.mk (below_step Z51 hb); clear HB; have HO412 := n0_; have HB := n1_; clear n0_ n1_; (try clear hb); (try clear ho0)) | ((with_reducible refine gate_dst (N := 3) rfl ?_); refine box_event ?hg (N := 3) ?hd (cs := #[.slice none 0 0]) (t := 29) ?hr ?_; (case hd => rfl); (case hg => rfl); (case hr => first | (go_simp; done) | (go_simp; rfl)); intro gb414 hg w65 hbox hb; have n0_ := Aside0.mk (Kd.R_below Z11 hb); have n1_ := Aside0.mk (below_step Z51 hb); have n2_ := Aside0.mk (hbox); have n3_ := Aside0.mk ((Z160 : w.heap.size ≤ gb414)); have n4_ := Aside0.mk ((Z160 : w.heap.size ≤ gb414)); clear HO412; clear HB; have HO412 := n0_; have HB := n1_; have BK414 := n2_; have GW414 := n3_; have GE414 := n4_; clear n0_ n1_ n2_ n3_ n4_; clear hb hbox hg; obtain ⟨Ao66, co66, eo66⟩ := Kd.R_slice HO412.out; subst eo66; have hcz67_0 : w65.cell? ⟨gb414, 0, none⟩ = some (.slice none 0 0) := (blk_cell BK414.out 0).trans rfl; have hfz67_0 := blk_frozen BK414.out 0) | ((with_reducible refine gate_callee (f := 19) rfl ?_); refine goesL_ (some 22) rfl rfl Tryd.func19 (by kernel_rfl) rfl #[.agg #[.slice Ao66 t410.length co66], .string t413] rfl Z55 ?_; (with_reducible refine (impl_BakLine.calls k _ _ t410 t413 t415 _ ?side1 ?side2 A4.out ?sideL_).mono ?_); (case sideL_ => exact (Ends.LErr.below HL_.out Z124)); (case side1 => refine (Kd.R_reads' (e := 43) (base := w.heap.size) (ok := fun k_ => True) (n := t410.length) (c := co66) ?_).2.2; exact Z135); (case side2 => exact (Kd.R_reads' HO412.out).2.1); rintro e w68 ⟨rfl, hb⟩; refine ⟨_, rfl, ?_⟩; have n0_ := Aside0.mk (Kd.R_below Z135 hb); have n1_ := Aside0.mk (blk_below (g := gb414) (o := .cells #[.slice Ao66 t410.length co66] 29 (0, 0)) Z146 hb); have n2_ := Aside0.mk (below_step Z79 hb); clear HO412; clear BK414; clear HB; have HO412 := n0_; have BK414 := n1_; have HB := n2_; clear n0_ n1_ n2_; (try clear hb); have hcz69_0 : w68.cell? ⟨gb414, 0, none⟩ = some (.slice Ao66 t410.length co66) := (blk_cell BK414.out 0).trans rfl; have hfz69_0 := blk_frozen BK414.out 0) | ((with_reducible refine gate_callee (f := 17) rfl ?_); refine goesL_ (some 26) rfl rfl Tryd.func17 (by kernel_rfl) rfl #[.agg #[.slice Ao66 t410.length co66], .string t413] rfl Z55 ?_; (with_reducible refine (spec_BakLine.calls k _ _ t410 t413 t416 _ ?side1 ?side2 A5.out).mono ?_); (case side1 => exact Z86); (case side2 => exact (Kd.R_reads' HO412.out).2.1); rintro e w70 ⟨rfl, hb⟩; refine ⟨_, rfl, ?_⟩; have n0_ := Aside0.mk (Kd.R_below Z11 hb); have n1_ := Aside0.mk (blk_below (g := gb414) (o := .cells #[.slice Ao66 t410.length co66] 29 (0, 0)) Z47 hb); have n2_ := Aside0.mk (below_step Z79 hb); clear HO412; clear BK414; clear HB; have HO412 := n0_; have BK414 := n1_; have HB := n2_; clear n0_ n1_ n2_; (try clear hb)))
   go_ret
   exact ⟨by first | rfl | (simp [errW_none, errW_some] <;> rfl) | (simp [*, errW_none, errW_some] <;> rfl), by repeat (first | (with_reducible first | exact HB.out | apply below_alloc | apply pw_below_drewN | apply below_drew1 | refine below_set ?_ GE414.out) | exact HB.out)⟩

end Go.Proofs.YtlofgoahgnllkaaDoor.QFnBakLine
