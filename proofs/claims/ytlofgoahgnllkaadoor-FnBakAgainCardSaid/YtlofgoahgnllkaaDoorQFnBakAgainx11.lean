-- Laid by a program of this repo (wip/tools/sprint.py): print.py's functions and walks; the contracts named 'BY HAND' are proved by hand.
import Derived.Test.YtlofgoahgnllkaaDoorQFnBakAgainx0
import Derived.Test.YtlofgoahgnllkaaDoorQFnBakAgainx2
import Derived.Test.YtlofgoahgnllkaaDoorQFnBakAgainx3
import Derived.Test.YtlofgoahgnllkaaDoorQFnBakAgainx9
import Derived.Test.YtlofgoahgnllkaaDoorQFnBakAgainx10
namespace Go.Proofs.YtlofgoahgnllkaaDoor.QFnBakAgain
open Go.RowKit Go.Proofs.YtlofgoahgnllkaaDoorW.PrintWords Go.Proofs.YtlofgoahgnllkaaDoorW.PrintLast Go.Proofs.YtlofgoahgnllkaaDoorW.PrintMore
attribute [local go_sem] max2_int min2_int max_two min_two max_three min_three max_four min_four   -- for this text's walks alone
set_option linter.unusedVariables false
set_option linter.unusedSimpArgs false

/-! ### spec_MapPut: function 77 -/
def spec_MapPut.j0 : Nat → Bool → List (S43) → Int → Int → Option ((List (S43)) × Int)
 | 0, _, _, _, _ => none
 | k + 1, x13, x269000, x270000, x270001 => if x13 = true then (some (([] : List (S43)), 0)) else ((spec_l3Copy.f x269000).bind fun t273 => ((spec_l3Put.f k t273 x270000 x270001).bind fun bt276 => (some (bt276.1, bt276.2))))
def spec_MapPut.f (k : Nat) (l0_0 : List (S43)) (a1_0 : Int) (a1_1 : Int) : Option ((List (S43)) × Int) := (spec_MapOk.f k l0_0).bind fun t271 => (if t271 = true then ((spec_EndInside.f a1_0 a1_1).bind fun t272 => (spec_MapPut.j0 k (!t272) l0_0 a1_0 a1_1)) else (spec_MapPut.j0 k true l0_0 a1_0 a1_1))
theorem spec_MapPut.mono_l : ∀ k, (∀ y0 y1 y2 y3, LeO (spec_MapPut.j0 k y0 y1 y2 y3) (spec_MapPut.j0 (k + 1) y0 y1 y2 y3))
 | 0 => fun _ _ _ _ r h => by simp [spec_MapPut.j0] at h
 | k + 1 => by
  have ih0 := spec_MapPut.mono_l k
  ·intro y0 y1 y2 y3
   unfold spec_MapPut.j0
   repeat' first
   | (with_reducible exact ih0 _ _ _ _)
   | (with_reducible exact spec_MapOk.mono _ _)
   | (with_reducible exact spec_l3Put.mono _ _ _ _)
   | (with_reducible exact LeO.refl _)
   | (with_reducible exact LeO.none _)
   | (with_reducible refine LeO.ite ?_ ?_)
   | (with_reducible refine LeO.bind ?_ (fun _ => ?_))
   | exact ih0 _ _ _ _
   | exact spec_MapOk.mono _ _
   | exact spec_l3Put.mono _ _ _ _
   | exact LeO.none _
   | refine LeO.ite ?_ ?_
   | refine LeO.bind ?_ (fun _ => ?_)
theorem spec_MapPut.mono : ∀ a0 a1 a2 k, LeO (spec_MapPut.f k a0 a1 a2) (spec_MapPut.f (k + 1) a0 a1 a2) := by
 intro a0 a1 a2 k
 have ih0 := spec_MapPut.mono_l k
 unfold spec_MapPut.f
 repeat' first
   | (with_reducible exact ih0 _ _ _ _)
   | (with_reducible exact spec_MapOk.mono _ _)
   | (with_reducible exact spec_l3Put.mono _ _ _ _)
   | (with_reducible exact LeO.refl _)
   | (with_reducible exact LeO.none _)
   | (with_reducible refine LeO.ite ?_ ?_)
   | (with_reducible refine LeO.bind ?_ (fun _ => ?_))
   | exact ih0 _ _ _ _
   | exact spec_MapOk.mono _ _
   | exact spec_l3Put.mono _ _ _ _
   | exact LeO.none _
   | refine LeO.ite ?_ ?_
   | refine LeO.bind ?_ (fun _ => ?_)
def spec_MapPut.T3 : Bool × List (List Nat × List Nat) := (true, [([], []), ([0], [0]), ([], []), ([1, 2, 1], [1, 2]), ([3], [3]), ([3], [3]), ([4, 3, 0, 1, 2, 3, 4, 5], [4]), ([5, 6, 0, 1, 2, 3, 4, 5, 6], [5])])
def spec_MapPut.B3 : List Nat := [0, 1, 0, 7, 15, 15, 63, 127]
theorem spec_MapPut.tab3 : rtab .any (opsOf Tryd.f77 3) = spec_MapPut.T3 := by kernel_rfl
theorem spec_MapPut.bits3 : waitsOk spec_MapPut.T3.2 spec_MapPut.B3 = true := by kernel_rfl
set_option maxHeartbeats 8000000 in
set_option maxRecDepth 100000 in
theorem spec_MapPut.calls (k : Nat) (A0_0 : Option Addr) (c0_0 : Nat) (l0_0 : List (S43)) (a1_0 : Int) (a1_1 : Int) (r1 : List (S43)) (r2 : Int) (w : World) (hr0_0 : Kd.C k43 w A0_0 l0_0.length l0_0) (hc0_0 : l0_0.length ≤ c0_0) (h : spec_MapPut.f k l0_0 a1_0 a1_1 = some (r1, r2)) :
  Calls Tryd.prog 77 #[.agg #[.slice A0_0 l0_0.length c0_0], .agg #[.int .i64 a1_0, .int .i64 a1_1]] w fun e w' => ∃ v0_ : Value, e = .returned (.tuple #[.agg #[v0_], .int .i64 r2]) ∧ Kd.R k43 43 w' w.heap.size (fun _ => True) v0_ r1 ∧ Below w.heap.size w w' := by
 have hu29 := Tryd.underlying29
 have hu43 := Tryd.underlying43
 have HR0_0 := Aside0.mk hr0_0
 have HC0_0 := Aside0.mk hc0_0
 clear hr0_0 hc0_0
 have HB := Aside0.mk (Below.refl w.heap.size w)
 have H : ((spec_MapOk.f k l0_0).bind fun t271 => (if t271 = true then ((spec_EndInside.f a1_0 a1_1).bind fun t272 => (spec_MapPut.j0 k (!t272) l0_0 a1_0 a1_1)) else (spec_MapPut.j0 k true l0_0 a1_0 a1_1))) = some (r1, r2) := h
 clear h
 have HC3 := Aside0.mk H
 clear H
 go_enter Tryd.func77, Tryd.ntmps77
 go_upto_region 1 with (first | ((with_reducible refine gate_dst (N := 2) rfl ?_); refine box_event ?hg (N := 2) ?hd (cs := #[.slice A0_0 l0_0.length c0_0]) (t := 29) ?hr ?_; (case hd => rfl); (case hg => rfl); (case hr => first | (go_simp; done) | (go_simp; rfl)); intro gb268 hg w4 hbox hb; have n0_ := Aside0.mk (below_step Z52 hb); have n1_ := Aside0.mk (hbox); have n2_ := Aside0.mk ((Z161 : w.heap.size ≤ gb268)); have n3_ := Aside0.mk ((Z161 : w.heap.size ≤ gb268)); clear HB; have HB := n0_; have BK268 := n1_; have GW268 := n2_; have GE268 := n3_; clear n0_ n1_ n2_ n3_; clear hb hbox hg) | ((with_reducible refine gate_dst (N := 3) rfl ?_); refine box_event ?hg (N := 3) ?hd (cs := #[.int .i64 a1_0, .int .i64 a1_1]) (t := 43) ?hr ?_; (case hd => rfl); (case hg => rfl); (case hr => first | (go_simp; done) | (go_simp; rfl)); intro gb269 hg w5 hbox hb; have n0_ := Aside0.mk (blk_below (g := gb268) (o := .cells #[.slice A0_0 l0_0.length c0_0] 29 (0, 0)) Z38 hb); have n1_ := Aside0.mk (below_step Z77 hb); have n2_ := Aside0.mk (hbox); have n3_ := Aside0.mk ((by rw [hg]; exact (below_size Z77) : w.heap.size ≤ gb269)); have n4_ := Aside0.mk ((by rw [hg]; exact (below_size Z77) : w.heap.size ≤ gb269)); have n5_ := Aside0.mk ((Z187 : gb268 ≠ gb269)); have n6_ := Aside0.mk ((Z188 : gb269 ≠ gb268)); clear BK268; clear HB; have BK268 := n0_; have HB := n1_; have BK269 := n2_; have GW269 := n3_; have GE269 := n4_; have NB268_269 := n5_; have NB269_268 := n6_; clear n0_ n1_ n2_ n3_ n4_ n5_ n6_; clear hb hbox hg) | ((with_reducible refine gate_dst (N := 4) rfl ?_); refine box_event ?hg (N := 4) ?hd (cs := #[.slice none 0 0]) (t := 29) ?hr ?_; (case hd => rfl); (case hg => rfl); (case hr => first | (go_simp; done) | (go_simp; rfl)); intro gb270 hg w6 hbox hb; have n0_ := Aside0.mk (blk_below (g := gb268) (o := .cells #[.slice A0_0 l0_0.length c0_0] 29 (0, 0)) Z38 hb); have n1_ := Aside0.mk (blk_below (g := gb269) (o := .cells #[.int .i64 a1_0, .int .i64 a1_1] 43 (0, 0)) Z39 hb); have n2_ := Aside0.mk (below_step Z110 hb); have n3_ := Aside0.mk (hbox); have n4_ := Aside0.mk ((by rw [hg]; exact (below_size Z110) : w.heap.size ≤ gb270)); have n5_ := Aside0.mk ((by rw [hg]; exact (below_size Z110) : w.heap.size ≤ gb270)); have n6_ := Aside0.mk ((Z187 : gb268 ≠ gb270)); have n7_ := Aside0.mk ((Z188 : gb270 ≠ gb268)); have n8_ := Aside0.mk ((by rw [hg]; exact Nat.ne_of_lt (blk_lt (g := gb269) (o := .cells #[.int .i64 a1_0, .int .i64 a1_1] 43 (0, 0)) Z39) : gb269 ≠ gb270)); have n9_ := Aside0.mk ((by rw [hg]; exact Nat.ne_of_gt (blk_lt (g := gb269) (o := .cells #[.int .i64 a1_0, .int .i64 a1_1] 43 (0, 0)) Z39) : gb270 ≠ gb269)); clear BK268; clear BK269; clear HB; have BK268 := n0_; have BK269 := n1_; have HB := n2_; have BK270 := n3_; have GW270 := n4_; have GE270 := n5_; have NB268_270 := n6_; have NB270_268 := n7_; have NB269_270 := n8_; have NB270_269 := n9_; clear n0_ n1_ n2_ n3_ n4_ n5_ n6_ n7_ n8_ n9_; clear hb hbox hg))
 (try simp only [Act.put, List.setIfInBounds_toArray, List.set_cons_zero, List.set_cons_succ])
 go_cut [13] (fun v13 wc => ∃ (kq : Nat) (x13_2 : Bool), v13 = .bool x13_2 ∧ Aside0 (spec_MapPut.j0 kq x13_2 l0_0 a1_0 a1_1 = some (r1, r2)) ∧ Aside0 (kq ≤ k) ∧ Aside0 (wc.heap[gb268]? = some (.cells #[(.slice A0_0 l0_0.length c0_0)] 29 (0, 0))) ∧ Aside0 (wc.heap[gb269]? = some (.cells #[.int .i64 a1_0, .int .i64 a1_1] 43 (0, 0))) ∧ Aside0 (wc.heap[gb270]? = some (.cells #[(.slice none 0 0)] 29 (0, 0))) ∧ Aside0 (Below w.heap.size w wc))
 case first =>
  have H := HC3.out
  clear HC3
  replace H := Option.bind_eq_some_iff.mp H
  obtain ⟨t271, A70, H⟩ := H
  replace H : (if t271 = true then ((spec_EndInside.f a1_0 a1_1).bind fun t272 => (spec_MapPut.j0 k (!t272) l0_0 a1_0 a1_1)) else (spec_MapPut.j0 k true l0_0 a1_0 a1_1)) = some (r1, r2) := H
  have A7 := Aside0.mk A70
  clear A70
  by_cases c8 : t271 = true
  ·subst c8
   have H1 : ((spec_EndInside.f a1_0 a1_1).bind fun t272 => (spec_MapPut.j0 k (!t272) l0_0 a1_0 a1_1)) = some (r1, r2) := by rw [if_pos rfl] at H; exact H
   clear H
   have H := H1
   clear H1
   replace H := Option.bind_eq_some_iff.mp H
   obtain ⟨t272, A90, H⟩ := H
   replace H : (spec_MapPut.j0 k (!t272) l0_0 a1_0 a1_1) = some (r1, r2) := H
   have A9 := Aside0.mk A90
   clear A90
   have H' := Aside0.mk H
   clear H
   have hnb10 := NB268_269.out
   have hnc10 := NB269_268.out
   have hnb11 := NB268_270.out
   have hnc11 := NB270_268.out
   have hcz12_0 : w6.cell? ⟨gb268, 0, none⟩ = some (.slice A0_0 l0_0.length c0_0) := (blk_cell BK268.out 0).trans rfl
   have hfz12_0 := blk_frozen BK268.out 0
   go_wp2_with (first | ((with_reducible refine gate_callee (f := 22) rfl ?_); refine goesL_ (some 7) rfl rfl Tryd.func22 (by kernel_rfl) rfl #[.agg #[.slice A0_0 l0_0.length c0_0]] rfl Z56 ?_; (with_reducible refine (spec_MapOk.calls k _ _ l0_0 true _ ?side1 ?side2 A7.out).mono ?_); (case side1 => exact Z89); (case side2 => exact HC0_0.out); rintro e w13 ⟨rfl, hb⟩; refine ⟨_, rfl, ?_⟩; have n0_ := Aside0.mk (blk_below (g := gb268) (o := .cells #[.slice A0_0 l0_0.length c0_0] 29 (0, 0)) Z38 hb); have n1_ := Aside0.mk (blk_below (g := gb269) (o := .cells #[.int .i64 a1_0, .int .i64 a1_1] 43 (0, 0)) Z39 hb); have n2_ := Aside0.mk (blk_below (g := gb270) (o := .cells #[.slice none 0 0] 29 (0, 0)) Z40 hb); have n3_ := Aside0.mk (below_step Z122 hb); clear BK268; clear BK269; clear BK270; clear HB; have BK268 := n0_; have BK269 := n1_; have BK270 := n2_; have HB := n3_; clear n0_ n1_ n2_ n3_; (try clear hb); have hnb14 := NB269_270.out; have hnc14 := NB270_269.out; have hcz15_0 : w13.cell? ⟨gb269, 0, none⟩ = some (.int .i64 a1_0) := (blk_cell BK269.out 0).trans rfl; have hcz15_1 : w13.cell? ⟨gb269, 1, none⟩ = some (.int .i64 a1_1) := (blk_cell BK269.out 1).trans rfl; have hfz15_0 := blk_frozen BK269.out 0; have hfz15_1 := blk_frozen BK269.out 1) | (go_at_call 41; (with_reducible refine (spec_EndInside.calls a1_0 a1_1 t272 _ A9.out).mono ?_); rintro e w16 ⟨rfl, hb⟩; have n0_ := Aside0.mk (blk_below (g := gb268) (o := .cells #[.slice A0_0 l0_0.length c0_0] 29 (0, 0)) Z38 hb); have n1_ := Aside0.mk (blk_below (g := gb269) (o := .cells #[.int .i64 a1_0, .int .i64 a1_1] 43 (0, 0)) Z39 hb); have n2_ := Aside0.mk (blk_below (g := gb270) (o := .cells #[.slice none 0 0] 29 (0, 0)) Z40 hb); have n3_ := Aside0.mk (below_step Z122 hb); clear BK268; clear BK269; clear BK270; clear HB; have BK268 := n0_; have BK269 := n1_; have BK270 := n2_; have HB := n3_; clear n0_ n1_ n2_ n3_; (try clear hb)))
   go_meet
   case rel => exact ⟨_, (!t272), Z0, H', ⟨by first | omega | exact Nat.le_refl _⟩, ⟨by (with_reducible repeat (first | refine blk_drewN ?_ _ | refine blk_drew ?_ | refine blk_alloc ?_ _)); exact BK268.out⟩, ⟨by (with_reducible repeat (first | refine blk_drewN ?_ _ | refine blk_drew ?_ | refine blk_alloc ?_ _)); exact BK269.out⟩, ⟨by (with_reducible repeat (first | refine blk_drewN ?_ _ | refine blk_drew ?_ | refine blk_alloc ?_ _)); exact BK270.out⟩, ⟨by repeat (first | (with_reducible first | exact HB.out | apply below_alloc | apply pw_below_drewN | apply below_drew1 | refine below_set ?_ GE268.out | refine below_set ?_ GE269.out | refine below_set ?_ GE270.out) | exact HB.out)⟩⟩
  ·replace c8 := Bool.eq_false_iff.mpr c8
   subst c8
   have H1 : (spec_MapPut.j0 k true l0_0 a1_0 a1_1) = some (r1, r2) := by rw [if_neg (show ¬ (false = true) by decide)] at H; exact H
   clear H
   have H := H1
   clear H1
   have H' := Aside0.mk H
   clear H
   have hnb17 := NB268_269.out
   have hnc17 := NB269_268.out
   have hnb18 := NB268_270.out
   have hnc18 := NB270_268.out
   have hcz19_0 : w6.cell? ⟨gb268, 0, none⟩ = some (.slice A0_0 l0_0.length c0_0) := (blk_cell BK268.out 0).trans rfl
   have hfz19_0 := blk_frozen BK268.out 0
   go_wp2_with (first | ((with_reducible refine gate_callee (f := 22) rfl ?_); refine goesL_ (some 7) rfl rfl Tryd.func22 (by kernel_rfl) rfl #[.agg #[.slice A0_0 l0_0.length c0_0]] rfl Z56 ?_; (with_reducible refine (spec_MapOk.calls k _ _ l0_0 false _ ?side1 ?side2 A7.out).mono ?_); (case side1 => exact Z89); (case side2 => exact HC0_0.out); rintro e w20 ⟨rfl, hb⟩; refine ⟨_, rfl, ?_⟩; have n0_ := Aside0.mk (blk_below (g := gb268) (o := .cells #[.slice A0_0 l0_0.length c0_0] 29 (0, 0)) Z38 hb); have n1_ := Aside0.mk (blk_below (g := gb269) (o := .cells #[.int .i64 a1_0, .int .i64 a1_1] 43 (0, 0)) Z39 hb); have n2_ := Aside0.mk (blk_below (g := gb270) (o := .cells #[.slice none 0 0] 29 (0, 0)) Z40 hb); have n3_ := Aside0.mk (below_step Z122 hb); clear BK268; clear BK269; clear BK270; clear HB; have BK268 := n0_; have BK269 := n1_; have BK270 := n2_; have HB := n3_; clear n0_ n1_ n2_ n3_; (try clear hb)))
   go_meet
   case rel => exact ⟨_, (true), Z0, H', ⟨by first | omega | exact Nat.le_refl _⟩, ⟨by (with_reducible repeat (first | refine blk_drewN ?_ _ | refine blk_drew ?_ | refine blk_alloc ?_ _)); exact BK268.out⟩, ⟨by (with_reducible repeat (first | refine blk_drewN ?_ _ | refine blk_drew ?_ | refine blk_alloc ?_ _)); exact BK269.out⟩, ⟨by (with_reducible repeat (first | refine blk_drewN ?_ _ | refine blk_drew ?_ | refine blk_alloc ?_ _)); exact BK270.out⟩, ⟨by repeat (first | (with_reducible first | exact HB.out | apply below_alloc | apply pw_below_drewN | apply below_drew1 | refine below_set ?_ GE268.out | refine below_set ?_ GE269.out | refine below_set ?_ GE270.out) | exact HB.out)⟩⟩
 case rest =>
  clear HC3
  try clear c1
  try clear c2
  try clear p2
  try clear c7
  try clear c8
  try clear c10
  try clear c11
  try clear c14
  try clear c17
  try clear c18
  try clear hcz12_0
  try clear hcz15_0
  try clear hcz15_1
  try clear hcz19_0
  try clear hfz12_0
  try clear hfz15_0
  try clear hfz15_1
  try clear hfz19_0
  obtain ⟨kq, x13_2, rfl, HA, HJ2, BK268, BK269, BK270, HB⟩ := hcut
  cases kq with
  | zero => exact absurd HA.out (by simp [spec_MapPut.j0])
  | succ kj2 =>
   have H := HA.out
   clear HA
   simp only [spec_MapPut.j0] at H
   by_cases c21 : x13_2 = true
   ·subst c21
    have H1 : (some (([] : List (S43)), 0)) = some (r1, r2) := by rw [if_pos rfl] at H; exact H
    clear H
    have H := H1
    clear H1
    simp only [Option.some.injEq, Prod.mk.injEq] at H
    obtain ⟨rfl, rfl⟩ := H
    have hnb22 := NB270_268.out
    have hnc22 := NB268_270.out
    have hnb23 := NB270_269.out
    have hnc23 := NB269_270.out
    have hcz24_0 : wc.cell? ⟨gb270, 0, none⟩ = some (.slice none 0 0) := (blk_cell BK270.out 0).trans rfl
    have hfz24_0 := blk_frozen BK270.out 0
    go_wp2
    refine bodyPost_ret (results_ct rfl _ _ gb270 29 #[.slice none 0 0] (0, 0) _ rfl Z145 Tryd.underlying29 rfl (by kernel_rfl)) rfl ?_
    exact ⟨_, by first | rfl | (simp [errW_none, errW_some] <;> rfl) | (simp [*, errW_none, errW_some] <;> rfl), by first | exact Kd.R_nil _ _ _ _ _ | exact Kd.N_nil _ _ _ _ _ | exact Kd.V_nil _ _ _ _ _ | exact Kd.Q_nil _ _ _ _ _ | exact Kd.S_nil _ _ _ _ _, by repeat (first | (with_reducible first | exact HB.out | apply below_alloc | apply pw_below_drewN | apply below_drew1 | refine below_set ?_ GE268.out | refine below_set ?_ GE269.out | refine below_set ?_ GE270.out) | exact HB.out)⟩
   ·replace c21 := Bool.eq_false_iff.mpr c21
    subst c21
    have H1 : ((spec_l3Copy.f l0_0).bind fun t273 => ((spec_l3Put.f kj2 t273 a1_0 a1_1).bind fun bt276 => (some (bt276.1, bt276.2)))) = some (r1, r2) := by rw [if_neg (show ¬ (false = true) by decide)] at H; exact H
    clear H
    have H := H1
    clear H1
    replace H := Option.bind_eq_some_iff.mp H
    obtain ⟨t273, A250, H⟩ := H
    replace H : ((spec_l3Put.f kj2 t273 a1_0 a1_1).bind fun bt276 => (some (bt276.1, bt276.2))) = some (r1, r2) := H
    have A25 := Aside0.mk A250
    clear A250
    replace H := Option.bind_eq_some_iff.mp H
    obtain ⟨⟨t276, t279⟩, A260, H⟩ := H
    replace H : (some (t276, t279)) = some (r1, r2) := H
    have A26 := Aside0.mk A260
    clear A260
    simp only [Option.some.injEq, Prod.mk.injEq] at H
    obtain ⟨rfl, rfl⟩ := H
    try go_wp2
    have n0_ := Aside0.mk (blk_drew BK268.out)
    have n1_ := Aside0.mk (blk_drew BK269.out)
    have n2_ := Aside0.mk (blk_drew BK270.out)
    have n3_ := Aside0.mk (below_drew1 HB.out)
    clear BK268
    clear BK269
    clear BK270
    clear HB
    have BK268 := n0_
    have BK269 := n1_
    have BK270 := n2_
    have HB := n3_
    clear n0_ n1_ n2_ n3_
    refine start_ (n := 8) (S := fun w' => w'.cell? ⟨gb268, 0, none⟩ = some (.slice A0_0 l0_0.length c0_0) ∧ w'.cell? ⟨gb269, 0, none⟩ = some (.int .i64 a1_0) ∧ w'.cell? ⟨gb269, 1, none⟩ = some (.int .i64 a1_1)) (ds := []) #[false, false, false, false, false, false, false, false] (by kernel_rfl) rfl rfl ⟨(blk_cell BK268.out 0).trans rfl, (blk_cell BK269.out 0).trans rfl, (blk_cell BK269.out 1).trans rfl⟩ (fun hHeld => ?_); refine with_tabW spec_MapPut.tab3 spec_MapPut.bits3 (fun HT_ HW_ => ?_)
    generalize wc.drew = w27 at BK268 BK269 BK270 HB hHeld ⊢
    refine take_ (i := 0) (N := some 15) (v := ?_) (a' := ?_) #[true, false, false, false, false, false, false, false] rfl rfl (take_ofW HT_.out HW_.out (by kernel_rfl)) (fun _ _ _ h => h) (Or.inl ⟨by rfl, ?_⟩) hHeld ?_ ?_
    rotate_left
    ·rintro w' ⟨s0, s1, s2⟩
     go_simp
     with_reducible rfl
    rotate_left
    ·simp only [Act.put, List.setIfInBounds_toArray, List.set_cons_zero, List.set_cons_succ, i64_w, i32_w]
     rfl
    refine take_ (i := 2) (N := some 17) (v := ?_) (a' := ?_) #[true, false, true, false, false, false, false, false] rfl rfl (take_ofW HT_.out HW_.out (by kernel_rfl)) (fun _ _ _ h => h) (Or.inl ⟨by rfl, ?_⟩) hHeld ?_ ?_
    rotate_left
    ·rintro w' ⟨s0, s1, s2⟩
     go_simp
     with_reducible rfl
    rotate_left
    ·simp only [Act.put, List.setIfInBounds_toArray, List.set_cons_zero, List.set_cons_succ, i64_w, i32_w]
     rfl
    refine one_ (i := 1) (N := some 16) #[true, true, true, false, false, false, false, false] rfl rfl (one_of HT_.out (by kernel_rfl)) (by decide) (fun K hK => ?_)
    refine goes_ Tryd.func90 (by kernel_rfl) rfl #[.agg #[.slice A0_0 l0_0.length c0_0]] (by rfl) rfl rfl Z56 ?_
    with_reducible refine (spec_l3Copy.calls _ _ l0_0 t273 _ ?side1 ?side2 A25.out).mono ?_
    (case side1 => exact Z89)
    (case side2 => exact HC0_0.out)
    rintro e w28 ⟨v274, rfl, ho0, hb⟩
    refine ⟨_, rfl, ?_⟩
    have n0_ := Aside0.mk (Kd.R_lower (Kd.R_newB ho0 (g := gb269) (o := .cells #[.int .i64 a1_0, .int .i64 a1_1] 43 (0, 0)) Z39) (below_size Z122))
    have n1_ := Aside0.mk (blk_below (g := gb268) (o := .cells #[.slice A0_0 l0_0.length c0_0] 29 (0, 0)) Z38 hb)
    have n2_ := Aside0.mk (blk_below (g := gb269) (o := .cells #[.int .i64 a1_0, .int .i64 a1_1] 43 (0, 0)) Z39 hb)
    have n3_ := Aside0.mk (blk_below (g := gb270) (o := .cells #[.slice none 0 0] 29 (0, 0)) Z40 hb)
    have n4_ := Aside0.mk (below_step Z122 hb)
    clear BK268
    clear BK269
    clear BK270
    clear HB
    have HO275 := n0_
    have BK268 := n1_
    have BK269 := n2_
    have BK270 := n3_
    have HB := n4_
    clear n0_ n1_ n2_ n3_ n4_
    (try clear hb)
    (try clear hb2)
    (try clear hk)
    (try clear hi)
    (try clear ho0)
    obtain ⟨Ao29, co29, eo29⟩ := Kd.R_slice HO275.out
    (first | subst eo29 | (injection eo29 with f1_ f2_ f3_; have f4_ := f1_.symm; have f5_ := f3_.symm; clear f1_ f2_ f3_; subst f4_; subst f5_))
    refine hK.out _ _ ⟨(blk_cell BK268.out 0).trans rfl, (blk_cell BK269.out 0).trans rfl, (blk_cell BK269.out 1).trans rfl⟩ (fun hHeld => ?_)
    clear hK K
    refine norm_ (a' := ?_) ?_ ?_
    rotate_left
    ·show Act.put _ (some 16) _ = _
     simp only [Act.put, List.setIfInBounds_toArray, List.set_cons_zero, List.set_cons_succ, i64_w, i32_w]
     rfl
    refine one_ (i := 3) (N := some 18) #[true, true, true, true, false, false, false, false] rfl rfl (one_of HT_.out (by kernel_rfl)) (by decide) (fun K hK => ?_)
    refine goes_ Tryd.func89 (by kernel_rfl) rfl #[.agg #[.slice Ao29 t273.length co29], .agg #[.int .i64 a1_0, .int .i64 a1_1]] (by rfl) rfl rfl Z56 ?_
    with_reducible refine (spec_l3Put.calls kj2 (fun k_ => some k_ = (.slice Ao29 t273.length co29 : Value).ownBlock) (.slice Ao29 t273.length co29) t273 a1_0 a1_1 t276 t279 w _ ?side1 ?side2 A26.out).mono ?_
    (case side1 => repeat (first | (with_reducible first | exact HB.out | apply below_alloc | apply pw_below_drewN | apply below_drew1 | refine below_set ?_ GE268.out | refine below_set ?_ GE269.out | refine below_set ?_ GE270.out) | exact HB.out))
    (case side2 => exact Kd.R_tight rfl HO275.out)
    rintro e w30 ⟨v277, rfl, ho0, hb, hkp⟩
    refine ⟨_, rfl, ?_⟩
    have n0_ := Aside0.mk (blk_kept Z38 hkp (fun hs_ => (fun e_ => (Kd.R_ne HO275.out BK268.out (by decide)) e_) hs_))
    have n1_ := Aside0.mk (blk_kept Z39 hkp (fun hs_ => (fun e_ => (Kd.R_away HO275.out (fun _ hk => hk.2)) e_) hs_))
    have n2_ := Aside0.mk (blk_kept Z40 hkp (fun hs_ => (fun e_ => (Kd.R_ne HO275.out BK270.out (by decide)) e_) hs_))
    have n3_ := Aside0.mk (Kd.R_mono (ok' := fun k_ => k_ ≠ gb269) ho0 (fun k_ hk_ => Or.elim hk_ (fun hs_ => fun e_ => (Kd.R_away HO275.out (fun _ hk => hk.2)) (by rw [← e_]; exact hs_)) (fun hn_ => (Kd.freshB (g := gb269) (o := .cells #[.int .i64 a1_0, .int .i64 a1_1] 43 (0, 0)) Z39 k_ hn_))))
    have n4_ := Aside0.mk (hb)
    clear BK268
    clear BK269
    clear BK270
    clear HB
    clear HO275
    have BK268 := n0_
    have BK269 := n1_
    have BK270 := n2_
    have HO278 := n3_
    have HB := n4_
    clear n0_ n1_ n2_ n3_ n4_
    (try clear hb)
    (try clear hkp)
    (try clear ho0)
    obtain ⟨Ao31, co31, eo31⟩ := Kd.R_slice HO278.out
    (first | subst eo31 | (injection eo31 with f1_ f2_ f3_; have f4_ := f1_.symm; have f5_ := f3_.symm; clear f1_ f2_ f3_; subst f4_; subst f5_))
    refine hK.out _ _ ⟨(blk_cell BK268.out 0).trans rfl, (blk_cell BK269.out 0).trans rfl, (blk_cell BK269.out 1).trans rfl⟩ (fun hHeld => ?_)
    clear hK K
    refine norm_ (a' := ?_) ?_ ?_
    rotate_left
    ·show Act.put _ (some 18) _ = _
     simp only [Act.put, List.setIfInBounds_toArray, List.set_cons_zero, List.set_cons_succ, i64_w, i32_w]
     rfl
    refine pure_ (i := 4) (N := some 19) (v := ?_) (a' := ?_) #[true, true, true, true, true, false, false, false] rfl rfl (any_of HT_.out (by kernel_rfl)) (fun _ _ _ h => h) (Or.inl ⟨by rfl, ?_⟩) ?_ ?_
    rotate_left
    ·intro w'
     go_simp
     with_reducible rfl
    rotate_left
    ·simp only [Act.put, List.setIfInBounds_toArray, List.set_cons_zero, List.set_cons_succ, i64_w, i32_w]
     rfl
    refine pure_ (i := 5) (N := some 20) (v := ?_) (a' := ?_) #[true, true, true, true, true, true, false, false] rfl rfl (any_of HT_.out (by kernel_rfl)) (fun _ _ _ h => h) (Or.inl ⟨by rfl, ?_⟩) ?_ ?_
    rotate_left
    ·intro w'
     go_simp
     with_reducible rfl
    rotate_left
    ·simp only [Act.put, List.setIfInBounds_toArray, List.set_cons_zero, List.set_cons_succ, i64_w, i32_w]
     rfl
    refine one_ (i := 6) (N := none) #[true, true, true, true, true, true, true, false] rfl rfl (one_of HT_.out (by kernel_rfl)) (by decide) (fun K hK => ?_)
    have hs32 : w30.cell? ⟨gb270, 0, none⟩ = some (.slice none 0 0) := (blk_cell BK270.out 0).trans rfl
    have hfs32 := blk_frozen BK270.out 0
    have hns32_0 := NB268_270.out
    have hns32_1 := NB269_270.out
    have hms32_0 := NB270_268.out
    have hms32_1 := NB270_269.out
    refine skip_ (w1 := ?_) (by rfl) rfl ?_ ?_
    rotate_left
    ·go_simp
     rfl
    refine hK.out _ _ ⟨((cell_far (p := ⟨gb270, _, none⟩) NB268_270.out _).trans (hHeld.1)), ((cell_far (p := ⟨gb270, _, none⟩) NB269_270.out _).trans (hHeld.2.1)), ((cell_far (p := ⟨gb270, _, none⟩) NB269_270.out _).trans (hHeld.2.2))⟩ (fun hHeld => ?_)
    clear hK K
    refine pure_ (i := 7) (N := some 5) (v := ?_) (a' := ?_) #[true, true, true, true, true, true, true, true] rfl rfl (any_of HT_.out (by kernel_rfl)) (fun _ _ _ h => h) (Or.inl ⟨by rfl, ?_⟩) ?_ ?_
    rotate_left
    ·intro w'
     go_simp
     with_reducible rfl
    rotate_left
    ·simp only [Act.put, List.setIfInBounds_toArray, List.set_cons_zero, List.set_cons_succ, i64_w, i32_w]
     rfl
    refine done_ (done_of HT_.out (by kernel_rfl)) ?_
    try go_wp2
    refine bodyPost_ret (results_ct rfl _ _ gb270 29 #[.slice Ao31 t276.length co31] (0, 0) _ rfl Z145 Tryd.underlying29 rfl (by kernel_rfl)) rfl ?_
    exact ⟨_, by first | rfl | (simp [errW_none, errW_some] <;> rfl) | (simp [*, errW_none, errW_some] <;> rfl), by (with_reducible repeat (first | apply Kd.R_alloc | apply Kd.R_drewN | apply Kd.R_drew)); exact Kd.R_mono (Kd.R_far (p := ⟨gb270, 0, none⟩) (Kd.R_types HO278.out BK270.out (by decide)) (fun _ hk => hk.2) (.slice Ao31 t276.length co31)) (fun _ hk => trivial), by repeat (first | (with_reducible first | exact HB.out | apply below_alloc | apply pw_below_drewN | apply below_drew1 | refine below_set ?_ GE268.out | refine below_set ?_ GE269.out | refine below_set ?_ GE270.out) | exact HB.out)⟩

/-! ### spec_l20In: function 78 -/
def spec_l20In.f (k : Nat) (s0_0 : List Int) (s0_1 : Int) : Option (Int × Int × Int) := (spec_l20Rd_pick.f k s0_0 s0_1 4).bind fun bt281 => ((spec_l20Rd_pick.f k s0_0 bt281.2 40).bind fun bt283 => ((some (([7, 20, 300, 999, wrap64 (1 + bt283.1)] : List Int) : List Int)).bind fun y285 => ((spec_l20Rd_pick.f k s0_0 bt283.2 5).bind fun bt288 => (if 0 ≤ bt288.1 then (if bt288.1 < (y285.length : Int) then (some (wrap64 (1 + bt281.1), rd y285 bt288.1, bt288.2)) else (none)) else (none)))))
theorem spec_l20In.mono : ∀ a0 a1 k, LeO (spec_l20In.f k a0 a1) (spec_l20In.f (k + 1) a0 a1) := by
 intro a0 a1 k
 unfold spec_l20In.f
 repeat' first
   | (with_reducible exact spec_l20Rd_pick.mono _ _ _ _)
   | (with_reducible exact LeO.refl _)
   | (with_reducible exact LeO.none _)
   | (with_reducible refine LeO.ite ?_ ?_)
   | (with_reducible refine LeO.bind ?_ (fun _ => ?_))
   | exact spec_l20Rd_pick.mono _ _ _ _
   | exact LeO.none _
   | refine LeO.ite ?_ ?_
   | refine LeO.bind ?_ (fun _ => ?_)
set_option maxHeartbeats 8000000 in
set_option maxRecDepth 100000 in
theorem spec_l20In.calls (k : Nat) (g : Nat) (s0_0 : List Int) (s0_1 : Int) (r1 : Int) (r2 : Int) (r3 : Int) (w0 w : World) (hI : IsS85 w0 w g s0_0 s0_1) (hB : Below w0.heap.size w0 w) (h : spec_l20In.f k s0_0 s0_1 = some (r1, r2, r3)) :
  Calls Tryd.prog 78 #[.pointer (some ⟨g, 0, none⟩)] w fun e w' => e = .returned (.agg #[.int .i64 r1, .int .i64 r2]) ∧ IsS85 w0 w' g s0_0 r3 ∧ Below w0.heap.size w0 w' ∧ KeepBut w w' g none := by
 have hu43 := Tryd.underlying43
 have HI0 := Aside0.mk hI
 have HK := Aside0.mk (KeepBut.refl w g none)
 have HL := Aside0.mk hB.size
 clear hI
 have HW0 := Aside0.mk hB.size
 have HB := Aside0.mk hB
 clear hB
 have H : ((spec_l20Rd_pick.f k s0_0 s0_1 4).bind fun bt281 => ((spec_l20Rd_pick.f k s0_0 bt281.2 40).bind fun bt283 => ((some (([7, 20, 300, 999, wrap64 (1 + bt283.1)] : List Int) : List Int)).bind fun y285 => ((spec_l20Rd_pick.f k s0_0 bt283.2 5).bind fun bt288 => (if 0 ≤ bt288.1 then (if bt288.1 < (y285.length : Int) then (some (wrap64 (1 + bt281.1), rd y285 bt288.1, bt288.2)) else (none)) else (none)))))) = some (r1, r2, r3) := h
 clear h
 replace H := Option.bind_eq_some_iff.mp H
 obtain ⟨⟨t281, t282⟩, A20, H⟩ := H
 replace H : ((spec_l20Rd_pick.f k s0_0 t282 40).bind fun bt283 => ((some (([7, 20, 300, 999, wrap64 (1 + bt283.1)] : List Int) : List Int)).bind fun y285 => ((spec_l20Rd_pick.f k s0_0 bt283.2 5).bind fun bt288 => (if 0 ≤ bt288.1 then (if bt288.1 < (y285.length : Int) then (some (wrap64 (1 + t281), rd y285 bt288.1, bt288.2)) else (none)) else (none))))) = some (r1, r2, r3) := H
 have A2 := Aside0.mk A20
 clear A20
 replace H := Option.bind_eq_some_iff.mp H
 obtain ⟨⟨t283, t284⟩, A30, H⟩ := H
 replace H : ((some (([7, 20, 300, 999, wrap64 (1 + t283)] : List Int) : List Int)).bind fun y285 => ((spec_l20Rd_pick.f k s0_0 t284 5).bind fun bt288 => (if 0 ≤ bt288.1 then (if bt288.1 < (y285.length : Int) then (some (wrap64 (1 + t281), rd y285 bt288.1, bt288.2)) else (none)) else (none)))) = some (r1, r2, r3) := H
 have A3 := Aside0.mk A30
 clear A30
 obtain ⟨y285, hy285⟩ : ∃ y_ : List Int, y_ = (([7, 20, 300, 999, wrap64 (1 + t283)] : List Int)) := ⟨_, rfl⟩
 replace H : ((spec_l20Rd_pick.f k s0_0 t284 5).bind fun bt288 => (if 0 ≤ bt288.1 then (if bt288.1 < (y285.length : Int) then (some (wrap64 (1 + t281), rd y285 bt288.1, bt288.2)) else (none)) else (none))) = some (r1, r2, r3) := by first | (rw [hy285]; with_reducible exact H) | (have H2_ := (Option.bind_some _ _).symm.trans H; rw [hy285]; with_reducible exact H2_) | (have H2_ := (Option.bind_some _ _).symm.trans H; with_reducible exact H2_) | with_reducible exact H | (rw [hy285]; exact H) | exact H
 have Ny285 := Aside0.mk hy285
 clear hy285
 replace H := Option.bind_eq_some_iff.mp H
 obtain ⟨⟨t288, t289⟩, A40, H⟩ := H
 replace H : (if 0 ≤ t288 then (if t288 < (y285.length : Int) then (some (wrap64 (1 + t281), rd y285 t288, t289)) else (none)) else (none)) = some (r1, r2, r3) := H
 have A4 := Aside0.mk A40
 clear A40
 by_cases c5 : 0 ≤ t288
 ·rw [if_pos c5] at H
  have c5b0 : decide (0 ≤ t288) = true := decide_eq_true c5
  clear c5
  by_cases c6 : t288 < (y285.length : Int)
  ·rw [if_pos c6] at H
   have c6b0 : decide (t288 < (y285.length : Int)) = true := decide_eq_true c6
   clear c6
   simp only [Option.some.injEq, Prod.mk.injEq] at H
   obtain ⟨rfl, rfl, rfl⟩ := H
   go_enter Tryd.func78, Tryd.ntmps78
   go_wp2_with (first | ((with_reducible refine gate_dst (N := 2) rfl ?_); refine box_event ?hg (N := 2) ?hd (cs := #[.int .i64 0, .int .i64 0]) (t := 43) ?hr ?_; (case hd => rfl); (case hg => rfl); (case hr => first | (go_simp; done) | (go_simp; rfl)); intro gb280 hg w7 hbox hb; have n0_ := Aside0.mk (IsS85.below Z59 hb); have n1_ := Aside0.mk (KeepBut.trans Z57 (KeepBut.of_below hb g none) (.inl rfl)); have n2_ := Aside0.mk (below_step Z87 hb); have n3_ := Aside0.mk (hbox); have n4_ := Aside0.mk ((Z165 : w.heap.size ≤ gb280)); have n5_ := Aside0.mk ((Nat.le_trans HW0.out (Z165 : w.heap.size ≤ gb280) : w0.heap.size ≤ gb280)); have n6_ := Aside0.mk ((Z123 : g ≠ gb280)); have n7_ := Aside0.mk ((Z124 : gb280 ≠ g)); clear HI0; clear HK; clear HB; have HI0 := n0_; have HK := n1_; have HB := n2_; have BK280 := n3_; have GW280 := n4_; have GE280 := n5_; have NB0_280 := n6_; have NB280_0 := n7_; clear n0_ n1_ n2_ n3_ n4_ n5_ n6_ n7_; clear hb hbox hg) | ((with_reducible refine gate_callee (f := 56) rfl ?_); refine goesL_ (some 4) rfl rfl Tryd.func56 (by kernel_rfl) rfl #[.pointer (some ⟨g, 0, none⟩), .int .i64 4] rfl Z56 ?_; (with_reducible refine (spec_l20Rd_pick.calls k g s0_0 s0_1 4 t281 t282 w0 _ ?side1 ?side2 A2.out).mono ?_); (case side1 => exact Z99); (case side2 => exact Z113); rintro e w8 ⟨rfl, hi, hb, hk⟩; refine ⟨_, rfl, ?_⟩; have n0_ := Aside0.mk (KeepBut.blk hk (g' := gb280) (o := .cells #[.int .i64 0, .int .i64 0] 43 (0, 0)) Z41 NB280_0.out (by simp)); have n1_ := Aside0.mk (KeepBut.trans Z96 hk (.inl rfl)); have n2_ := Aside0.mk (hb); have n3_ := Aside0.mk (hi); clear BK280; clear HK; clear HB; clear HI0; have BK280 := n0_; have HK := n1_; have HB := n2_; have HI0 := n3_; clear n0_ n1_ n2_ n3_; (try clear hb); (try clear hk); (try clear hi)) | ((with_reducible refine gate_callee (f := 56) rfl ?_); refine goesL_ (some 7) rfl rfl Tryd.func56 (by kernel_rfl) rfl #[.pointer (some ⟨g, 0, none⟩), .int .i64 40] rfl Z56 ?_; (with_reducible refine (spec_l20Rd_pick.calls k g s0_0 t282 40 t283 t284 w0 _ ?side1 ?side2 A3.out).mono ?_); (case side1 => exact Z99); (case side2 => exact Z113); rintro e w9 ⟨rfl, hi, hb, hk⟩; refine ⟨_, rfl, ?_⟩; have n0_ := Aside0.mk (KeepBut.blk hk (g' := gb280) (o := .cells #[.int .i64 0, .int .i64 0] 43 (0, 0)) Z41 NB280_0.out (by simp)); have n1_ := Aside0.mk (KeepBut.trans Z96 hk (.inl rfl)); have n2_ := Aside0.mk (hb); have n3_ := Aside0.mk (hi); clear BK280; clear HK; clear HB; clear HI0; have BK280 := n0_; have HK := n1_; have HB := n2_; have HI0 := n3_; clear n0_ n1_ n2_ n3_; (try clear hb); (try clear hk); (try clear hi)) | ((with_reducible refine gate_dst (N := 9) rfl ?_); refine Kd.R_lit (Kd.int .i64) _ 3 ?hg (N := 9) ?hd (xs := ([7, 20, 300, 999, wrap64 (1 + t283)] : List Int)) (inner := [.int .i64 7, .int .i64 20, .int .i64 300, .int .i64 999, .int .i64 (wrap64 (1 + t283))]) (ok := fun _ => True) (okp := fun _ => True) ?hr ?hp (fun _ hk => hk) trivial (Below.refl _ _) (Nat.le_refl _) (by simp) ?_; (case hd => rfl); (case hg => rfl); (case hr => first | (go_simp; done) | (go_simp; rfl)); (case hp => exact (Reps.one (show Kd.M (Kd.int .i64) _ _ _ 7 [.int .i64 7] from rfl) (Reps.one (show Kd.M (Kd.int .i64) _ _ _ 20 [.int .i64 20] from rfl) (Reps.one (show Kd.M (Kd.int .i64) _ _ _ 300 [.int .i64 300] from rfl) (Reps.one (show Kd.M (Kd.int .i64) _ _ _ 999 [.int .i64 999] from rfl) (Reps.one (show Kd.M (Kd.int .i64) _ _ _ (wrap64 (1 + t283)) [.int .i64 (wrap64 (1 + t283))] from rfl) (Reps.none _ _))))))); intro v286 w10 ho11 hb hg_ hnew_; clear hg_ hnew_; (first | rw [← Ny285.out] at ho11 | (simp only [Int.reduceToNat] at ho11; rw [← Ny285.out] at ho11)); have n0_ := Aside0.mk (Kd.R_lower ho11 (keep_size (w := w) (g := g) (row := none) Z96)); have n1_ := Aside0.mk (IsS85.below (by repeat (first | (with_reducible first | exact HI0.out | apply IsS85.alloc | apply IsS85.drewN | apply IsS85.drew | apply IsS85.set_1 | refine IsS85.far ?_ NB0_280.out _) | exact HI0.out)) hb); have n2_ := Aside0.mk (blk_below (g := gb280) (o := .cells #[.int .i64 0, .int .i64 0] 43 (0, 0)) Z41 hb); have n3_ := Aside0.mk (KeepBut.trans Z96 (KeepBut.of_below hb g none) (.inl rfl)); have n4_ := Aside0.mk (below_step (by repeat (first | (with_reducible first | exact HB.out | apply below_alloc | apply pw_below_drewN | apply below_drew1 | refine below_set ?_ (IsS85.ge HI0.out) | refine below_set ?_ GE280.out) | exact HB.out)) hb); clear HI0; clear BK280; clear HK; clear HB; have HO287 := n0_; have HI0 := n1_; have BK280 := n2_; have HK := n3_; have HB := n4_; clear n0_ n1_ n2_ n3_ n4_; clear hb ho11) | ((with_reducible refine gate_callee (f := 56) rfl ?_); refine goesL_ (some 11) rfl rfl Tryd.func56 (by kernel_rfl) rfl #[.pointer (some ⟨g, 0, none⟩), .int .i64 5] rfl Z56 ?_; (with_reducible refine (spec_l20Rd_pick.calls k g s0_0 t284 5 t288 t289 w0 _ ?side1 ?side2 A4.out).mono ?_); (case side1 => exact Z99); (case side2 => exact Z113); rintro e w12 ⟨rfl, hi, hb, hk⟩; refine ⟨_, rfl, ?_⟩; have n0_ := Aside0.mk (KeepBut.blk hk (g' := gb280) (o := .cells #[.int .i64 0, .int .i64 0] 43 (0, 0)) Z41 NB280_0.out (by simp)); have n1_ := Aside0.mk (Kd.R_mono (Kd.R_keep (IsS85.apart (show IsS85 w0 _ g s0_0 t284 from by repeat (first | (with_reducible first | exact HI0.out | apply IsS85.alloc | apply IsS85.drewN | apply IsS85.drew | apply IsS85.set_1 | refine IsS85.far ?_ NB0_280.out _) | exact HI0.out)) (by (with_reducible repeat (first | apply Kd.R_alloc | apply Kd.R_drewN | apply Kd.R_drew)); exact HO287.out) (by decide)) hk (fun _ h => h.2)) (fun _ h => h.1)); have n2_ := Aside0.mk (KeepBut.trans Z96 hk (.inl rfl)); have n3_ := Aside0.mk (hb); have n4_ := Aside0.mk (hi); clear BK280; clear HO287; clear HK; clear HB; clear HI0; have BK280 := n0_; have HO287 := n1_; have HK := n2_; have HB := n3_; have HI0 := n4_; clear n0_ n1_ n2_ n3_ n4_; (try clear hb); (try clear hk); (try clear hi); obtain ⟨Ao13, co13, eo13⟩ := Kd.R_slice HO287.out; subst eo13; have p290 : 0 ≤ (t288 : Int) := of_decide_eq_true Z1; have q290 : t288 < (y285.length : Int) := of_decide_eq_true Z1; obtain ⟨ad290, e290, hx290_0⟩ := Kd.at_int (Kd.R_reads' HO287.out).2.2 t288 p290 q290; cases e290; replace p290 := eq_true p290; replace q290 := eq_true q290; have hnb14 := NB280_0.out; have hnc14 := NB0_280.out; have hcz15_0 : w12.cell? ⟨gb280, 0, none⟩ = some (.int .i64 0) := (blk_cell BK280.out 0).trans rfl; have hcz15_1 : w12.cell? ⟨gb280, 1, none⟩ = some (.int .i64 0) := (blk_cell BK280.out 1).trans rfl; have hfz15_0 := blk_frozen BK280.out 0; have hfz15_1 := blk_frozen BK280.out 1))
   refine bodyPost_ret (results_cell_row rfl _ _ gb280 43 #[.int .i64 (wrap64 (1 + t281)), .int .i64 (rd y285 t288)] (0, 0) _ rfl (by (with_reducible repeat (first | refine blk_drewN ?_ _ | refine blk_drew ?_ | refine blk_alloc ?_ _)); refine blk_put (cs := #[.int .i64 (wrap64 (1 + t281)), .int .i64 0]) ?_ 1 _ rfl; (with_reducible repeat (first | refine blk_drewN ?_ _ | refine blk_drew ?_ | refine blk_alloc ?_ _)); refine blk_put (cs := #[.int .i64 0, .int .i64 0]) ?_ 0 _ rfl; (with_reducible repeat (first | refine blk_drewN ?_ _ | refine blk_drew ?_ | refine blk_alloc ?_ _)); exact BK280.out) Tryd.underlying43 rfl (by kernel_rfl)) rfl ?_
   exact ⟨by first | rfl | (simp [errW_none, errW_some] <;> rfl) | (simp [*, errW_none, errW_some] <;> rfl), by repeat (first | (with_reducible first | exact HI0.out | apply IsS85.alloc | apply IsS85.drewN | apply IsS85.drew | apply IsS85.set_1 | refine IsS85.far ?_ NB0_280.out _) | exact HI0.out), by repeat (first | (with_reducible first | exact HB.out | apply below_alloc | apply pw_below_drewN | apply below_drew1 | refine below_set ?_ (IsS85.ge HI0.out) | refine below_set ?_ GE280.out) | exact HB.out), by repeat (first | (with_reducible first | exact HK.out | apply KeepBut.set_ | apply keep_drewN | apply keep_drew | apply keep_alloc | refine keep_far ?_ GW280.out _) | exact HK.out)⟩
  ·rw [if_neg c6] at H
   exact absurd H (by simp)
 ·rw [if_neg c5] at H
  exact absurd H (by simp)

/-! ### spec_l20Rd_odd: function 79 -/
def spec_l20Rd_odd.f (k : Nat) (s0_0 : List Int) (s0_1 : Int) (a1 : Int) : Option (Bool × Int) := if a1 < 9000 then ((spec_l20Rd_pick.f k s0_0 s0_1 a1).bind fun bt291 => (some ((bt291.1 == (wrap64 (a1 - 1))), bt291.2))) else (some (false, s0_1))
theorem spec_l20Rd_odd.mono : ∀ a0 a1 a2 k, LeO (spec_l20Rd_odd.f k a0 a1 a2) (spec_l20Rd_odd.f (k + 1) a0 a1 a2) := by
 intro a0 a1 a2 k
 unfold spec_l20Rd_odd.f
 repeat' first
   | (with_reducible exact spec_l20Rd_pick.mono _ _ _ _)
   | (with_reducible exact LeO.refl _)
   | (with_reducible exact LeO.none _)
   | (with_reducible refine LeO.ite ?_ ?_)
   | (with_reducible refine LeO.bind ?_ (fun _ => ?_))
   | exact spec_l20Rd_pick.mono _ _ _ _
   | exact LeO.none _
   | refine LeO.ite ?_ ?_
   | refine LeO.bind ?_ (fun _ => ?_)
set_option maxHeartbeats 8000000 in
set_option maxRecDepth 100000 in
theorem spec_l20Rd_odd.calls (k : Nat) (g : Nat) (s0_0 : List Int) (s0_1 : Int) (a1 : Int) (r1 : Bool) (r2 : Int) (w0 w : World) (hI : IsS85 w0 w g s0_0 s0_1) (hB : Below w0.heap.size w0 w) (h : spec_l20Rd_odd.f k s0_0 s0_1 a1 = some (r1, r2)) :
  Calls Tryd.prog 79 #[.pointer (some ⟨g, 0, none⟩), .int .i64 a1] w fun e w' => e = .returned (.bool r1) ∧ IsS85 w0 w' g s0_0 r2 ∧ Below w0.heap.size w0 w' ∧ KeepBut w w' g none := by
 have HI0 := Aside0.mk hI
 have HK := Aside0.mk (KeepBut.refl w g none)
 have HL := Aside0.mk hB.size
 clear hI
 have HW0 := Aside0.mk hB.size
 have HB := Aside0.mk hB
 clear hB
 have H : (if a1 < 9000 then ((spec_l20Rd_pick.f k s0_0 s0_1 a1).bind fun bt291 => (some ((bt291.1 == (wrap64 (a1 - 1))), bt291.2))) else (some (false, s0_1))) = some (r1, r2) := h
 clear h
 by_cases c3 : a1 < 9000
 ·rw [if_pos c3] at H
  have c3b0 : decide (a1 < 9000) = true := decide_eq_true c3
  clear c3
  replace H := Option.bind_eq_some_iff.mp H
  obtain ⟨⟨t291, t292⟩, A40, H⟩ := H
  replace H : (some ((t291 == (wrap64 (a1 - 1))), t292)) = some (r1, r2) := H
  have A4 := Aside0.mk A40
  clear A40
  simp only [Option.some.injEq, Prod.mk.injEq] at H
  obtain ⟨rfl, rfl⟩ := H
  go_enter Tryd.func79, Tryd.ntmps79
  go_wp2_with (first | (go_at_call 56; (with_reducible refine (spec_l20Rd_pick.calls k g s0_0 s0_1 a1 t291 t292 w0 _ ?side1 ?side2 A4.out).mono ?_); (case side1 => exact Z58); (case side2 => exact Z84); rintro e w5 ⟨rfl, hi, hb, hk⟩; have n0_ := Aside0.mk (KeepBut.trans Z57 hk (.inl rfl)); have n1_ := Aside0.mk (hb); have n2_ := Aside0.mk (hi); clear HK; clear HB; clear HI0; have HK := n0_; have HB := n1_; have HI0 := n2_; clear n0_ n1_ n2_; (try clear hb); (try clear hk); (try clear hi)))
  go_ret
  exact ⟨by first | rfl | (simp [errW_none, errW_some] <;> rfl) | (simp [*, errW_none, errW_some] <;> rfl), by repeat (first | (with_reducible first | exact HI0.out | apply IsS85.alloc | apply IsS85.drewN | apply IsS85.drew | apply IsS85.set_1) | exact HI0.out), by repeat (first | (with_reducible first | exact HB.out | apply below_alloc | apply pw_below_drewN | apply below_drew1 | refine below_set ?_ (IsS85.ge HI0.out)) | exact HB.out), by repeat (first | (with_reducible first | exact HK.out | apply KeepBut.set_ | apply keep_drewN | apply keep_drew | apply keep_alloc) | exact HK.out)⟩
 ·rw [if_neg c3] at H
  have c3b0 : decide (a1 < 9000) = false := decide_eq_false c3
  clear c3
  simp only [Option.some.injEq, Prod.mk.injEq] at H
  obtain ⟨rfl, rfl⟩ := H
  go_enter Tryd.func79, Tryd.ntmps79
  go_wp2
  go_ret
  exact ⟨by first | rfl | (simp [errW_none, errW_some] <;> rfl) | (simp [*, errW_none, errW_some] <;> rfl), by repeat (first | (with_reducible first | exact HI0.out | apply IsS85.alloc | apply IsS85.drewN | apply IsS85.drew | apply IsS85.set_1) | exact HI0.out), by repeat (first | (with_reducible first | exact HB.out | apply below_alloc | apply pw_below_drewN | apply below_drew1 | refine below_set ?_ (IsS85.ge HI0.out)) | exact HB.out), by repeat (first | (with_reducible first | exact HK.out | apply KeepBut.set_ | apply keep_drewN | apply keep_drew | apply keep_alloc) | exact HK.out)⟩

/-! ### spec_l20Out: function 80 -/
def spec_l20Out.f (k : Nat) (s0_0 : List Int) (s0_1 : Int) : Option (Int × Int × Int) := (spec_l20Rd_pick.f k s0_0 s0_1 3).bind fun bt294 => ((some (([21, 21, 80, 7] : List Int) : List Int)).bind fun y296 => ((spec_l20Rd_pick.f k s0_0 bt294.2 4).bind fun bt299 => (if 0 ≤ bt299.1 then (if bt299.1 < (y296.length : Int) then (some (wrap64 (100 + bt294.1), rd y296 bt299.1, bt299.2)) else (none)) else (none))))
theorem spec_l20Out.mono : ∀ a0 a1 k, LeO (spec_l20Out.f k a0 a1) (spec_l20Out.f (k + 1) a0 a1) := by
 intro a0 a1 k
 unfold spec_l20Out.f
 repeat' first
   | (with_reducible exact spec_l20Rd_pick.mono _ _ _ _)
   | (with_reducible exact LeO.refl _)
   | (with_reducible exact LeO.none _)
   | (with_reducible refine LeO.ite ?_ ?_)
   | (with_reducible refine LeO.bind ?_ (fun _ => ?_))
   | exact spec_l20Rd_pick.mono _ _ _ _
   | exact LeO.none _
   | refine LeO.ite ?_ ?_
   | refine LeO.bind ?_ (fun _ => ?_)
set_option maxHeartbeats 8000000 in
set_option maxRecDepth 100000 in
theorem spec_l20Out.calls (k : Nat) (g : Nat) (s0_0 : List Int) (s0_1 : Int) (r1 : Int) (r2 : Int) (r3 : Int) (w0 w : World) (hI : IsS85 w0 w g s0_0 s0_1) (hB : Below w0.heap.size w0 w) (h : spec_l20Out.f k s0_0 s0_1 = some (r1, r2, r3)) :
  Calls Tryd.prog 80 #[.pointer (some ⟨g, 0, none⟩)] w fun e w' => e = .returned (.agg #[.int .i64 r1, .int .i64 r2]) ∧ IsS85 w0 w' g s0_0 r3 ∧ Below w0.heap.size w0 w' ∧ KeepBut w w' g none := by
 have hu43 := Tryd.underlying43
 have HI0 := Aside0.mk hI
 have HK := Aside0.mk (KeepBut.refl w g none)
 have HL := Aside0.mk hB.size
 clear hI
 have HW0 := Aside0.mk hB.size
 have HB := Aside0.mk hB
 clear hB
 have H : ((spec_l20Rd_pick.f k s0_0 s0_1 3).bind fun bt294 => ((some (([21, 21, 80, 7] : List Int) : List Int)).bind fun y296 => ((spec_l20Rd_pick.f k s0_0 bt294.2 4).bind fun bt299 => (if 0 ≤ bt299.1 then (if bt299.1 < (y296.length : Int) then (some (wrap64 (100 + bt294.1), rd y296 bt299.1, bt299.2)) else (none)) else (none))))) = some (r1, r2, r3) := h
 clear h
 replace H := Option.bind_eq_some_iff.mp H
 obtain ⟨⟨t294, t295⟩, A20, H⟩ := H
 replace H : ((some (([21, 21, 80, 7] : List Int) : List Int)).bind fun y296 => ((spec_l20Rd_pick.f k s0_0 t295 4).bind fun bt299 => (if 0 ≤ bt299.1 then (if bt299.1 < (y296.length : Int) then (some (wrap64 (100 + t294), rd y296 bt299.1, bt299.2)) else (none)) else (none)))) = some (r1, r2, r3) := H
 have A2 := Aside0.mk A20
 clear A20
 obtain ⟨y296, hy296⟩ : ∃ y_ : List Int, y_ = (([21, 21, 80, 7] : List Int)) := ⟨_, rfl⟩
 replace H : ((spec_l20Rd_pick.f k s0_0 t295 4).bind fun bt299 => (if 0 ≤ bt299.1 then (if bt299.1 < (y296.length : Int) then (some (wrap64 (100 + t294), rd y296 bt299.1, bt299.2)) else (none)) else (none))) = some (r1, r2, r3) := by first | (rw [hy296]; with_reducible exact H) | (have H2_ := (Option.bind_some _ _).symm.trans H; rw [hy296]; with_reducible exact H2_) | (have H2_ := (Option.bind_some _ _).symm.trans H; with_reducible exact H2_) | with_reducible exact H | (rw [hy296]; exact H) | exact H
 have Ny296 := Aside0.mk hy296
 clear hy296
 replace H := Option.bind_eq_some_iff.mp H
 obtain ⟨⟨t299, t300⟩, A30, H⟩ := H
 replace H : (if 0 ≤ t299 then (if t299 < (y296.length : Int) then (some (wrap64 (100 + t294), rd y296 t299, t300)) else (none)) else (none)) = some (r1, r2, r3) := H
 have A3 := Aside0.mk A30
 clear A30
 by_cases c4 : 0 ≤ t299
 ·rw [if_pos c4] at H
  have c4b0 : decide (0 ≤ t299) = true := decide_eq_true c4
  clear c4
  by_cases c5 : t299 < (y296.length : Int)
  ·rw [if_pos c5] at H
   have c5b0 : decide (t299 < (y296.length : Int)) = true := decide_eq_true c5
   clear c5
   simp only [Option.some.injEq, Prod.mk.injEq] at H
   obtain ⟨rfl, rfl, rfl⟩ := H
   go_enter Tryd.func80, Tryd.ntmps80
   go_wp2_with (first | ((with_reducible refine gate_dst (N := 2) rfl ?_); refine box_event ?hg (N := 2) ?hd (cs := #[.int .i64 0, .int .i64 0]) (t := 43) ?hr ?_; (case hd => rfl); (case hg => rfl); (case hr => first | (go_simp; done) | (go_simp; rfl)); intro gb293 hg w6 hbox hb; have n0_ := Aside0.mk (IsS85.below Z59 hb); have n1_ := Aside0.mk (KeepBut.trans Z57 (KeepBut.of_below hb g none) (.inl rfl)); have n2_ := Aside0.mk (below_step Z87 hb); have n3_ := Aside0.mk (hbox); have n4_ := Aside0.mk ((Z165 : w.heap.size ≤ gb293)); have n5_ := Aside0.mk ((Nat.le_trans HW0.out (Z165 : w.heap.size ≤ gb293) : w0.heap.size ≤ gb293)); have n6_ := Aside0.mk ((Z123 : g ≠ gb293)); have n7_ := Aside0.mk ((Z124 : gb293 ≠ g)); clear HI0; clear HK; clear HB; have HI0 := n0_; have HK := n1_; have HB := n2_; have BK293 := n3_; have GW293 := n4_; have GE293 := n5_; have NB0_293 := n6_; have NB293_0 := n7_; clear n0_ n1_ n2_ n3_ n4_ n5_ n6_ n7_; clear hb hbox hg) | ((with_reducible refine gate_callee (f := 56) rfl ?_); refine goesL_ (some 4) rfl rfl Tryd.func56 (by kernel_rfl) rfl #[.pointer (some ⟨g, 0, none⟩), .int .i64 3] rfl Z56 ?_; (with_reducible refine (spec_l20Rd_pick.calls k g s0_0 s0_1 3 t294 t295 w0 _ ?side1 ?side2 A2.out).mono ?_); (case side1 => exact Z100); (case side2 => exact Z114); rintro e w7 ⟨rfl, hi, hb, hk⟩; refine ⟨_, rfl, ?_⟩; have n0_ := Aside0.mk (KeepBut.blk hk (g' := gb293) (o := .cells #[.int .i64 0, .int .i64 0] 43 (0, 0)) Z42 NB293_0.out (by simp)); have n1_ := Aside0.mk (KeepBut.trans Z97 hk (.inl rfl)); have n2_ := Aside0.mk (hb); have n3_ := Aside0.mk (hi); clear BK293; clear HK; clear HB; clear HI0; have BK293 := n0_; have HK := n1_; have HB := n2_; have HI0 := n3_; clear n0_ n1_ n2_ n3_; (try clear hb); (try clear hk); (try clear hi)) | ((with_reducible refine gate_dst (N := 6) rfl ?_); refine Kd.R_lit (Kd.int .i64) _ 3 ?hg (N := 6) ?hd (xs := ([21, 21, 80, 7] : List Int)) (inner := [.int .i64 21, .int .i64 21, .int .i64 80, .int .i64 7]) (ok := fun _ => True) (okp := fun _ => True) ?hr ?hp (fun _ hk => hk) trivial (Below.refl _ _) (Nat.le_refl _) (by simp) ?_; (case hd => rfl); (case hg => rfl); (case hr => first | (go_simp; done) | (go_simp; rfl)); (case hp => exact (Reps.one (show Kd.M (Kd.int .i64) _ _ _ 21 [.int .i64 21] from rfl) (Reps.one (show Kd.M (Kd.int .i64) _ _ _ 21 [.int .i64 21] from rfl) (Reps.one (show Kd.M (Kd.int .i64) _ _ _ 80 [.int .i64 80] from rfl) (Reps.one (show Kd.M (Kd.int .i64) _ _ _ 7 [.int .i64 7] from rfl) (Reps.none _ _)))))); intro v297 w8 ho9 hb hg_ hnew_; clear hg_ hnew_; (first | rw [← Ny296.out] at ho9 | (simp only [Int.reduceToNat] at ho9; rw [← Ny296.out] at ho9)); have n0_ := Aside0.mk (Kd.R_lower ho9 (keep_size (w := w) (g := g) (row := none) Z97)); have n1_ := Aside0.mk (IsS85.below (by repeat (first | (with_reducible first | exact HI0.out | apply IsS85.alloc | apply IsS85.drewN | apply IsS85.drew | apply IsS85.set_1 | refine IsS85.far ?_ NB0_293.out _) | exact HI0.out)) hb); have n2_ := Aside0.mk (blk_below (g := gb293) (o := .cells #[.int .i64 0, .int .i64 0] 43 (0, 0)) Z42 hb); have n3_ := Aside0.mk (KeepBut.trans Z97 (KeepBut.of_below hb g none) (.inl rfl)); have n4_ := Aside0.mk (below_step (by repeat (first | (with_reducible first | exact HB.out | apply below_alloc | apply pw_below_drewN | apply below_drew1 | refine below_set ?_ (IsS85.ge HI0.out) | refine below_set ?_ GE293.out) | exact HB.out)) hb); clear HI0; clear BK293; clear HK; clear HB; have HO298 := n0_; have HI0 := n1_; have BK293 := n2_; have HK := n3_; have HB := n4_; clear n0_ n1_ n2_ n3_ n4_; clear hb ho9) | ((with_reducible refine gate_callee (f := 56) rfl ?_); refine goesL_ (some 8) rfl rfl Tryd.func56 (by kernel_rfl) rfl #[.pointer (some ⟨g, 0, none⟩), .int .i64 4] rfl Z56 ?_; (with_reducible refine (spec_l20Rd_pick.calls k g s0_0 t295 4 t299 t300 w0 _ ?side1 ?side2 A3.out).mono ?_); (case side1 => exact Z100); (case side2 => exact Z114); rintro e w10 ⟨rfl, hi, hb, hk⟩; refine ⟨_, rfl, ?_⟩; have n0_ := Aside0.mk (KeepBut.blk hk (g' := gb293) (o := .cells #[.int .i64 0, .int .i64 0] 43 (0, 0)) Z42 NB293_0.out (by simp)); have n1_ := Aside0.mk (Kd.R_mono (Kd.R_keep (IsS85.apart (show IsS85 w0 _ g s0_0 t295 from by repeat (first | (with_reducible first | exact HI0.out | apply IsS85.alloc | apply IsS85.drewN | apply IsS85.drew | apply IsS85.set_1 | refine IsS85.far ?_ NB0_293.out _) | exact HI0.out)) (by (with_reducible repeat (first | apply Kd.R_alloc | apply Kd.R_drewN | apply Kd.R_drew)); exact HO298.out) (by decide)) hk (fun _ h => h.2)) (fun _ h => h.1)); have n2_ := Aside0.mk (KeepBut.trans Z97 hk (.inl rfl)); have n3_ := Aside0.mk (hb); have n4_ := Aside0.mk (hi); clear BK293; clear HO298; clear HK; clear HB; clear HI0; have BK293 := n0_; have HO298 := n1_; have HK := n2_; have HB := n3_; have HI0 := n4_; clear n0_ n1_ n2_ n3_ n4_; (try clear hb); (try clear hk); (try clear hi); obtain ⟨Ao11, co11, eo11⟩ := Kd.R_slice HO298.out; subst eo11; have p301 : 0 ≤ (t299 : Int) := of_decide_eq_true Z1; have q301 : t299 < (y296.length : Int) := of_decide_eq_true Z1; obtain ⟨ad301, e301, hx301_0⟩ := Kd.at_int (Kd.R_reads' HO298.out).2.2 t299 p301 q301; cases e301; replace p301 := eq_true p301; replace q301 := eq_true q301; have hnb12 := NB293_0.out; have hnc12 := NB0_293.out; have hcz13_0 : w10.cell? ⟨gb293, 0, none⟩ = some (.int .i64 0) := (blk_cell BK293.out 0).trans rfl; have hcz13_1 : w10.cell? ⟨gb293, 1, none⟩ = some (.int .i64 0) := (blk_cell BK293.out 1).trans rfl; have hfz13_0 := blk_frozen BK293.out 0; have hfz13_1 := blk_frozen BK293.out 1))
   refine bodyPost_ret (results_cell_row rfl _ _ gb293 43 #[.int .i64 (wrap64 (100 + t294)), .int .i64 (rd y296 t299)] (0, 0) _ rfl (by (with_reducible repeat (first | refine blk_drewN ?_ _ | refine blk_drew ?_ | refine blk_alloc ?_ _)); refine blk_put (cs := #[.int .i64 (wrap64 (100 + t294)), .int .i64 0]) ?_ 1 _ rfl; (with_reducible repeat (first | refine blk_drewN ?_ _ | refine blk_drew ?_ | refine blk_alloc ?_ _)); refine blk_put (cs := #[.int .i64 0, .int .i64 0]) ?_ 0 _ rfl; (with_reducible repeat (first | refine blk_drewN ?_ _ | refine blk_drew ?_ | refine blk_alloc ?_ _)); exact BK293.out) Tryd.underlying43 rfl (by kernel_rfl)) rfl ?_
   exact ⟨by first | rfl | (simp [errW_none, errW_some] <;> rfl) | (simp [*, errW_none, errW_some] <;> rfl), by repeat (first | (with_reducible first | exact HI0.out | apply IsS85.alloc | apply IsS85.drewN | apply IsS85.drew | apply IsS85.set_1 | refine IsS85.far ?_ NB0_293.out _) | exact HI0.out), by repeat (first | (with_reducible first | exact HB.out | apply below_alloc | apply pw_below_drewN | apply below_drew1 | refine below_set ?_ (IsS85.ge HI0.out) | refine below_set ?_ GE293.out) | exact HB.out), by repeat (first | (with_reducible first | exact HK.out | apply KeepBut.set_ | apply keep_drewN | apply keep_drew | apply keep_alloc | refine keep_far ?_ GW293.out _) | exact HK.out)⟩
  ·rw [if_neg c5] at H
   exact absurd H (by simp)
 ·rw [if_neg c4] at H
  exact absurd H (by simp)

end Go.Proofs.YtlofgoahgnllkaaDoor.QFnBakAgain
