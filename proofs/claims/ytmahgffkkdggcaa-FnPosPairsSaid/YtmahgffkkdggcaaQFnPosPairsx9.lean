-- Laid by a program of this repo (wip/tools/sprint.py): print.py's functions and walks; the contracts named 'BY HAND' are proved by hand.
import Derived.Test.YtmahgffkkdggcaaQFnPosPairsx0
import Derived.Test.YtmahgffkkdggcaaQFnPosPairsx7
namespace Go.Proofs.Ytmahgffkkdggcaa.QFnPosPairs
open Go.RowKit Go.Proofs.YtmahgffkkdggcaaW.PrintWords Go.Proofs.YtmahgffkkdggcaaW.PrintLast Go.Proofs.YtmahgffkkdggcaaW.PrintMore
attribute [local go_sem] max2_int min2_int max_two min_two max_three min_three max_four min_four   -- for this text's walks alone
set_option linter.unusedVariables false
set_option linter.unusedSimpArgs false

/-! ### spec_MapPort: function 85 -/
def spec_MapPort.f (k : Nat) (l0_0 : List (S80)) (a1_0 : Int) (a1_1 : Int) : Option (Int) := (spec_l3Find.f k l0_0 a1_0 a1_1).bind fun t279 => (if t279 < 0 then (some 0) else (some (wrap64 (500 + t279))))
theorem spec_MapPort.mono : ∀ a0 a1 a2 k, LeO (spec_MapPort.f k a0 a1 a2) (spec_MapPort.f (k + 1) a0 a1 a2) := by
 intro a0 a1 a2 k
 unfold spec_MapPort.f
 repeat' first
   | (with_reducible exact spec_l3Find.mono _ _ _ _)
   | (with_reducible exact LeO.refl _)
   | (with_reducible exact LeO.none _)
   | (with_reducible refine LeO.ite ?_ ?_)
   | (with_reducible refine LeO.bind ?_ (fun _ => ?_))
   | exact spec_l3Find.mono _ _ _ _
   | exact LeO.none _
   | refine LeO.ite ?_ ?_
   | refine LeO.bind ?_ (fun _ => ?_)
set_option maxHeartbeats 8000000 in
set_option maxRecDepth 100000 in
theorem spec_MapPort.calls (k : Nat) (A0_0 : Option Addr) (c0_0 : Nat) (l0_0 : List (S80)) (a1_0 : Int) (a1_1 : Int) (r : Int) (w : World) (hr0_0 : Kd.C k80 w A0_0 l0_0.length l0_0) (hc0_0 : l0_0.length ≤ c0_0) (h : spec_MapPort.f k l0_0 a1_0 a1_1 = some r) :
  Calls Try.prog 85 #[.agg #[.slice A0_0 l0_0.length c0_0], .agg #[.int .i64 a1_0, .int .i64 a1_1]] w fun e w' => e = .returned (.int .i64 r) ∧ Below w.heap.size w w' := by
 have hu61 := Try.underlying61
 have hu80 := Try.underlying80
 have HR0_0 := Aside0.mk hr0_0
 have HC0_0 := Aside0.mk hc0_0
 clear hr0_0 hc0_0
 have HB := Aside0.mk (Below.refl w.heap.size w)
 have H : ((spec_l3Find.f k l0_0 a1_0 a1_1).bind fun t279 => (if t279 < 0 then (some 0) else (some (wrap64 (500 + t279))))) = some r := h
 clear h
 replace H := Option.bind_eq_some_iff.mp H
 obtain ⟨t279, A30, H⟩ := H
 replace H : (if t279 < 0 then (some 0) else (some (wrap64 (500 + t279)))) = some r := H
 have A3 := Aside0.mk A30
 clear A30
 by_cases c4 : t279 < 0
 ·rw [if_pos c4] at H
  have c4b0 : decide (t279 < 0) = true := decide_eq_true c4
  clear c4
  obtain rfl := Option.some.inj H
  go_enter Try.func85, Try.ntmps85
  go_wp2_with (first | ((with_reducible refine gate_dst (N := 2) rfl ?_); refine box_event ?hg (N := 2) ?hd (cs := #[.slice A0_0 l0_0.length c0_0]) (t := 61) ?hr ?_; (case hd => rfl); (case hg => rfl); (case hr => first | (go_simp; done) | (go_simp; rfl)); intro gb277 hg w5 hbox hb; have n0_ := Aside0.mk (below_step Z80 hb); have n1_ := Aside0.mk (hbox); have n2_ := Aside0.mk ((Z196 : w.heap.size ≤ gb277)); have n3_ := Aside0.mk ((Z196 : w.heap.size ≤ gb277)); clear HB; have HB := n0_; have BK277 := n1_; have GW277 := n2_; have GE277 := n3_; clear n0_ n1_ n2_ n3_; clear hb hbox hg) | ((with_reducible refine gate_dst (N := 3) rfl ?_); refine box_event ?hg (N := 3) ?hd (cs := #[.int .i64 a1_0, .int .i64 a1_1]) (t := 80) ?hr ?_; (case hd => rfl); (case hg => rfl); (case hr => first | (go_simp; done) | (go_simp; rfl)); intro gb278 hg w6 hbox hb; have n0_ := Aside0.mk (blk_below (g := gb277) (o := .cells #[.slice A0_0 l0_0.length c0_0] 61 (0, 0)) Z34 hb); have n1_ := Aside0.mk (below_step Z99 hb); have n2_ := Aside0.mk (hbox); have n3_ := Aside0.mk ((by rw [hg]; exact (below_size Z99) : w.heap.size ≤ gb278)); have n4_ := Aside0.mk ((by rw [hg]; exact (below_size Z99) : w.heap.size ≤ gb278)); have n5_ := Aside0.mk ((Z216 : gb277 ≠ gb278)); have n6_ := Aside0.mk ((Z217 : gb278 ≠ gb277)); clear BK277; clear HB; have BK277 := n0_; have HB := n1_; have BK278 := n2_; have GW278 := n3_; have GE278 := n4_; have NB277_278 := n5_; have NB278_277 := n6_; clear n0_ n1_ n2_ n3_ n4_ n5_ n6_; clear hb hbox hg; have hnb7 := NB277_278.out; have hnc7 := NB278_277.out; have hcz8_0 : w6.cell? ⟨gb277, 0, none⟩ = some (.slice A0_0 l0_0.length c0_0) := (blk_cell BK277.out 0).trans rfl; have hfz8_0 := blk_frozen BK277.out 0; have hcz9_0 : w6.cell? ⟨gb278, 0, none⟩ = some (.int .i64 a1_0) := (blk_cell BK278.out 0).trans rfl; have hcz9_1 : w6.cell? ⟨gb278, 1, none⟩ = some (.int .i64 a1_1) := (blk_cell BK278.out 1).trans rfl; have hfz9_0 := blk_frozen BK278.out 0; have hfz9_1 := blk_frozen BK278.out 1) | ((with_reducible refine gate_callee (f := 78) rfl ?_); refine goesL_ (some 8) rfl rfl Try.func78 (by kernel_rfl) rfl #[.agg #[.slice A0_0 l0_0.length c0_0], .agg #[.int .i64 a1_0, .int .i64 a1_1]] rfl Z84 ?_; (with_reducible refine (spec_l3Find.calls k _ _ l0_0 a1_0 a1_1 t279 _ ?side1 ?side2 A3.out).mono ?_); (case side1 => exact Z117); (case side2 => exact HC0_0.out); rintro e w10 ⟨rfl, hb⟩; refine ⟨_, rfl, ?_⟩; have n0_ := Aside0.mk (blk_below (g := gb277) (o := .cells #[.slice A0_0 l0_0.length c0_0] 61 (0, 0)) Z34 hb); have n1_ := Aside0.mk (blk_below (g := gb278) (o := .cells #[.int .i64 a1_0, .int .i64 a1_1] 80 (0, 0)) Z35 hb); have n2_ := Aside0.mk (below_step Z129 hb); clear BK277; clear BK278; clear HB; have BK277 := n0_; have BK278 := n1_; have HB := n2_; clear n0_ n1_ n2_; (try clear hb)))
  go_ret
  exact ⟨by first | rfl | (simp [errW_none, errW_some] <;> rfl) | (simp [*, errW_none, errW_some] <;> rfl), by repeat (first | (with_reducible first | exact HB.out | apply below_alloc | apply pw_below_drewN | apply below_drew1 | refine below_set ?_ GE277.out | refine below_set ?_ GE278.out) | exact HB.out)⟩
 ·rw [if_neg c4] at H
  have c4b0 : decide (t279 < 0) = false := decide_eq_false c4
  clear c4
  obtain rfl := Option.some.inj H
  go_enter Try.func85, Try.ntmps85
  go_wp2_with (first | ((with_reducible refine gate_dst (N := 2) rfl ?_); refine box_event ?hg (N := 2) ?hd (cs := #[.slice A0_0 l0_0.length c0_0]) (t := 61) ?hr ?_; (case hd => rfl); (case hg => rfl); (case hr => first | (go_simp; done) | (go_simp; rfl)); intro gb277 hg w11 hbox hb; have n0_ := Aside0.mk (below_step Z80 hb); have n1_ := Aside0.mk (hbox); have n2_ := Aside0.mk ((Z196 : w.heap.size ≤ gb277)); have n3_ := Aside0.mk ((Z196 : w.heap.size ≤ gb277)); clear HB; have HB := n0_; have BK277 := n1_; have GW277 := n2_; have GE277 := n3_; clear n0_ n1_ n2_ n3_; clear hb hbox hg) | ((with_reducible refine gate_dst (N := 3) rfl ?_); refine box_event ?hg (N := 3) ?hd (cs := #[.int .i64 a1_0, .int .i64 a1_1]) (t := 80) ?hr ?_; (case hd => rfl); (case hg => rfl); (case hr => first | (go_simp; done) | (go_simp; rfl)); intro gb278 hg w12 hbox hb; have n0_ := Aside0.mk (blk_below (g := gb277) (o := .cells #[.slice A0_0 l0_0.length c0_0] 61 (0, 0)) Z34 hb); have n1_ := Aside0.mk (below_step Z99 hb); have n2_ := Aside0.mk (hbox); have n3_ := Aside0.mk ((by rw [hg]; exact (below_size Z99) : w.heap.size ≤ gb278)); have n4_ := Aside0.mk ((by rw [hg]; exact (below_size Z99) : w.heap.size ≤ gb278)); have n5_ := Aside0.mk ((Z216 : gb277 ≠ gb278)); have n6_ := Aside0.mk ((Z217 : gb278 ≠ gb277)); clear BK277; clear HB; have BK277 := n0_; have HB := n1_; have BK278 := n2_; have GW278 := n3_; have GE278 := n4_; have NB277_278 := n5_; have NB278_277 := n6_; clear n0_ n1_ n2_ n3_ n4_ n5_ n6_; clear hb hbox hg; have hnb13 := NB277_278.out; have hnc13 := NB278_277.out; have hcz14_0 : w12.cell? ⟨gb277, 0, none⟩ = some (.slice A0_0 l0_0.length c0_0) := (blk_cell BK277.out 0).trans rfl; have hfz14_0 := blk_frozen BK277.out 0; have hcz15_0 : w12.cell? ⟨gb278, 0, none⟩ = some (.int .i64 a1_0) := (blk_cell BK278.out 0).trans rfl; have hcz15_1 : w12.cell? ⟨gb278, 1, none⟩ = some (.int .i64 a1_1) := (blk_cell BK278.out 1).trans rfl; have hfz15_0 := blk_frozen BK278.out 0; have hfz15_1 := blk_frozen BK278.out 1) | ((with_reducible refine gate_callee (f := 78) rfl ?_); refine goesL_ (some 8) rfl rfl Try.func78 (by kernel_rfl) rfl #[.agg #[.slice A0_0 l0_0.length c0_0], .agg #[.int .i64 a1_0, .int .i64 a1_1]] rfl Z84 ?_; (with_reducible refine (spec_l3Find.calls k _ _ l0_0 a1_0 a1_1 t279 _ ?side1 ?side2 A3.out).mono ?_); (case side1 => exact Z117); (case side2 => exact HC0_0.out); rintro e w16 ⟨rfl, hb⟩; refine ⟨_, rfl, ?_⟩; have n0_ := Aside0.mk (blk_below (g := gb277) (o := .cells #[.slice A0_0 l0_0.length c0_0] 61 (0, 0)) Z34 hb); have n1_ := Aside0.mk (blk_below (g := gb278) (o := .cells #[.int .i64 a1_0, .int .i64 a1_1] 80 (0, 0)) Z35 hb); have n2_ := Aside0.mk (below_step Z129 hb); clear BK277; clear BK278; clear HB; have BK277 := n0_; have BK278 := n1_; have HB := n2_; clear n0_ n1_ n2_; (try clear hb)))
  go_ret
  exact ⟨by first | rfl | (simp [errW_none, errW_some] <;> rfl) | (simp [*, errW_none, errW_some] <;> rfl), by repeat (first | (with_reducible first | exact HB.out | apply below_alloc | apply pw_below_drewN | apply below_drew1 | refine below_set ?_ GE277.out | refine below_set ?_ GE278.out) | exact HB.out)⟩

/-! ### spec_l3Put: function 76 -/
def spec_l3Put.f (k : Nat) (l0_0 : List (S80)) (a1_0 : Int) (a1_1 : Int) : Option ((List (S80)) × Int) := (spec_MapPort.f k l0_0 a1_0 a1_1).bind fun t283 => (if t283 > 0 then (some (l0_0, t283)) else (if (l0_0.length : Int) = 6 then (some (l0_0, 0)) else ((some (([] : List (S80)) : List (S80))).bind fun y284 => (if y284.length + l0_0.length < 8796093022208 then ((some (y284 ++ l0_0 : List (S80))).bind fun y287 => ((some (([(⟨a1_0, a1_1⟩ : S80)] : List (S80)) : List (S80))).bind fun y290 => (if y287.length + y290.length < 8796093022208 then ((some (y287 ++ y290 : List (S80))).bind fun y293 => (some (y293, wrap64 ((wrap64 (500 + (y293.length : Int))) - 1)))) else (none)))) else (none)))))
theorem spec_l3Put.mono : ∀ a0 a1 a2 k, LeO (spec_l3Put.f k a0 a1 a2) (spec_l3Put.f (k + 1) a0 a1 a2) := by
 intro a0 a1 a2 k
 unfold spec_l3Put.f
 repeat' first
   | (with_reducible exact spec_MapPort.mono _ _ _ _)
   | (with_reducible exact LeO.refl _)
   | (with_reducible exact LeO.none _)
   | (with_reducible refine LeO.ite ?_ ?_)
   | (with_reducible refine LeO.bind ?_ (fun _ => ?_))
   | exact spec_MapPort.mono _ _ _ _
   | exact LeO.none _
   | refine LeO.ite ?_ ?_
   | refine LeO.bind ?_ (fun _ => ?_)
def spec_l3Put.T6 : Bool × List (List Nat × List Nat) := (true, [([], []), ([], []), ([1], [1]), ([0, 2], [0, 2]), ([], []), ([4], [4]), ([3, 5, 3], [3, 5]), ([0, 1, 2, 3, 4, 5, 6], []), ([7, 6, 6, 0, 1, 2, 3, 4, 5, 6], [6, 7])])
def spec_l3Put.B6 : List Nat := [0, 0, 2, 7, 0, 16, 63, 127, 255]
theorem spec_l3Put.tab6 : rtab .any (opsOf Try.f76 6) = spec_l3Put.T6 := by kernel_rfl
theorem spec_l3Put.bits6 : waitsOk spec_l3Put.T6.2 spec_l3Put.B6 = true := by kernel_rfl
def spec_l3Put.T7 : Bool × List (List Nat × List Nat) := (true, [([], []), ([], []), ([1], [1]), ([2], [2]), ([3], [3]), ([4], [4]), ([0, 0], [0]), ([5, 6, 0, 1, 2, 3, 4, 5, 6], [5])])
def spec_l3Put.B7 : List Nat := [0, 0, 2, 6, 14, 30, 1, 127]
theorem spec_l3Put.tab7 : rtab .any (opsOf Try.f76 7) = spec_l3Put.T7 := by kernel_rfl
theorem spec_l3Put.bits7 : waitsOk spec_l3Put.T7.2 spec_l3Put.B7 = true := by kernel_rfl
set_option maxHeartbeats 8000000 in
set_option maxRecDepth 100000 in
theorem spec_l3Put.calls (k : Nat) (P0_0_ : Nat → Prop) (u9000_ : Value) (l0_0 : List (S80)) (a1_0 : Int) (a1_1 : Int) (r1 : List (S80)) (r2 : Int) (w0 w : World) (hB : Below w0.heap.size w0 w) (ho0_0 : Kd.R k80 80 w w0.heap.size P0_0_ u9000_ l0_0) (h : spec_l3Put.f k l0_0 a1_0 a1_1 = some (r1, r2)) :
  Calls Try.prog 76 #[.agg #[u9000_], .agg #[.int .i64 a1_0, .int .i64 a1_1]] w fun e w' => ∃ v0_ : Value, e = .returned (.tuple #[.agg #[v0_], .int .i64 r2]) ∧ Kd.R k80 80 w' w0.heap.size (fun k_ => (P0_0_ k_ ∨ w.heap.size ≤ k_)) v0_ r1 ∧ Below w0.heap.size w0 w' ∧ Kept w w' (fun k_ => P0_0_ k_) := by
 have hu61 := Try.underlying61
 have hu80 := Try.underlying80
 have HO0_0 := Aside0.mk (show Kd.R k80 80 w w0.heap.size (fun k_ => (P0_0_ k_ ∨ w.heap.size ≤ k_)) u9000_ l0_0 from Kd.R_mono ho0_0 (fun k_ hk => (.inl hk)))
 have HK := Aside0.mk (Kept.refl w (fun k_ => P0_0_ k_))
 have HW0 := Aside0.mk hB.size
 have HB := Aside0.mk hB
 clear hB
 have H : ((spec_MapPort.f k l0_0 a1_0 a1_1).bind fun t283 => (if t283 > 0 then (some (l0_0, t283)) else (if (l0_0.length : Int) = 6 then (some (l0_0, 0)) else ((some (([] : List (S80)) : List (S80))).bind fun y284 => (if y284.length + l0_0.length < 8796093022208 then ((some (y284 ++ l0_0 : List (S80))).bind fun y287 => ((some (([(⟨a1_0, a1_1⟩ : S80)] : List (S80)) : List (S80))).bind fun y290 => (if y287.length + y290.length < 8796093022208 then ((some (y287 ++ y290 : List (S80))).bind fun y293 => (some (y293, wrap64 ((wrap64 (500 + (y293.length : Int))) - 1)))) else (none)))) else (none)))))) = some (r1, r2) := h
 clear h
 replace H := Option.bind_eq_some_iff.mp H
 obtain ⟨t283, A30, H⟩ := H
 replace H : (if t283 > 0 then (some (l0_0, t283)) else (if (l0_0.length : Int) = 6 then (some (l0_0, 0)) else ((some (([] : List (S80)) : List (S80))).bind fun y284 => (if y284.length + l0_0.length < 8796093022208 then ((some (y284 ++ l0_0 : List (S80))).bind fun y287 => ((some (([(⟨a1_0, a1_1⟩ : S80)] : List (S80)) : List (S80))).bind fun y290 => (if y287.length + y290.length < 8796093022208 then ((some (y287 ++ y290 : List (S80))).bind fun y293 => (some (y293, wrap64 ((wrap64 (500 + (y293.length : Int))) - 1)))) else (none)))) else (none))))) = some (r1, r2) := H
 have A3 := Aside0.mk A30
 clear A30
 by_cases c4 : t283 > 0
 ·rw [if_pos c4] at H
  have c4b0 : decide (0 < t283) = true := decide_eq_true c4
  clear c4
  simp only [Option.some.injEq, Prod.mk.injEq] at H
  obtain ⟨rfl, rfl⟩ := H
  obtain ⟨Ao5, co5, eo5⟩ := Kd.R_slice HO0_0.out
  subst eo5
  go_enter Try.func76, Try.ntmps76
  go_wp2_with (first | ((with_reducible refine gate_dst (N := 2) rfl ?_); refine box_event ?hg (N := 2) ?hd (cs := #[.slice Ao5 l0_0.length co5]) (t := 61) ?hr ?_; (case hd => rfl); (case hg => rfl); (case hr => first | (go_simp; done) | (go_simp; rfl)); intro gb280 hg w6 hbox hb; have n0_ := Aside0.mk (Kd.R_below Z13 hb); have n1_ := Aside0.mk (Kept.below (S := (fun k_ => P0_0_ k_)) Z78 hb); have n2_ := Aside0.mk (below_step Z80 hb); have n3_ := Aside0.mk (hbox); have n4_ := Aside0.mk ((Z195 : w.heap.size ≤ gb280)); have n5_ := Aside0.mk ((Z196 : w0.heap.size ≤ gb280)); clear HO0_0; clear HK; clear HB; have HO0_0 := n0_; have HK := n1_; have HB := n2_; have BK280 := n3_; have GW280 := n4_; have GE280 := n5_; clear n0_ n1_ n2_ n3_ n4_ n5_; clear hb hbox hg) | ((with_reducible refine gate_dst (N := 3) rfl ?_); refine box_event ?hg (N := 3) ?hd (cs := #[.int .i64 a1_0, .int .i64 a1_1]) (t := 80) ?hr ?_; (case hd => rfl); (case hg => rfl); (case hr => first | (go_simp; done) | (go_simp; rfl)); intro gb281 hg w7 hbox hb; have n0_ := Aside0.mk (Kd.R_below (Kd.R_elderB Z13 gb281 (Nat.le_of_eq hg.symm)) hb); have n1_ := Aside0.mk (blk_below (g := gb280) (o := .cells #[.slice Ao5 l0_0.length co5] 61 (0, 0)) Z36 hb); have n2_ := Aside0.mk (Kept.below (S := (fun k_ => P0_0_ k_)) Z109 hb); have n3_ := Aside0.mk (below_step Z100 hb); have n4_ := Aside0.mk (hbox); have n5_ := Aside0.mk ((by rw [hg]; exact Z160 : w.heap.size ≤ gb281)); have n6_ := Aside0.mk ((by rw [hg]; exact (below_size Z100) : w0.heap.size ≤ gb281)); have n7_ := Aside0.mk ((Z210 : gb280 ≠ gb281)); have n8_ := Aside0.mk ((Z211 : gb281 ≠ gb280)); clear HO0_0; clear BK280; clear HK; clear HB; have HO0_0 := n0_; have BK280 := n1_; have HK := n2_; have HB := n3_; have BK281 := n4_; have GW281 := n5_; have GE281 := n6_; have NB280_281 := n7_; have NB281_280 := n8_; clear n0_ n1_ n2_ n3_ n4_ n5_ n6_ n7_ n8_; clear hb hbox hg) | ((with_reducible refine gate_dst (N := 4) rfl ?_); refine box_event ?hg (N := 4) ?hd (cs := #[.slice none 0 0]) (t := 61) ?hr ?_; (case hd => rfl); (case hg => rfl); (case hr => first | (go_simp; done) | (go_simp; rfl)); intro gb282 hg w8 hbox hb; have n0_ := Aside0.mk (Kd.R_below Z13 hb); have n1_ := Aside0.mk (blk_below (g := gb280) (o := .cells #[.slice Ao5 l0_0.length co5] 61 (0, 0)) Z36 hb); have n2_ := Aside0.mk (blk_below (g := gb281) (o := .cells #[.int .i64 a1_0, .int .i64 a1_1] 80 (0, 0)) Z37 hb); have n3_ := Aside0.mk (Kept.below (S := (fun k_ => P0_0_ k_)) Z143 hb); have n4_ := Aside0.mk (below_step Z130 hb); have n5_ := Aside0.mk (hbox); have n6_ := Aside0.mk ((by rw [hg]; exact Z172 : w.heap.size ≤ gb282)); have n7_ := Aside0.mk ((by rw [hg]; exact (below_size Z130) : w0.heap.size ≤ gb282)); have n8_ := Aside0.mk ((Z210 : gb280 ≠ gb282)); have n9_ := Aside0.mk ((Z211 : gb282 ≠ gb280)); have n10_ := Aside0.mk ((Z228 : gb281 ≠ gb282)); have n11_ := Aside0.mk ((Z229 : gb282 ≠ gb281)); clear HO0_0; clear BK280; clear BK281; clear HK; clear HB; have HO0_0 := n0_; have BK280 := n1_; have BK281 := n2_; have HK := n3_; have HB := n4_; have BK282 := n5_; have GW282 := n6_; have GE282 := n7_; have NB280_282 := n8_; have NB282_280 := n9_; have NB281_282 := n10_; have NB282_281 := n11_; clear n0_ n1_ n2_ n3_ n4_ n5_ n6_ n7_ n8_ n9_ n10_ n11_; clear hb hbox hg; have hnb9 := NB280_281.out; have hnc9 := NB281_280.out; have hnb10 := NB280_282.out; have hnc10 := NB282_280.out; have hcz11_0 : w8.cell? ⟨gb280, 0, none⟩ = some (.slice Ao5 l0_0.length co5) := (blk_cell BK280.out 0).trans rfl; have hfz11_0 := blk_frozen BK280.out 0; have hnb12 := NB281_282.out; have hnc12 := NB282_281.out; have hcz13_0 : w8.cell? ⟨gb281, 0, none⟩ = some (.int .i64 a1_0) := (blk_cell BK281.out 0).trans rfl; have hcz13_1 : w8.cell? ⟨gb281, 1, none⟩ = some (.int .i64 a1_1) := (blk_cell BK281.out 1).trans rfl; have hfz13_0 := blk_frozen BK281.out 0; have hfz13_1 := blk_frozen BK281.out 1) | ((with_reducible refine gate_callee (f := 85) rfl ?_); refine goesL_ (some 9) rfl rfl Try.func85 (by kernel_rfl) rfl #[.agg #[.slice Ao5 l0_0.length co5], .agg #[.int .i64 a1_0, .int .i64 a1_1]] rfl Z84 ?_; (with_reducible refine (spec_MapPort.calls k _ _ l0_0 a1_0 a1_1 t283 _ ?side1 ?side2 A3.out).mono ?_); (case side1 => exact Z112); (case side2 => exact (Kd.R_reads' HO0_0.out).2.1); rintro e w14 ⟨rfl, hb⟩; refine ⟨_, rfl, ?_⟩; have n0_ := Aside0.mk (Kd.R_below Z13 hb); have n1_ := Aside0.mk (blk_below (g := gb280) (o := .cells #[.slice Ao5 l0_0.length co5] 61 (0, 0)) Z36 hb); have n2_ := Aside0.mk (blk_below (g := gb281) (o := .cells #[.int .i64 a1_0, .int .i64 a1_1] 80 (0, 0)) Z37 hb); have n3_ := Aside0.mk (blk_below (g := gb282) (o := .cells #[.slice none 0 0] 61 (0, 0)) Z38 hb); have n4_ := Aside0.mk (Kept.below (S := (fun k_ => P0_0_ k_)) Z162 hb); have n5_ := Aside0.mk (below_step Z151 hb); clear HO0_0; clear BK280; clear BK281; clear BK282; clear HK; clear HB; have HO0_0 := n0_; have BK280 := n1_; have BK281 := n2_; have BK282 := n3_; have HK := n4_; have HB := n5_; clear n0_ n1_ n2_ n3_ n4_ n5_; (try clear hb); have hcz15_0 : w14.cell? ⟨gb280, 0, none⟩ = some (.slice Ao5 l0_0.length co5) := (blk_cell BK280.out 0).trans rfl; have hfz15_0 := blk_frozen BK280.out 0; have hcz16_0 : w14.cell? ⟨gb282, 0, none⟩ = some (.slice none 0 0) := (blk_cell BK282.out 0).trans rfl; have hfz16_0 := blk_frozen BK282.out 0))
  refine bodyPost_ret (results_ct rfl _ _ gb282 61 #[.slice Ao5 l0_0.length co5] (0, 0) _ rfl Z167 Try.underlying61 rfl (by kernel_rfl)) rfl ?_
  exact ⟨_, by first | rfl | (simp [errW_none, errW_some] <;> rfl) | (simp [*, errW_none, errW_some] <;> rfl), by (with_reducible repeat (first | apply Kd.R_alloc | apply Kd.R_drewN | apply Kd.R_drew)); exact Kd.R_mono (Kd.R_far (p := ⟨gb282, 0, none⟩) (Kd.R_types HO0_0.out BK282.out (by decide)) (fun _ hk => hk.2) (.slice Ao5 l0_0.length co5)) (fun _ hk => hk.1.1), by repeat (first | (with_reducible first | exact HB.out | apply below_alloc | apply pw_below_drewN | apply below_drew1 | refine below_set ?_ GE280.out | refine below_set ?_ GE281.out | refine below_set ?_ GE282.out) | exact HB.out), by repeat (first | (with_reducible first | exact HK.out | apply Kept.alloc | apply Kept.drewN | apply Kept.drew | refine Kept.setCell ?_ (.inr GW280.out) _ | refine Kept.setCell ?_ (.inr GW281.out) _ | refine Kept.setCell ?_ (.inr GW282.out) _) | exact HK.out)⟩
 ·rw [if_neg c4] at H
  have c4b0 : decide (0 < t283) = false := decide_eq_false c4
  clear c4
  by_cases c17 : (l0_0.length : Int) = 6
  ·rw [if_pos c17] at H
   have c17b0 : ((l0_0.length : Int) == 6) = true := beq_iff_eq.mpr c17
   have c17b1 : ((l0_0.length : Int) != 6) = false := bne_eq_false_iff_eq.mpr c17
   clear c17
   simp only [Option.some.injEq, Prod.mk.injEq] at H
   obtain ⟨rfl, rfl⟩ := H
   obtain ⟨Ao18, co18, eo18⟩ := Kd.R_slice HO0_0.out
   subst eo18
   go_enter Try.func76, Try.ntmps76
   go_wp2_with (first | ((with_reducible refine gate_dst (N := 2) rfl ?_); refine box_event ?hg (N := 2) ?hd (cs := #[.slice Ao18 l0_0.length co18]) (t := 61) ?hr ?_; (case hd => rfl); (case hg => rfl); (case hr => first | (go_simp; done) | (go_simp; rfl)); intro gb280 hg w19 hbox hb; have n0_ := Aside0.mk (Kd.R_below Z13 hb); have n1_ := Aside0.mk (Kept.below (S := (fun k_ => P0_0_ k_)) Z78 hb); have n2_ := Aside0.mk (below_step Z80 hb); have n3_ := Aside0.mk (hbox); have n4_ := Aside0.mk ((Z195 : w.heap.size ≤ gb280)); have n5_ := Aside0.mk ((Z196 : w0.heap.size ≤ gb280)); clear HO0_0; clear HK; clear HB; have HO0_0 := n0_; have HK := n1_; have HB := n2_; have BK280 := n3_; have GW280 := n4_; have GE280 := n5_; clear n0_ n1_ n2_ n3_ n4_ n5_; clear hb hbox hg) | ((with_reducible refine gate_dst (N := 3) rfl ?_); refine box_event ?hg (N := 3) ?hd (cs := #[.int .i64 a1_0, .int .i64 a1_1]) (t := 80) ?hr ?_; (case hd => rfl); (case hg => rfl); (case hr => first | (go_simp; done) | (go_simp; rfl)); intro gb281 hg w20 hbox hb; have n0_ := Aside0.mk (Kd.R_below (Kd.R_elderB Z13 gb281 (Nat.le_of_eq hg.symm)) hb); have n1_ := Aside0.mk (blk_below (g := gb280) (o := .cells #[.slice Ao18 l0_0.length co18] 61 (0, 0)) Z36 hb); have n2_ := Aside0.mk (Kept.below (S := (fun k_ => P0_0_ k_)) Z109 hb); have n3_ := Aside0.mk (below_step Z100 hb); have n4_ := Aside0.mk (hbox); have n5_ := Aside0.mk ((by rw [hg]; exact Z160 : w.heap.size ≤ gb281)); have n6_ := Aside0.mk ((by rw [hg]; exact (below_size Z100) : w0.heap.size ≤ gb281)); have n7_ := Aside0.mk ((Z218 : gb280 ≠ gb281)); have n8_ := Aside0.mk ((Z219 : gb281 ≠ gb280)); clear HO0_0; clear BK280; clear HK; clear HB; have HO0_0 := n0_; have BK280 := n1_; have HK := n2_; have HB := n3_; have BK281 := n4_; have GW281 := n5_; have GE281 := n6_; have NB280_281 := n7_; have NB281_280 := n8_; clear n0_ n1_ n2_ n3_ n4_ n5_ n6_ n7_ n8_; clear hb hbox hg) | ((with_reducible refine gate_dst (N := 4) rfl ?_); refine box_event ?hg (N := 4) ?hd (cs := #[.slice none 0 0]) (t := 61) ?hr ?_; (case hd => rfl); (case hg => rfl); (case hr => first | (go_simp; done) | (go_simp; rfl)); intro gb282 hg w21 hbox hb; have n0_ := Aside0.mk (Kd.R_below Z13 hb); have n1_ := Aside0.mk (blk_below (g := gb280) (o := .cells #[.slice Ao18 l0_0.length co18] 61 (0, 0)) Z36 hb); have n2_ := Aside0.mk (blk_below (g := gb281) (o := .cells #[.int .i64 a1_0, .int .i64 a1_1] 80 (0, 0)) Z37 hb); have n3_ := Aside0.mk (Kept.below (S := (fun k_ => P0_0_ k_)) Z143 hb); have n4_ := Aside0.mk (below_step Z130 hb); have n5_ := Aside0.mk (hbox); have n6_ := Aside0.mk ((by rw [hg]; exact Z172 : w.heap.size ≤ gb282)); have n7_ := Aside0.mk ((by rw [hg]; exact (below_size Z130) : w0.heap.size ≤ gb282)); have n8_ := Aside0.mk ((Z218 : gb280 ≠ gb282)); have n9_ := Aside0.mk ((Z219 : gb282 ≠ gb280)); have n10_ := Aside0.mk ((Z228 : gb281 ≠ gb282)); have n11_ := Aside0.mk ((Z229 : gb282 ≠ gb281)); clear HO0_0; clear BK280; clear BK281; clear HK; clear HB; have HO0_0 := n0_; have BK280 := n1_; have BK281 := n2_; have HK := n3_; have HB := n4_; have BK282 := n5_; have GW282 := n6_; have GE282 := n7_; have NB280_282 := n8_; have NB282_280 := n9_; have NB281_282 := n10_; have NB282_281 := n11_; clear n0_ n1_ n2_ n3_ n4_ n5_ n6_ n7_ n8_ n9_ n10_ n11_; clear hb hbox hg; have hnb22 := NB280_281.out; have hnc22 := NB281_280.out; have hnb23 := NB280_282.out; have hnc23 := NB282_280.out; have hcz24_0 : w21.cell? ⟨gb280, 0, none⟩ = some (.slice Ao18 l0_0.length co18) := (blk_cell BK280.out 0).trans rfl; have hfz24_0 := blk_frozen BK280.out 0; have hnb25 := NB281_282.out; have hnc25 := NB282_281.out; have hcz26_0 : w21.cell? ⟨gb281, 0, none⟩ = some (.int .i64 a1_0) := (blk_cell BK281.out 0).trans rfl; have hcz26_1 : w21.cell? ⟨gb281, 1, none⟩ = some (.int .i64 a1_1) := (blk_cell BK281.out 1).trans rfl; have hfz26_0 := blk_frozen BK281.out 0; have hfz26_1 := blk_frozen BK281.out 1) | ((with_reducible refine gate_callee (f := 85) rfl ?_); refine goesL_ (some 9) rfl rfl Try.func85 (by kernel_rfl) rfl #[.agg #[.slice Ao18 l0_0.length co18], .agg #[.int .i64 a1_0, .int .i64 a1_1]] rfl Z84 ?_; (with_reducible refine (spec_MapPort.calls k _ _ l0_0 a1_0 a1_1 t283 _ ?side1 ?side2 A3.out).mono ?_); (case side1 => exact Z112); (case side2 => exact (Kd.R_reads' HO0_0.out).2.1); rintro e w27 ⟨rfl, hb⟩; refine ⟨_, rfl, ?_⟩; have n0_ := Aside0.mk (Kd.R_below Z13 hb); have n1_ := Aside0.mk (blk_below (g := gb280) (o := .cells #[.slice Ao18 l0_0.length co18] 61 (0, 0)) Z36 hb); have n2_ := Aside0.mk (blk_below (g := gb281) (o := .cells #[.int .i64 a1_0, .int .i64 a1_1] 80 (0, 0)) Z37 hb); have n3_ := Aside0.mk (blk_below (g := gb282) (o := .cells #[.slice none 0 0] 61 (0, 0)) Z38 hb); have n4_ := Aside0.mk (Kept.below (S := (fun k_ => P0_0_ k_)) Z162 hb); have n5_ := Aside0.mk (below_step Z151 hb); clear HO0_0; clear BK280; clear BK281; clear BK282; clear HK; clear HB; have HO0_0 := n0_; have BK280 := n1_; have BK281 := n2_; have BK282 := n3_; have HK := n4_; have HB := n5_; clear n0_ n1_ n2_ n3_ n4_ n5_; (try clear hb); have hcz28_0 : w27.cell? ⟨gb280, 0, none⟩ = some (.slice Ao18 l0_0.length co18) := (blk_cell BK280.out 0).trans rfl; have hfz28_0 := blk_frozen BK280.out 0; have hcz29_0 : w27.cell? ⟨gb282, 0, none⟩ = some (.slice none 0 0) := (blk_cell BK282.out 0).trans rfl; have hfz29_0 := blk_frozen BK282.out 0))
   refine bodyPost_ret (results_ct rfl _ _ gb282 61 #[.slice Ao18 l0_0.length co18] (0, 0) _ rfl Z167 Try.underlying61 rfl (by kernel_rfl)) rfl ?_
   exact ⟨_, by first | rfl | (simp [errW_none, errW_some] <;> rfl) | (simp [*, errW_none, errW_some] <;> rfl), by (with_reducible repeat (first | apply Kd.R_alloc | apply Kd.R_drewN | apply Kd.R_drew)); exact Kd.R_mono (Kd.R_far (p := ⟨gb282, 0, none⟩) (Kd.R_types HO0_0.out BK282.out (by decide)) (fun _ hk => hk.2) (.slice Ao18 l0_0.length co18)) (fun _ hk => hk.1.1), by repeat (first | (with_reducible first | exact HB.out | apply below_alloc | apply pw_below_drewN | apply below_drew1 | refine below_set ?_ GE280.out | refine below_set ?_ GE281.out | refine below_set ?_ GE282.out) | exact HB.out), by repeat (first | (with_reducible first | exact HK.out | apply Kept.alloc | apply Kept.drewN | apply Kept.drew | refine Kept.setCell ?_ (.inr GW280.out) _ | refine Kept.setCell ?_ (.inr GW281.out) _ | refine Kept.setCell ?_ (.inr GW282.out) _) | exact HK.out)⟩
  ·rw [if_neg c17] at H
   have c17b0 : ((l0_0.length : Int) == 6) = false := beq_eq_false_iff_ne.mpr c17
   have c17b1 : ((l0_0.length : Int) != 6) = true := bne_iff_ne.mpr c17
   obtain ⟨y284, hy284⟩ : ∃ y_ : List (S80), y_ = (([] : List (S80))) := ⟨_, rfl⟩
   replace H : (if y284.length + l0_0.length < 8796093022208 then ((some (y284 ++ l0_0 : List (S80))).bind fun y287 => ((some (([(⟨a1_0, a1_1⟩ : S80)] : List (S80)) : List (S80))).bind fun y290 => (if y287.length + y290.length < 8796093022208 then ((some (y287 ++ y290 : List (S80))).bind fun y293 => (some (y293, wrap64 ((wrap64 (500 + (y293.length : Int))) - 1)))) else (none)))) else (none)) = some (r1, r2) := by first | (rw [hy284]; with_reducible exact H) | (have H2_ := (Option.bind_some _ _).symm.trans H; rw [hy284]; with_reducible exact H2_) | (have H2_ := (Option.bind_some _ _).symm.trans H; with_reducible exact H2_) | with_reducible exact H | (rw [hy284]; exact H) | exact H
   have Ny284 := Aside0.mk hy284
   clear hy284
   by_cases c30 : y284.length + l0_0.length < 8796093022208
   ·rw [if_pos c30] at H
    have LMc30 := Aside0.mk c30
    clear c30
    obtain ⟨y287, hy287⟩ : ∃ y_ : List (S80), y_ = (y284 ++ l0_0) := ⟨_, rfl⟩
    replace H : ((some (([(⟨a1_0, a1_1⟩ : S80)] : List (S80)) : List (S80))).bind fun y290 => (if y287.length + y290.length < 8796093022208 then ((some (y287 ++ y290 : List (S80))).bind fun y293 => (some (y293, wrap64 ((wrap64 (500 + (y293.length : Int))) - 1)))) else (none))) = some (r1, r2) := by first | (rw [hy287]; with_reducible exact H) | (have H2_ := (Option.bind_some _ _).symm.trans H; rw [hy287]; with_reducible exact H2_) | (have H2_ := (Option.bind_some _ _).symm.trans H; with_reducible exact H2_) | with_reducible exact H | (rw [hy287]; exact H) | exact H
    have Ny287 := Aside0.mk hy287
    clear hy287
    obtain ⟨y290, hy290⟩ : ∃ y_ : List (S80), y_ = (([(⟨a1_0, a1_1⟩ : S80)] : List (S80))) := ⟨_, rfl⟩
    replace H : (if y287.length + y290.length < 8796093022208 then ((some (y287 ++ y290 : List (S80))).bind fun y293 => (some (y293, wrap64 ((wrap64 (500 + (y293.length : Int))) - 1)))) else (none)) = some (r1, r2) := by first | (rw [hy290]; with_reducible exact H) | (have H2_ := (Option.bind_some _ _).symm.trans H; rw [hy290]; with_reducible exact H2_) | (have H2_ := (Option.bind_some _ _).symm.trans H; with_reducible exact H2_) | with_reducible exact H | (rw [hy290]; exact H) | exact H
    have Ny290 := Aside0.mk hy290
    clear hy290
    by_cases c31 : y287.length + y290.length < 8796093022208
    ·rw [if_pos c31] at H
     have LMc31 := Aside0.mk c31
     clear c31
     obtain ⟨y293, hy293⟩ : ∃ y_ : List (S80), y_ = (y287 ++ y290) := ⟨_, rfl⟩
     replace H : (some (y293, wrap64 ((wrap64 (500 + (y293.length : Int))) - 1))) = some (r1, r2) := by first | (rw [hy293]; with_reducible exact H) | (have H2_ := (Option.bind_some _ _).symm.trans H; rw [hy293]; with_reducible exact H2_) | (have H2_ := (Option.bind_some _ _).symm.trans H; with_reducible exact H2_) | with_reducible exact H | (rw [hy293]; exact H) | exact H
     have Ny293 := Aside0.mk hy293
     clear hy293
     simp only [Option.some.injEq, Prod.mk.injEq] at H
     obtain ⟨rfl, rfl⟩ := H
     obtain ⟨Ao32, co32, eo32⟩ := Kd.R_slice HO0_0.out
     subst eo32
     go_enter Try.func76, Try.ntmps76
     try go_wp2_with (first | ((with_reducible refine gate_dst (N := 2) rfl ?_); refine box_event ?hg (N := 2) ?hd (cs := #[.slice Ao32 l0_0.length co32]) (t := 61) ?hr ?_; (case hd => rfl); (case hg => rfl); (case hr => first | (go_simp; done) | (go_simp; rfl)); intro gb280 hg w33 hbox hb; have n0_ := Aside0.mk (Kd.R_below Z13 hb); have n1_ := Aside0.mk (Kept.below (S := (fun k_ => P0_0_ k_)) Z78 hb); have n2_ := Aside0.mk (below_step Z80 hb); have n3_ := Aside0.mk (hbox); have n4_ := Aside0.mk ((Z195 : w.heap.size ≤ gb280)); have n5_ := Aside0.mk ((Z196 : w0.heap.size ≤ gb280)); clear HO0_0; clear HK; clear HB; have HO0_0 := n0_; have HK := n1_; have HB := n2_; have BK280 := n3_; have GW280 := n4_; have GE280 := n5_; clear n0_ n1_ n2_ n3_ n4_ n5_; clear hb hbox hg) | ((with_reducible refine gate_dst (N := 3) rfl ?_); refine box_event ?hg (N := 3) ?hd (cs := #[.int .i64 a1_0, .int .i64 a1_1]) (t := 80) ?hr ?_; (case hd => rfl); (case hg => rfl); (case hr => first | (go_simp; done) | (go_simp; rfl)); intro gb281 hg w34 hbox hb; have n0_ := Aside0.mk (Kd.R_below (Kd.R_elderB Z13 gb281 (Nat.le_of_eq hg.symm)) hb); have n1_ := Aside0.mk (blk_below (g := gb280) (o := .cells #[.slice Ao32 l0_0.length co32] 61 (0, 0)) Z36 hb); have n2_ := Aside0.mk (Kept.below (S := (fun k_ => P0_0_ k_)) Z109 hb); have n3_ := Aside0.mk (below_step Z100 hb); have n4_ := Aside0.mk (hbox); have n5_ := Aside0.mk ((by rw [hg]; exact Z160 : w.heap.size ≤ gb281)); have n6_ := Aside0.mk ((by rw [hg]; exact (below_size Z100) : w0.heap.size ≤ gb281)); have n7_ := Aside0.mk ((Z220 : gb280 ≠ gb281)); have n8_ := Aside0.mk ((Z221 : gb281 ≠ gb280)); clear HO0_0; clear BK280; clear HK; clear HB; have HO0_0 := n0_; have BK280 := n1_; have HK := n2_; have HB := n3_; have BK281 := n4_; have GW281 := n5_; have GE281 := n6_; have NB280_281 := n7_; have NB281_280 := n8_; clear n0_ n1_ n2_ n3_ n4_ n5_ n6_ n7_ n8_; clear hb hbox hg) | ((with_reducible refine gate_dst (N := 4) rfl ?_); refine box_event ?hg (N := 4) ?hd (cs := #[.slice none 0 0]) (t := 61) ?hr ?_; (case hd => rfl); (case hg => rfl); (case hr => first | (go_simp; done) | (go_simp; rfl)); intro gb282 hg w35 hbox hb; have n0_ := Aside0.mk (Kd.R_below Z13 hb); have n1_ := Aside0.mk (blk_below (g := gb280) (o := .cells #[.slice Ao32 l0_0.length co32] 61 (0, 0)) Z36 hb); have n2_ := Aside0.mk (blk_below (g := gb281) (o := .cells #[.int .i64 a1_0, .int .i64 a1_1] 80 (0, 0)) Z37 hb); have n3_ := Aside0.mk (Kept.below (S := (fun k_ => P0_0_ k_)) Z143 hb); have n4_ := Aside0.mk (below_step Z130 hb); have n5_ := Aside0.mk (hbox); have n6_ := Aside0.mk ((by rw [hg]; exact Z172 : w.heap.size ≤ gb282)); have n7_ := Aside0.mk ((by rw [hg]; exact (below_size Z130) : w0.heap.size ≤ gb282)); have n8_ := Aside0.mk ((Z220 : gb280 ≠ gb282)); have n9_ := Aside0.mk ((Z221 : gb282 ≠ gb280)); have n10_ := Aside0.mk ((Z228 : gb281 ≠ gb282)); have n11_ := Aside0.mk ((Z229 : gb282 ≠ gb281)); clear HO0_0; clear BK280; clear BK281; clear HK; clear HB; have HO0_0 := n0_; have BK280 := n1_; have BK281 := n2_; have HK := n3_; have HB := n4_; have BK282 := n5_; have GW282 := n6_; have GE282 := n7_; have NB280_282 := n8_; have NB282_280 := n9_; have NB281_282 := n10_; have NB282_281 := n11_; clear n0_ n1_ n2_ n3_ n4_ n5_ n6_ n7_ n8_ n9_ n10_ n11_; clear hb hbox hg; have hnb36 := NB280_281.out; have hnc36 := NB281_280.out; have hnb37 := NB280_282.out; have hnc37 := NB282_280.out; have hcz38_0 : w35.cell? ⟨gb280, 0, none⟩ = some (.slice Ao32 l0_0.length co32) := (blk_cell BK280.out 0).trans rfl; have hfz38_0 := blk_frozen BK280.out 0; have hnb39 := NB281_282.out; have hnc39 := NB282_281.out; have hcz40_0 : w35.cell? ⟨gb281, 0, none⟩ = some (.int .i64 a1_0) := (blk_cell BK281.out 0).trans rfl; have hcz40_1 : w35.cell? ⟨gb281, 1, none⟩ = some (.int .i64 a1_1) := (blk_cell BK281.out 1).trans rfl; have hfz40_0 := blk_frozen BK281.out 0; have hfz40_1 := blk_frozen BK281.out 1) | ((with_reducible refine gate_callee (f := 85) rfl ?_); refine goesL_ (some 9) rfl rfl Try.func85 (by kernel_rfl) rfl #[.agg #[.slice Ao32 l0_0.length co32], .agg #[.int .i64 a1_0, .int .i64 a1_1]] rfl Z84 ?_; (with_reducible refine (spec_MapPort.calls k _ _ l0_0 a1_0 a1_1 t283 _ ?side1 ?side2 A3.out).mono ?_); (case side1 => exact Z112); (case side2 => exact (Kd.R_reads' HO0_0.out).2.1); rintro e w41 ⟨rfl, hb⟩; refine ⟨_, rfl, ?_⟩; have n0_ := Aside0.mk (Kd.R_below Z13 hb); have n1_ := Aside0.mk (blk_below (g := gb280) (o := .cells #[.slice Ao32 l0_0.length co32] 61 (0, 0)) Z36 hb); have n2_ := Aside0.mk (blk_below (g := gb281) (o := .cells #[.int .i64 a1_0, .int .i64 a1_1] 80 (0, 0)) Z37 hb); have n3_ := Aside0.mk (blk_below (g := gb282) (o := .cells #[.slice none 0 0] 61 (0, 0)) Z38 hb); have n4_ := Aside0.mk (Kept.below (S := (fun k_ => P0_0_ k_)) Z162 hb); have n5_ := Aside0.mk (below_step Z151 hb); clear HO0_0; clear BK280; clear BK281; clear BK282; clear HK; clear HB; have HO0_0 := n0_; have BK280 := n1_; have BK281 := n2_; have BK282 := n3_; have HK := n4_; have HB := n5_; clear n0_ n1_ n2_ n3_ n4_ n5_; (try clear hb); have hcz42_0 : w41.cell? ⟨gb280, 0, none⟩ = some (.slice Ao32 l0_0.length co32) := (blk_cell BK280.out 0).trans rfl; have hfz42_0 := blk_frozen BK280.out 0))
     have n0_ := Aside0.mk (Kd.R_drew HO0_0.out)
     have n1_ := Aside0.mk (blk_drew BK280.out)
     have n2_ := Aside0.mk (blk_drew BK281.out)
     have n3_ := Aside0.mk (blk_drew BK282.out)
     have n4_ := Aside0.mk (Kept.drew HK.out)
     have n5_ := Aside0.mk (below_drew1 HB.out)
     clear HO0_0
     clear BK280
     clear BK281
     clear BK282
     clear HK
     clear HB
     have HO0_0 := n0_
     have BK280 := n1_
     have BK281 := n2_
     have BK282 := n3_
     have HK := n4_
     have HB := n5_
     clear n0_ n1_ n2_ n3_ n4_ n5_
     refine start_ (n := 9) (S := fun w' => w'.cell? ⟨gb280, 0, none⟩ = some (.slice Ao32 l0_0.length co32) ∧ w'.cell? ⟨gb281, 0, none⟩ = some (.int .i64 a1_0) ∧ w'.cell? ⟨gb281, 1, none⟩ = some (.int .i64 a1_1)) (ds := [8]) #[false, false, false, false, false, false, false, false, false] (by kernel_rfl) rfl rfl ⟨(blk_cell BK280.out 0).trans rfl, (blk_cell BK281.out 0).trans rfl, (blk_cell BK281.out 1).trans rfl⟩ (fun hHeld => ?_); refine with_tabW spec_l3Put.tab6 spec_l3Put.bits6 (fun HT_ HW_ => ?_)
     generalize w41.drew = w43 at HO0_0 BK280 BK281 BK282 HK HB hHeld ⊢
     refine pure_ (i := 1) (N := some 20) (v := ?_) (a' := ?_) #[false, true, false, false, false, false, false, false, false] rfl rfl (any_of HT_.out (by kernel_rfl)) (fun _ _ _ h => h) (Or.inl ⟨by rfl, ?_⟩) ?_ ?_
     rotate_left
     ·intro w'
      go_simp
      with_reducible rfl
     rotate_left
     ·simp only [Act.put, List.setIfInBounds_toArray, List.set_cons_zero, List.set_cons_succ, i64_w, i32_w]
      rfl
     refine take_ (i := 2) (N := some 21) (v := ?_) (a' := ?_) #[false, true, true, false, false, false, false, false, false] rfl rfl (take_ofW HT_.out HW_.out (by kernel_rfl)) (fun _ _ _ h => h) (Or.inl ⟨by rfl, ?_⟩) hHeld ?_ ?_
     rotate_left
     ·rintro w' ⟨s0, s1, s2⟩
      go_simp
      with_reducible rfl
     rotate_left
     ·simp only [Act.put, List.setIfInBounds_toArray, List.set_cons_zero, List.set_cons_succ, i64_w, i32_w]
      rfl
     refine take_ (i := 4) (N := some 23) (v := ?_) (a' := ?_) #[false, true, true, false, true, false, false, false, false] rfl rfl (take_ofW HT_.out HW_.out (by kernel_rfl)) (fun _ _ _ h => h) (Or.inl ⟨by rfl, ?_⟩) hHeld ?_ ?_
     rotate_left
     ·rintro w' ⟨s0, s1, s2⟩
      go_simp
      with_reducible rfl
     rotate_left
     ·simp only [Act.put, List.setIfInBounds_toArray, List.set_cons_zero, List.set_cons_succ, i64_w, i32_w]
      rfl
     refine join_ (σ := Value × Value × Value) 3 #[true, true, true, true, true, true, false, false, false] (fun s_ => [(19, s_.1), (22, s_.2.1), (24, s_.2.2)]) (fun s_ w' => (w'.cell? ⟨gb280, 0, none⟩ = some (.slice Ao32 l0_0.length co32) ∧ w'.cell? ⟨gb281, 0, none⟩ = some (.int .i64 a1_0) ∧ w'.cell? ⟨gb281, 1, none⟩ = some (.int .i64 a1_1)) ∧ (Kd.R k80 80 w' w0.heap.size (fun k_ => (P0_0_ k_ ∨ w.heap.size ≤ k_) ∧ some k_ ≠ (s_.2.1 : Value).ownBlock ∧ some k_ ≠ (s_.2.2 : Value).ownBlock ∧ k_ ≠ gb281) (.slice Ao32 l0_0.length co32) l0_0) ∧ (Kd.R k80 80 w' w0.heap.size (fun k_ => (P0_0_ k_ ∨ w.heap.size ≤ k_) ∧ some k_ ≠ (.slice Ao32 l0_0.length co32 : Value).ownBlock ∧ some k_ ≠ (s_.2.2 : Value).ownBlock ∧ k_ ≠ gb281) s_.2.1 y287) ∧ (Kd.R k80 80 w' w0.heap.size (fun k_ => (P0_0_ k_ ∨ w.heap.size ≤ k_) ∧ some k_ ≠ (.slice Ao32 l0_0.length co32 : Value).ownBlock ∧ some k_ ≠ (s_.2.1 : Value).ownBlock ∧ k_ ≠ gb281) s_.2.2 y290) ∧ (w'.heap[gb280]? = some (.cells #[.slice Ao32 l0_0.length co32] 61 (0, 0))) ∧ (w'.heap[gb281]? = some (.cells #[.int .i64 a1_0, .int .i64 a1_1] 80 (0, 0))) ∧ (w'.heap[gb282]? = some (.cells #[.slice none 0 0] 61 (0, 0))) ∧ (Kept w w' (fun k_ => P0_0_ k_)) ∧ (Below w0.heap.size w0 w')) ?_ ?_
     rotate_left
     ·intro hCont
      refine two_ (i := 0) (j := 5) (Ni := some 19) (Nj := some 24) #[true, true, true, false, true, false, false, false, false] #[false, true, true, false, true, true, false, false, false] rfl rfl rfl rfl (two_of HT_.out (by kernel_rfl)) (by decide) (by decide) (fun K hK => ?_) (fun K hK => ?_)
      ·skip
       refine Kd.R_lit_step k80 _ 80 ?hg (N := 19) ?hd (xs := ([] : List (S80))) (inner := []) (ok := fun _ => True) (okp := fun _ => True) ?hr ?hp (fun _ hk => hk) trivial (Below.refl _ _) (Nat.le_refl _) (by simp) ?_; (case hd => rfl); (case hg => rfl); (case hr => first | (go_simp; done) | (go_simp; rfl)); (case hp => exact (Reps.none _ _))
       intro v285 w44 ho45 hb hg_ hnew_
       clear hg_ hnew_
       (first | rw [← Ny284.out] at ho45 | (simp only [Int.reduceToNat] at ho45; rw [← Ny284.out] at ho45))
       have n0_ := Aside0.mk (Kd.R_elder' Z13 (Kd.R_base ho45) hb)
       have n1_ := Aside0.mk (Kd.R_lower (Kd.R_newB (Kd.R_new' (Kd.R_newM (M := fun k_ => (P0_0_ k_ ∨ w.heap.size ≤ k_)) ho45 Z181 (fun k_ h_ => .inr h_)) (Kd.R_lt Z13)) (g := gb281) (o := .cells #[.int .i64 a1_0, .int .i64 a1_1] 80 (0, 0)) Z37) (below_size Z151))
       have n2_ := Aside0.mk (blk_below (g := gb280) (o := .cells #[.slice Ao32 l0_0.length co32] 61 (0, 0)) Z36 hb)
       have n3_ := Aside0.mk (blk_below (g := gb281) (o := .cells #[.int .i64 a1_0, .int .i64 a1_1] 80 (0, 0)) Z37 hb)
       have n4_ := Aside0.mk (blk_below (g := gb282) (o := .cells #[.slice none 0 0] 61 (0, 0)) Z38 hb)
       have n5_ := Aside0.mk (Kept.below (S := (fun k_ => P0_0_ k_)) Z162 hb)
       have n6_ := Aside0.mk (below_step Z151 hb)
       clear HO0_0
       clear BK280
       clear BK281
       clear BK282
       clear HK
       clear HB
       have HO0_0 := n0_
       have HO286 := n1_
       have BK280 := n2_
       have BK281 := n3_
       have BK282 := n4_
       have HK := n5_
       have HB := n6_
       clear n0_ n1_ n2_ n3_ n4_ n5_ n6_
       clear hb ho45
       refine hK.out _ _ ⟨(blk_cell BK280.out 0).trans rfl, (blk_cell BK281.out 0).trans rfl, (blk_cell BK281.out 1).trans rfl⟩ (fun hHeld => ?_)
       clear hK K
       refine norm_ (a' := ?_) ?_ ?_
       rotate_left
       ·show Act.put _ (some 19) _ = _
        simp only [Act.put, List.setIfInBounds_toArray, List.set_cons_zero, List.set_cons_succ, i64_w, i32_w]
        rfl
       refine two_ (i := 3) (j := 5) (Ni := some 22) (Nj := some 24) #[true, true, true, true, true, false, false, false, false] #[true, true, true, false, true, true, false, false, false] rfl rfl rfl rfl (two_of HT_.out (by kernel_rfl)) (by decide) (by decide) (fun K hK => ?_) (fun K hK => ?_)
       ·skip
        refine Kd.R_append_rows_step k80 (w0 := w0) w0.heap.size (by rfl) (.tmp 19) (.tmp 21) 59 80 (.agg #[(.int .i64 0), (.int .i64 0)]) 16 rfl Try.underlying59 info80 rfl (by decide) (by omega) v285 y284 l0_0 _ _ _ (fun k_ => (P0_0_ k_ ∨ w.heap.size ≤ k_) ∧ some k_ ≠ (.slice Ao32 l0_0.length co32 : Value).ownBlock ∧ k_ ≠ gb281) (fun _ => False) rfl rfl ?aO ?aR (fun _ _ h => h) (fun _ h => h.elim) ?aF ?aB ?aS ?aL ?_
        (case aR => exact Z112)
        (case aB => exact Z151)
        (case aF => exact (fun k_ hk => ⟨(.inr (Nat.le_trans Z181 hk)), Kd.fresh' (Kd.R_lt Z13) k_ hk, Kd.freshB (g := gb281) (o := .cells #[.int .i64 a1_0, .int .i64 a1_1] 80 (0, 0)) Z37 k_ hk⟩))
        (case aO => exact (by (with_reducible repeat (first | apply Kd.R_alloc | apply Kd.R_drewN | apply Kd.R_drew)); exact Kd.R_mono HO286.out (fun _ hk => ⟨hk.1.1.1, ⟨hk.1.2, hk.2⟩⟩)))
        (case aS => exact (below_size Z151))
        (case aL => have := LMc30.out; omega)
        intro v288 w46 ho hb hg hat
        rw [← Ny287.out] at ho
        have n0_ := Aside0.mk (Kd.R_after (ok := (fun k_ => (P0_0_ k_ ∨ w.heap.size ≤ k_) ∧ k_ ≠ gb281)) Z13 hg hat)
        have n1_ := Aside0.mk (blk_grown (g := gb280) (o := .cells #[.slice Ao32 l0_0.length co32] 61 (0, 0)) Z36 hg (Kd.R_ne HO286.out BK280.out (by decide)))
        have n2_ := Aside0.mk (blk_grown (g := gb281) (o := .cells #[.int .i64 a1_0, .int .i64 a1_1] 80 (0, 0)) Z37 hg (Kd.R_away HO286.out (fun _ hk => hk.2)))
        have n3_ := Aside0.mk (blk_grown (g := gb282) (o := .cells #[.slice none 0 0] 61 (0, 0)) Z38 hg (Kd.R_ne HO286.out BK282.out (by decide)))
        have n4_ := Aside0.mk (hb)
        have n5_ := Aside0.mk (Kept.of_grown (S := (fun k_ => P0_0_ k_)) hg Z162 (fun k_ e_ => (HO286.out.1 k_ e_).1.1.1))
        have n6_ := Aside0.mk (ho)
        clear HO0_0
        clear BK280
        clear BK281
        clear BK282
        clear HB
        clear HK
        clear HO286
        have HO0_0 := n0_
        have BK280 := n1_
        have BK281 := n2_
        have BK282 := n3_
        have HB := n4_
        have HK := n5_
        have HO289 := n6_
        clear n0_ n1_ n2_ n3_ n4_ n5_ n6_
        clear ho hb hg hat
        refine hK.out _ _ ⟨(blk_cell BK280.out 0).trans rfl, (blk_cell BK281.out 0).trans rfl, (blk_cell BK281.out 1).trans rfl⟩ (fun hHeld => ?_)
        clear hK K
        refine norm_ (a' := ?_) ?_ ?_
        rotate_left
        ·show Act.put _ (some 22) _ = _
         simp only [Act.put, List.setIfInBounds_toArray, List.set_cons_zero, List.set_cons_succ, i64_w, i32_w]
         rfl
        refine one_ (i := 5) (N := some 24) #[true, true, true, true, true, true, false, false, false] rfl rfl (one_of HT_.out (by kernel_rfl)) (by decide) (fun K hK => ?_)
        refine Kd.R_lit_step k80 _ 80 ?hg (N := 24) ?hd (xs := ([(⟨a1_0, a1_1⟩ : S80)] : List (S80))) (inner := [.int .i64 a1_0, .int .i64 a1_1]) (ok := fun _ => True) (okp := fun _ => True) ?hr ?hp (fun _ hk => hk) trivial (Below.refl _ _) (Nat.le_refl _) (by simp) ?_; (case hd => rfl); (case hg => rfl); (case hr => first | (go_simp; done) | (go_simp; rfl)); (case hp => exact (Reps.c2 (show Kd.M k80 _ _ _ (⟨a1_0, a1_1⟩ : S80) [.int .i64 a1_0, .int .i64 a1_1] from (k80_mkM _ _ _ (⟨a1_0, a1_1⟩ : S80) )) (Reps.none _ _)))
        intro v291 w47 ho48 hb hg_ hnew_
        clear hg_ hnew_
        (first | rw [← Ny290.out] at ho48 | (simp only [Int.reduceToNat] at ho48; rw [← Ny290.out] at ho48))
        have n0_ := Aside0.mk (Kd.R_elder' Z13 (Kd.R_base ho48) hb)
        have n1_ := Aside0.mk (Kd.R_elder' Z14 (Kd.R_base ho48) hb)
        have n2_ := Aside0.mk (Kd.R_lower (Kd.R_newB (Kd.R_new' (Kd.R_new' (Kd.R_newM (M := fun k_ => (P0_0_ k_ ∨ w.heap.size ≤ k_)) ho48 Z181 (fun k_ h_ => .inr h_)) (Kd.R_lt Z13)) (Kd.R_lt Z14)) (g := gb281) (o := .cells #[.int .i64 a1_0, .int .i64 a1_1] 80 (0, 0)) Z37) (below_size Z151))
        have n3_ := Aside0.mk (blk_below (g := gb280) (o := .cells #[.slice Ao32 l0_0.length co32] 61 (0, 0)) Z36 hb)
        have n4_ := Aside0.mk (blk_below (g := gb281) (o := .cells #[.int .i64 a1_0, .int .i64 a1_1] 80 (0, 0)) Z37 hb)
        have n5_ := Aside0.mk (blk_below (g := gb282) (o := .cells #[.slice none 0 0] 61 (0, 0)) Z38 hb)
        have n6_ := Aside0.mk (Kept.below (S := (fun k_ => P0_0_ k_)) Z162 hb)
        have n7_ := Aside0.mk (below_step Z151 hb)
        clear HO0_0
        clear HO289
        clear BK280
        clear BK281
        clear BK282
        clear HK
        clear HB
        have HO0_0 := n0_
        have HO289 := n1_
        have HO292 := n2_
        have BK280 := n3_
        have BK281 := n4_
        have BK282 := n5_
        have HK := n6_
        have HB := n7_
        clear n0_ n1_ n2_ n3_ n4_ n5_ n6_ n7_
        clear hb ho48
        refine hK.out _ _ ⟨(blk_cell BK280.out 0).trans rfl, (blk_cell BK281.out 0).trans rfl, (blk_cell BK281.out 1).trans rfl⟩ (fun hHeld => ?_)
        clear hK K
        refine norm_ (a' := ?_) ?_ ?_
        rotate_left
        ·show Act.put _ (some 24) _ = _
         simp only [Act.put, List.setIfInBounds_toArray, List.set_cons_zero, List.set_cons_succ, i64_w, i32_w]
         rfl
        exact norm_ Z3 (hCont (v285, v288, v291) _ ⟨hHeld, (by (with_reducible repeat (first | apply Kd.R_alloc | apply Kd.R_drewN | apply Kd.R_drew)); exact Kd.R_mono HO0_0.out (fun _ hk => ⟨hk.1.1.1, ⟨hk.1.2, ⟨hk.2, hk.1.1.2⟩⟩⟩)), (by (with_reducible repeat (first | apply Kd.R_alloc | apply Kd.R_drewN | apply Kd.R_drew)); exact Kd.R_mono HO289.out (fun _ hk => ⟨hk.1.1, ⟨hk.1.2.1, ⟨hk.2, hk.1.2.2⟩⟩⟩)), (by (with_reducible repeat (first | apply Kd.R_alloc | apply Kd.R_drewN | apply Kd.R_drew)); exact Kd.R_mono HO292.out (fun _ hk => ⟨hk.1.1.1.1, ⟨hk.1.1.2, ⟨hk.1.2, hk.2⟩⟩⟩)), Z36, Z37, Z38, Z162, Z151⟩)
       ·skip
        refine Kd.R_lit_step k80 _ 80 ?hg (N := 24) ?hd (xs := ([(⟨a1_0, a1_1⟩ : S80)] : List (S80))) (inner := [.int .i64 a1_0, .int .i64 a1_1]) (ok := fun _ => True) (okp := fun _ => True) ?hr ?hp (fun _ hk => hk) trivial (Below.refl _ _) (Nat.le_refl _) (by simp) ?_; (case hd => rfl); (case hg => rfl); (case hr => first | (go_simp; done) | (go_simp; rfl)); (case hp => exact (Reps.c2 (show Kd.M k80 _ _ _ (⟨a1_0, a1_1⟩ : S80) [.int .i64 a1_0, .int .i64 a1_1] from (k80_mkM _ _ _ (⟨a1_0, a1_1⟩ : S80) )) (Reps.none _ _)))
        intro v291 w46 ho47 hb hg_ hnew_
        clear hg_ hnew_
        (first | rw [← Ny290.out] at ho47 | (simp only [Int.reduceToNat] at ho47; rw [← Ny290.out] at ho47))
        have n0_ := Aside0.mk (Kd.R_elder' Z13 (Kd.R_base ho47) hb)
        have n1_ := Aside0.mk (Kd.R_elder' Z15 (Kd.R_base ho47) hb)
        have n2_ := Aside0.mk (Kd.R_lower (Kd.R_newB (Kd.R_new' (Kd.R_new' (Kd.R_newM (M := fun k_ => (P0_0_ k_ ∨ w.heap.size ≤ k_)) ho47 Z181 (fun k_ h_ => .inr h_)) (Kd.R_lt Z13)) (Kd.R_lt Z15)) (g := gb281) (o := .cells #[.int .i64 a1_0, .int .i64 a1_1] 80 (0, 0)) Z37) (below_size Z151))
        have n3_ := Aside0.mk (blk_below (g := gb280) (o := .cells #[.slice Ao32 l0_0.length co32] 61 (0, 0)) Z36 hb)
        have n4_ := Aside0.mk (blk_below (g := gb281) (o := .cells #[.int .i64 a1_0, .int .i64 a1_1] 80 (0, 0)) Z37 hb)
        have n5_ := Aside0.mk (blk_below (g := gb282) (o := .cells #[.slice none 0 0] 61 (0, 0)) Z38 hb)
        have n6_ := Aside0.mk (Kept.below (S := (fun k_ => P0_0_ k_)) Z162 hb)
        have n7_ := Aside0.mk (below_step Z151 hb)
        clear HO0_0
        clear HO286
        clear BK280
        clear BK281
        clear BK282
        clear HK
        clear HB
        have HO0_0 := n0_
        have HO286 := n1_
        have HO292 := n2_
        have BK280 := n3_
        have BK281 := n4_
        have BK282 := n5_
        have HK := n6_
        have HB := n7_
        clear n0_ n1_ n2_ n3_ n4_ n5_ n6_ n7_
        clear hb ho47
        refine hK.out _ _ ⟨(blk_cell BK280.out 0).trans rfl, (blk_cell BK281.out 0).trans rfl, (blk_cell BK281.out 1).trans rfl⟩ (fun hHeld => ?_)
        clear hK K
        refine norm_ (a' := ?_) ?_ ?_
        rotate_left
        ·show Act.put _ (some 24) _ = _
         simp only [Act.put, List.setIfInBounds_toArray, List.set_cons_zero, List.set_cons_succ, i64_w, i32_w]
         rfl
        refine one_ (i := 3) (N := some 22) #[true, true, true, true, true, true, false, false, false] rfl rfl (one_of HT_.out (by kernel_rfl)) (by decide) (fun K hK => ?_)
        refine Kd.R_append_rows_step k80 (w0 := w0) w0.heap.size (by rfl) (.tmp 19) (.tmp 21) 59 80 (.agg #[(.int .i64 0), (.int .i64 0)]) 16 rfl Try.underlying59 info80 rfl (by decide) (by omega) v285 y284 l0_0 _ _ _ (fun k_ => (P0_0_ k_ ∨ w.heap.size ≤ k_) ∧ some k_ ≠ (.slice Ao32 l0_0.length co32 : Value).ownBlock ∧ some k_ ≠ (v291 : Value).ownBlock ∧ k_ ≠ gb281) (fun _ => False) rfl rfl ?aO ?aR (fun _ _ h => h) (fun _ h => h.elim) ?aF ?aB ?aS ?aL ?_
        (case aR => exact Z112)
        (case aB => exact Z151)
        (case aF => exact (fun k_ hk => ⟨(.inr (Nat.le_trans Z181 hk)), Kd.fresh' (Kd.R_lt Z13) k_ hk, Kd.fresh' (Kd.R_lt Z16) k_ hk, Kd.freshB (g := gb281) (o := .cells #[.int .i64 a1_0, .int .i64 a1_1] 80 (0, 0)) Z37 k_ hk⟩))
        (case aO => exact (by (with_reducible repeat (first | apply Kd.R_alloc | apply Kd.R_drewN | apply Kd.R_drew)); exact Kd.R_mono HO286.out (fun _ hk => ⟨hk.1.1.1.1, ⟨hk.1.1.2, ⟨hk.2, hk.1.2⟩⟩⟩)))
        (case aS => exact (below_size Z151))
        (case aL => have := LMc30.out; omega)
        intro v288 w48 ho hb hg hat
        rw [← Ny287.out] at ho
        have n0_ := Aside0.mk (Kd.R_after (ok := (fun k_ => (P0_0_ k_ ∨ w.heap.size ≤ k_) ∧ some k_ ≠ (v291 : Value).ownBlock ∧ k_ ≠ gb281)) (by (with_reducible repeat (first | apply Kd.R_alloc | apply Kd.R_drewN | apply Kd.R_drew)); exact Kd.R_mono HO0_0.out (fun _ hk => ⟨⟨hk.1.1.1, ⟨hk.2, hk.1.1.2⟩⟩, hk.1.2⟩)) hg hat)
        have n1_ := Aside0.mk (blk_grown (g := gb280) (o := .cells #[.slice Ao32 l0_0.length co32] 61 (0, 0)) Z36 hg (Kd.R_ne HO286.out BK280.out (by decide)))
        have n2_ := Aside0.mk (blk_grown (g := gb281) (o := .cells #[.int .i64 a1_0, .int .i64 a1_1] 80 (0, 0)) Z37 hg (Kd.R_away HO286.out (fun _ hk => hk.1.2)))
        have n3_ := Aside0.mk (blk_grown (g := gb282) (o := .cells #[.slice none 0 0] 61 (0, 0)) Z38 hg (Kd.R_ne HO286.out BK282.out (by decide)))
        have n4_ := Aside0.mk (Kd.R_after (ok := (fun k_ => (P0_0_ k_ ∨ w.heap.size ≤ k_) ∧ some k_ ≠ (.slice Ao32 l0_0.length co32 : Value).ownBlock ∧ k_ ≠ gb281)) (by (with_reducible repeat (first | apply Kd.R_alloc | apply Kd.R_drewN | apply Kd.R_drew)); exact Kd.R_mono HO292.out (fun _ hk => ⟨⟨hk.1.1.1.1, ⟨hk.1.1.2, hk.2⟩⟩, hk.1.2⟩)) hg hat)
        have n5_ := Aside0.mk (hb)
        have n6_ := Aside0.mk (Kept.of_grown (S := (fun k_ => P0_0_ k_)) hg Z162 (fun k_ e_ => (HO286.out.1 k_ e_).1.1.1.1))
        have n7_ := Aside0.mk (ho)
        clear HO0_0
        clear BK280
        clear BK281
        clear BK282
        clear HO292
        clear HB
        clear HK
        clear HO286
        have HO0_0 := n0_
        have BK280 := n1_
        have BK281 := n2_
        have BK282 := n3_
        have HO292 := n4_
        have HB := n5_
        have HK := n6_
        have HO289 := n7_
        clear n0_ n1_ n2_ n3_ n4_ n5_ n6_ n7_
        clear ho hb hg hat
        refine hK.out _ _ ⟨(blk_cell BK280.out 0).trans rfl, (blk_cell BK281.out 0).trans rfl, (blk_cell BK281.out 1).trans rfl⟩ (fun hHeld => ?_)
        clear hK K
        refine norm_ (a' := ?_) ?_ ?_
        rotate_left
        ·show Act.put _ (some 22) _ = _
         simp only [Act.put, List.setIfInBounds_toArray, List.set_cons_zero, List.set_cons_succ, i64_w, i32_w]
         rfl
        exact norm_ Z3 (hCont (v285, v288, v291) _ ⟨hHeld, Z107, Z14, Z108, Z36, Z37, Z38, Z162, Z151⟩)
      ·skip
       refine Kd.R_lit_step k80 _ 80 ?hg (N := 24) ?hd (xs := ([(⟨a1_0, a1_1⟩ : S80)] : List (S80))) (inner := [.int .i64 a1_0, .int .i64 a1_1]) (ok := fun _ => True) (okp := fun _ => True) ?hr ?hp (fun _ hk => hk) trivial (Below.refl _ _) (Nat.le_refl _) (by simp) ?_; (case hd => rfl); (case hg => rfl); (case hr => first | (go_simp; done) | (go_simp; rfl)); (case hp => exact (Reps.c2 (show Kd.M k80 _ _ _ (⟨a1_0, a1_1⟩ : S80) [.int .i64 a1_0, .int .i64 a1_1] from (k80_mkM _ _ _ (⟨a1_0, a1_1⟩ : S80) )) (Reps.none _ _)))
       intro v291 w44 ho45 hb hg_ hnew_
       clear hg_ hnew_
       (first | rw [← Ny290.out] at ho45 | (simp only [Int.reduceToNat] at ho45; rw [← Ny290.out] at ho45))
       have n0_ := Aside0.mk (Kd.R_elder' Z13 (Kd.R_base ho45) hb)
       have n1_ := Aside0.mk (Kd.R_lower (Kd.R_newB (Kd.R_new' (Kd.R_newM (M := fun k_ => (P0_0_ k_ ∨ w.heap.size ≤ k_)) ho45 Z181 (fun k_ h_ => .inr h_)) (Kd.R_lt Z13)) (g := gb281) (o := .cells #[.int .i64 a1_0, .int .i64 a1_1] 80 (0, 0)) Z37) (below_size Z151))
       have n2_ := Aside0.mk (blk_below (g := gb280) (o := .cells #[.slice Ao32 l0_0.length co32] 61 (0, 0)) Z36 hb)
       have n3_ := Aside0.mk (blk_below (g := gb281) (o := .cells #[.int .i64 a1_0, .int .i64 a1_1] 80 (0, 0)) Z37 hb)
       have n4_ := Aside0.mk (blk_below (g := gb282) (o := .cells #[.slice none 0 0] 61 (0, 0)) Z38 hb)
       have n5_ := Aside0.mk (Kept.below (S := (fun k_ => P0_0_ k_)) Z162 hb)
       have n6_ := Aside0.mk (below_step Z151 hb)
       clear HO0_0
       clear BK280
       clear BK281
       clear BK282
       clear HK
       clear HB
       have HO0_0 := n0_
       have HO292 := n1_
       have BK280 := n2_
       have BK281 := n3_
       have BK282 := n4_
       have HK := n5_
       have HB := n6_
       clear n0_ n1_ n2_ n3_ n4_ n5_ n6_
       clear hb ho45
       refine hK.out _ _ ⟨(blk_cell BK280.out 0).trans rfl, (blk_cell BK281.out 0).trans rfl, (blk_cell BK281.out 1).trans rfl⟩ (fun hHeld => ?_)
       clear hK K
       refine norm_ (a' := ?_) ?_ ?_
       rotate_left
       ·show Act.put _ (some 24) _ = _
        simp only [Act.put, List.setIfInBounds_toArray, List.set_cons_zero, List.set_cons_succ, i64_w, i32_w]
        rfl
       refine one_ (i := 0) (N := some 19) #[true, true, true, false, true, true, false, false, false] rfl rfl (one_of HT_.out (by kernel_rfl)) (by decide) (fun K hK => ?_)
       refine Kd.R_lit_step k80 _ 80 ?hg (N := 19) ?hd (xs := ([] : List (S80))) (inner := []) (ok := fun _ => True) (okp := fun _ => True) ?hr ?hp (fun _ hk => hk) trivial (Below.refl _ _) (Nat.le_refl _) (by simp) ?_; (case hd => rfl); (case hg => rfl); (case hr => first | (go_simp; done) | (go_simp; rfl)); (case hp => exact (Reps.none _ _))
       intro v285 w46 ho47 hb hg_ hnew_
       clear hg_ hnew_
       (first | rw [← Ny284.out] at ho47 | (simp only [Int.reduceToNat] at ho47; rw [← Ny284.out] at ho47))
       have n0_ := Aside0.mk (Kd.R_elder' Z13 (Kd.R_base ho47) hb)
       have n1_ := Aside0.mk (Kd.R_elder' Z16 (Kd.R_base ho47) hb)
       have n2_ := Aside0.mk (Kd.R_lower (Kd.R_newB (Kd.R_new' (Kd.R_new' (Kd.R_newM (M := fun k_ => (P0_0_ k_ ∨ w.heap.size ≤ k_)) ho47 Z181 (fun k_ h_ => .inr h_)) (Kd.R_lt Z13)) (Kd.R_lt Z16)) (g := gb281) (o := .cells #[.int .i64 a1_0, .int .i64 a1_1] 80 (0, 0)) Z37) (below_size Z151))
       have n3_ := Aside0.mk (blk_below (g := gb280) (o := .cells #[.slice Ao32 l0_0.length co32] 61 (0, 0)) Z36 hb)
       have n4_ := Aside0.mk (blk_below (g := gb281) (o := .cells #[.int .i64 a1_0, .int .i64 a1_1] 80 (0, 0)) Z37 hb)
       have n5_ := Aside0.mk (blk_below (g := gb282) (o := .cells #[.slice none 0 0] 61 (0, 0)) Z38 hb)
       have n6_ := Aside0.mk (Kept.below (S := (fun k_ => P0_0_ k_)) Z162 hb)
       have n7_ := Aside0.mk (below_step Z151 hb)
       clear HO0_0
       clear HO292
       clear BK280
       clear BK281
       clear BK282
       clear HK
       clear HB
       have HO0_0 := n0_
       have HO292 := n1_
       have HO286 := n2_
       have BK280 := n3_
       have BK281 := n4_
       have BK282 := n5_
       have HK := n6_
       have HB := n7_
       clear n0_ n1_ n2_ n3_ n4_ n5_ n6_ n7_
       clear hb ho47
       refine hK.out _ _ ⟨(blk_cell BK280.out 0).trans rfl, (blk_cell BK281.out 0).trans rfl, (blk_cell BK281.out 1).trans rfl⟩ (fun hHeld => ?_)
       clear hK K
       refine norm_ (a' := ?_) ?_ ?_
       rotate_left
       ·show Act.put _ (some 19) _ = _
        simp only [Act.put, List.setIfInBounds_toArray, List.set_cons_zero, List.set_cons_succ, i64_w, i32_w]
        rfl
       refine one_ (i := 3) (N := some 22) #[true, true, true, true, true, true, false, false, false] rfl rfl (one_of HT_.out (by kernel_rfl)) (by decide) (fun K hK => ?_)
       refine Kd.R_append_rows_step k80 (w0 := w0) w0.heap.size (by rfl) (.tmp 19) (.tmp 21) 59 80 (.agg #[(.int .i64 0), (.int .i64 0)]) 16 rfl Try.underlying59 info80 rfl (by decide) (by omega) v285 y284 l0_0 _ _ _ (fun k_ => (P0_0_ k_ ∨ w.heap.size ≤ k_) ∧ some k_ ≠ (.slice Ao32 l0_0.length co32 : Value).ownBlock ∧ some k_ ≠ (v291 : Value).ownBlock ∧ k_ ≠ gb281) (fun _ => False) rfl rfl ?aO ?aR (fun _ _ h => h) (fun _ h => h.elim) ?aF ?aB ?aS ?aL ?_
       (case aR => exact Z112)
       (case aB => exact Z151)
       (case aF => exact (fun k_ hk => ⟨(.inr (Nat.le_trans Z181 hk)), Kd.fresh' (Kd.R_lt Z13) k_ hk, Kd.fresh' (Kd.R_lt Z16) k_ hk, Kd.freshB (g := gb281) (o := .cells #[.int .i64 a1_0, .int .i64 a1_1] 80 (0, 0)) Z37 k_ hk⟩))
       (case aO => exact (by (with_reducible repeat (first | apply Kd.R_alloc | apply Kd.R_drewN | apply Kd.R_drew)); exact Kd.R_mono HO286.out (fun _ hk => ⟨hk.1.1.1.1, ⟨hk.1.1.2, ⟨hk.1.2, hk.2⟩⟩⟩)))
       (case aS => exact (below_size Z151))
       (case aL => have := LMc30.out; omega)
       intro v288 w48 ho hb hg hat
       rw [← Ny287.out] at ho
       have n0_ := Aside0.mk (Kd.R_after (ok := (fun k_ => (P0_0_ k_ ∨ w.heap.size ≤ k_) ∧ some k_ ≠ (v291 : Value).ownBlock ∧ k_ ≠ gb281)) (by (with_reducible repeat (first | apply Kd.R_alloc | apply Kd.R_drewN | apply Kd.R_drew)); exact Kd.R_mono HO0_0.out (fun _ hk => ⟨⟨hk.1.1.1, ⟨hk.1.2, hk.1.1.2⟩⟩, hk.2⟩)) hg hat)
       have n1_ := Aside0.mk (blk_grown (g := gb280) (o := .cells #[.slice Ao32 l0_0.length co32] 61 (0, 0)) Z36 hg (Kd.R_ne HO286.out BK280.out (by decide)))
       have n2_ := Aside0.mk (blk_grown (g := gb281) (o := .cells #[.int .i64 a1_0, .int .i64 a1_1] 80 (0, 0)) Z37 hg (Kd.R_away HO286.out (fun _ hk => hk.2)))
       have n3_ := Aside0.mk (blk_grown (g := gb282) (o := .cells #[.slice none 0 0] 61 (0, 0)) Z38 hg (Kd.R_ne HO286.out BK282.out (by decide)))
       have n4_ := Aside0.mk (Kd.R_after (ok := (fun k_ => (P0_0_ k_ ∨ w.heap.size ≤ k_) ∧ some k_ ≠ (.slice Ao32 l0_0.length co32 : Value).ownBlock ∧ k_ ≠ gb281)) (by (with_reducible repeat (first | apply Kd.R_alloc | apply Kd.R_drewN | apply Kd.R_drew)); exact Kd.R_mono HO292.out (fun _ hk => ⟨⟨hk.1.1.1.1, ⟨hk.1.1.2, hk.1.2⟩⟩, hk.2⟩)) hg hat)
       have n5_ := Aside0.mk (hb)
       have n6_ := Aside0.mk (Kept.of_grown (S := (fun k_ => P0_0_ k_)) hg Z162 (fun k_ e_ => (HO286.out.1 k_ e_).1.1.1.1))
       have n7_ := Aside0.mk (ho)
       clear HO0_0
       clear BK280
       clear BK281
       clear BK282
       clear HO292
       clear HB
       clear HK
       clear HO286
       have HO0_0 := n0_
       have BK280 := n1_
       have BK281 := n2_
       have BK282 := n3_
       have HO292 := n4_
       have HB := n5_
       have HK := n6_
       have HO289 := n7_
       clear n0_ n1_ n2_ n3_ n4_ n5_ n6_ n7_
       clear ho hb hg hat
       refine hK.out _ _ ⟨(blk_cell BK280.out 0).trans rfl, (blk_cell BK281.out 0).trans rfl, (blk_cell BK281.out 1).trans rfl⟩ (fun hHeld => ?_)
       clear hK K
       refine norm_ (a' := ?_) ?_ ?_
       rotate_left
       ·show Act.put _ (some 22) _ = _
        simp only [Act.put, List.setIfInBounds_toArray, List.set_cons_zero, List.set_cons_succ, i64_w, i32_w]
        rfl
       exact norm_ Z3 (hCont (v285, v288, v291) _ ⟨hHeld, Z107, Z14, Z108, Z36, Z37, Z38, Z162, Z151⟩)
     rintro ⟨v285, v288, v291⟩ w49 ⟨hS_, h0_, h1_, h2_, h3_, h4_, h5_, h6_, h7_⟩
     have n0_ : Aside0 (Kd.R k80 80 w49 w0.heap.size (fun k_ => (P0_0_ k_ ∨ w.heap.size ≤ k_) ∧ some k_ ≠ (v288 : Value).ownBlock ∧ some k_ ≠ (v291 : Value).ownBlock ∧ k_ ≠ gb281) (.slice Ao32 l0_0.length co32) l0_0) := ⟨h0_⟩
     have n1_ : Aside0 (Kd.R k80 80 w49 w0.heap.size (fun k_ => (P0_0_ k_ ∨ w.heap.size ≤ k_) ∧ some k_ ≠ (.slice Ao32 l0_0.length co32 : Value).ownBlock ∧ some k_ ≠ (v291 : Value).ownBlock ∧ k_ ≠ gb281) v288 y287) := ⟨h1_⟩
     have n2_ : Aside0 (Kd.R k80 80 w49 w0.heap.size (fun k_ => (P0_0_ k_ ∨ w.heap.size ≤ k_) ∧ some k_ ≠ (.slice Ao32 l0_0.length co32 : Value).ownBlock ∧ some k_ ≠ (v288 : Value).ownBlock ∧ k_ ≠ gb281) v291 y290) := ⟨h2_⟩
     have n3_ : Aside0 (w49.heap[gb280]? = some (.cells #[.slice Ao32 l0_0.length co32] 61 (0, 0))) := ⟨h3_⟩
     have n4_ : Aside0 (w49.heap[gb281]? = some (.cells #[.int .i64 a1_0, .int .i64 a1_1] 80 (0, 0))) := ⟨h4_⟩
     have n5_ : Aside0 (w49.heap[gb282]? = some (.cells #[.slice none 0 0] 61 (0, 0))) := ⟨h5_⟩
     have n6_ : Aside0 (Kept w w49 (fun k_ => P0_0_ k_)) := ⟨h6_⟩
     have n7_ : Aside0 (Below w0.heap.size w0 w49) := ⟨h7_⟩
     clear HO0_0
     clear BK280
     clear BK281
     clear BK282
     clear HK
     clear HB
     clear h0_ h1_ h2_ h3_ h4_ h5_ h6_ h7_
     have HO0_0 := n0_
     have HO289 := n1_
     have HO292 := n2_
     have BK280 := n3_
     have BK281 := n4_
     have BK282 := n5_
     have HK := n6_
     have HB := n7_
     clear n0_ n1_ n2_ n3_ n4_ n5_ n6_ n7_
     have hHeld : w49.cell? ⟨gb280, 0, none⟩ = some (.slice Ao32 l0_0.length co32) ∧ w49.cell? ⟨gb281, 0, none⟩ = some (.int .i64 a1_0) ∧ w49.cell? ⟨gb281, 1, none⟩ = some (.int .i64 a1_1) := hS_
     obtain ⟨Ao51, co51, eo51⟩ := Kd.R_slice HO292.out
     (first | subst eo51 | (injection eo51 with f1_ f2_ f3_; have f4_ := f1_.symm; have f5_ := f3_.symm; clear f1_ f2_ f3_; subst f4_; subst f5_))
     refine norm_ (a' := ?_) ?_ ?_
     rotate_left
     ·simp only [putAll, Act.put, List.setIfInBounds_toArray, List.set_cons_zero, List.set_cons_succ]
      rfl
     refine one_ (i := 6) (N := some 25) #[true, true, true, true, true, true, true, false, false] rfl rfl (one_of HT_.out (by kernel_rfl)) (by decide) (fun K hK => ?_)
     refine Kd.R_append_rows_step k80 (w0 := w0) w0.heap.size (by rfl) (.tmp 22) (.tmp 24) 59 80 (.agg #[(.int .i64 0), (.int .i64 0)]) 16 rfl Try.underlying59 info80 rfl (by decide) (by omega) v288 y287 y290 _ _ _ (fun k_ => (P0_0_ k_ ∨ w.heap.size ≤ k_) ∧ some k_ ≠ (.slice Ao32 l0_0.length co32 : Value).ownBlock ∧ some k_ ≠ (.slice Ao51 y290.length co51 : Value).ownBlock ∧ k_ ≠ gb281) (fun _ => False) rfl rfl ?aO ?aR (fun _ _ h => h) (fun _ h => h.elim) ?aF ?aB ?aS ?aL ?_
     (case aR => repeat (first | exact (Kd.R_reads' HO292.out).2.2 | (with_reducible refine Kd.C_alloc ?_ _) | (with_reducible refine Kd.C_drewN ?_ _) | (with_reducible refine Kd.C_drew ?_)))
     (case aB => exact Z151)
     (case aF => exact (fun k_ hk => ⟨(.inr (Nat.le_trans Z181 hk)), Kd.fresh' (Kd.R_lt Z13) k_ hk, Kd.fresh' (Kd.R_lt Z16) k_ hk, Kd.freshB (g := gb281) (o := .cells #[.int .i64 a1_0, .int .i64 a1_1] 80 (0, 0)) Z37 k_ hk⟩))
     (case aO => exact Z14)
     (case aS => exact (below_size Z151))
     (case aL => have := LMc31.out; omega)
     intro v294 w50 ho hb hg hat
     rw [← Ny293.out] at ho
     have n0_ := Aside0.mk (Kd.R_after (ok := (fun k_ => (P0_0_ k_ ∨ w.heap.size ≤ k_) ∧ some k_ ≠ (.slice Ao51 y290.length co51 : Value).ownBlock ∧ k_ ≠ gb281)) (by (with_reducible repeat (first | apply Kd.R_alloc | apply Kd.R_drewN | apply Kd.R_drew)); exact Kd.R_mono HO0_0.out (fun _ hk => ⟨⟨hk.1, ⟨hk.2.2.1, hk.2.2.2⟩⟩, hk.2.1⟩)) hg hat)
     have n1_ := Aside0.mk (blk_grown (g := gb280) (o := .cells #[.slice Ao32 l0_0.length co32] 61 (0, 0)) Z36 hg (Kd.R_ne HO289.out BK280.out (by decide)))
     have n2_ := Aside0.mk (blk_grown (g := gb281) (o := .cells #[.int .i64 a1_0, .int .i64 a1_1] 80 (0, 0)) Z37 hg (Kd.R_away HO289.out (fun _ hk => hk.2.2.2)))
     have n3_ := Aside0.mk (blk_grown (g := gb282) (o := .cells #[.slice none 0 0] 61 (0, 0)) Z38 hg (Kd.R_ne HO289.out BK282.out (by decide)))
     have n4_ := Aside0.mk (Kd.R_after (ok := (fun k_ => (P0_0_ k_ ∨ w.heap.size ≤ k_) ∧ some k_ ≠ (.slice Ao32 l0_0.length co32 : Value).ownBlock ∧ k_ ≠ gb281)) (by (with_reducible repeat (first | apply Kd.R_alloc | apply Kd.R_drewN | apply Kd.R_drew)); exact Kd.R_mono HO292.out (fun _ hk => ⟨⟨hk.1, ⟨hk.2.1, hk.2.2.2⟩⟩, hk.2.2.1⟩)) hg hat)
     have n5_ := Aside0.mk (hb)
     have n6_ := Aside0.mk (Kept.of_grown (S := (fun k_ => P0_0_ k_)) hg Z162 (fun k_ e_ => (HO289.out.1 k_ e_).1))
     have n7_ := Aside0.mk (ho)
     clear HO0_0
     clear BK280
     clear BK281
     clear BK282
     clear HO292
     clear HB
     clear HK
     clear HO289
     have HO0_0 := n0_
     have BK280 := n1_
     have BK281 := n2_
     have BK282 := n3_
     have HO292 := n4_
     have HB := n5_
     have HK := n6_
     have HO295 := n7_
     clear n0_ n1_ n2_ n3_ n4_ n5_ n6_ n7_
     clear ho hb hg hat
     obtain ⟨Ao52, co52, eo52⟩ := Kd.R_slice HO295.out
     (first | subst eo52 | (injection eo52 with f1_ f2_ f3_; have f4_ := f1_.symm; have f5_ := f3_.symm; clear f1_ f2_ f3_; subst f4_; subst f5_))
     refine hK.out _ _ ⟨(blk_cell BK280.out 0).trans rfl, (blk_cell BK281.out 0).trans rfl, (blk_cell BK281.out 1).trans rfl⟩ (fun hHeld => ?_)
     clear hK K
     refine norm_ (a' := ?_) ?_ ?_
     rotate_left
     ·show Act.put _ (some 25) _ = _
      simp only [Act.put, List.setIfInBounds_toArray, List.set_cons_zero, List.set_cons_succ, i64_w, i32_w]
      rfl
     refine pure_ (i := 7) (N := some 26) (v := ?_) (a' := ?_) #[true, true, true, true, true, true, true, true, false] rfl rfl (any_of HT_.out (by kernel_rfl)) (fun _ _ _ h => h) (Or.inl ⟨by rfl, ?_⟩) ?_ ?_
     rotate_left
     ·intro w'
      go_simp
      with_reducible rfl
     rotate_left
     ·simp only [Act.put, List.setIfInBounds_toArray, List.set_cons_zero, List.set_cons_succ, i64_w, i32_w]
      rfl
     refine last_ (i := 8) (N := none) #[true, true, true, true, true, true, true, true, true] rfl rfl (one_of HT_.out (by kernel_rfl)) (by decide) (fun K hK => ?_)
     have hs53 : w50.cell? ⟨gb280, 0, none⟩ = some (.slice Ao32 l0_0.length co32) := (blk_cell BK280.out 0).trans rfl
     have hfs53 := blk_frozen BK280.out 0
     have hns53_1 := NB281_280.out
     have hns53_2 := NB282_280.out
     have hms53_1 := NB280_281.out
     have hms53_2 := NB280_282.out
     refine skip_ (w1 := ?_) (by rfl) rfl ?_ ?_
     rotate_left
     ·go_simp
      rfl
     refine hK.out _ _ ?_
     clear hK K
     refine done_ (done_of HT_.out (by kernel_rfl)) ?_
     try go_wp2
     have n0_ : Aside0 (Kd.R k80 80 (w50.setCell ⟨gb280, 0, none⟩ (.slice Ao52 y293.length co52)) w0.heap.size (fun k_ => (P0_0_ k_ ∨ w.heap.size ≤ k_) ∧ some k_ ≠ (.slice Ao51 y290.length co51 : Value).ownBlock ∧ some k_ ≠ (.slice Ao52 y293.length co52 : Value).ownBlock ∧ k_ ≠ gb281) (.slice Ao32 l0_0.length co32) l0_0) := ⟨by (with_reducible repeat (first | apply Kd.R_alloc | apply Kd.R_drewN | apply Kd.R_drew)); exact Kd.R_mono (Kd.R_far (p := ⟨gb280, 0, none⟩) (Kd.R_types HO0_0.out BK280.out (by decide)) (fun _ hk => hk.2) (.slice Ao52 y293.length co52)) (fun _ hk => ⟨hk.1.1.1, ⟨hk.1.1.2.1, ⟨hk.1.2, hk.1.1.2.2⟩⟩⟩)⟩
     have n1_ : Aside0 (Kd.R k80 80 (w50.setCell ⟨gb280, 0, none⟩ (.slice Ao52 y293.length co52)) w0.heap.size (fun k_ => (P0_0_ k_ ∨ w.heap.size ≤ k_) ∧ some k_ ≠ (.slice Ao32 l0_0.length co32 : Value).ownBlock ∧ some k_ ≠ (.slice Ao52 y293.length co52 : Value).ownBlock ∧ k_ ≠ gb281) (.slice Ao51 y290.length co51) y290) := ⟨by (with_reducible repeat (first | apply Kd.R_alloc | apply Kd.R_drewN | apply Kd.R_drew)); exact Kd.R_mono (Kd.R_far (p := ⟨gb280, 0, none⟩) (Kd.R_types HO292.out BK280.out (by decide)) (fun _ hk => hk.2) (.slice Ao52 y293.length co52)) (fun _ hk => ⟨hk.1.1.1, ⟨hk.1.1.2.1, ⟨hk.1.2, hk.1.1.2.2⟩⟩⟩)⟩
     have n2_ : Aside0 (Kd.R k80 80 (w50.setCell ⟨gb280, 0, none⟩ (.slice Ao52 y293.length co52)) w0.heap.size (fun k_ => (P0_0_ k_ ∨ w.heap.size ≤ k_) ∧ some k_ ≠ (.slice Ao32 l0_0.length co32 : Value).ownBlock ∧ some k_ ≠ (.slice Ao51 y290.length co51 : Value).ownBlock ∧ k_ ≠ gb281) (.slice Ao52 y293.length co52) y293) := ⟨by (with_reducible repeat (first | apply Kd.R_alloc | apply Kd.R_drewN | apply Kd.R_drew)); exact Kd.R_mono (Kd.R_far (p := ⟨gb280, 0, none⟩) (Kd.R_types HO295.out BK280.out (by decide)) (fun _ hk => hk.2) (.slice Ao52 y293.length co52)) (fun _ hk => ⟨hk.1.1, ⟨hk.1.2.1, ⟨hk.1.2.2.1, hk.1.2.2.2⟩⟩⟩)⟩
     have n3_ : Aside0 ((w50.setCell ⟨gb280, 0, none⟩ (.slice Ao52 y293.length co52)).heap[gb280]? = some (.cells #[.slice Ao52 y293.length co52] 61 (0, 0))) := ⟨by (with_reducible repeat (first | refine blk_drewN ?_ _ | refine blk_drew ?_ | refine blk_alloc ?_ _)); refine blk_put (cs := #[.slice Ao32 l0_0.length co32]) ?_ 0 _ rfl; (with_reducible repeat (first | refine blk_drewN ?_ _ | refine blk_drew ?_ | refine blk_alloc ?_ _)); exact BK280.out⟩
     have n4_ : Aside0 ((w50.setCell ⟨gb280, 0, none⟩ (.slice Ao52 y293.length co52)).heap[gb281]? = some (.cells #[.int .i64 a1_0, .int .i64 a1_1] 80 (0, 0))) := ⟨by (with_reducible repeat (first | refine blk_drewN ?_ _ | refine blk_drew ?_ | refine blk_alloc ?_ _)); refine blk_far ?_ NB281_280.out _; (with_reducible repeat (first | refine blk_drewN ?_ _ | refine blk_drew ?_ | refine blk_alloc ?_ _)); exact BK281.out⟩
     have n5_ : Aside0 ((w50.setCell ⟨gb280, 0, none⟩ (.slice Ao52 y293.length co52)).heap[gb282]? = some (.cells #[.slice none 0 0] 61 (0, 0))) := ⟨by (with_reducible repeat (first | refine blk_drewN ?_ _ | refine blk_drew ?_ | refine blk_alloc ?_ _)); refine blk_far ?_ NB282_280.out _; (with_reducible repeat (first | refine blk_drewN ?_ _ | refine blk_drew ?_ | refine blk_alloc ?_ _)); exact BK282.out⟩
     have n6_ : Aside0 (Kept w (w50.setCell ⟨gb280, 0, none⟩ (.slice Ao52 y293.length co52)) (fun k_ => P0_0_ k_)) := ⟨by repeat (first | (with_reducible first | exact HK.out | apply Kept.alloc | apply Kept.drewN | apply Kept.drew | refine Kept.setCell ?_ (.inr GW280.out) _ | refine Kept.setCell ?_ (.inr GW281.out) _ | refine Kept.setCell ?_ (.inr GW282.out) _) | exact HK.out)⟩
     have n7_ : Aside0 (Below w0.heap.size w0 (w50.setCell ⟨gb280, 0, none⟩ (.slice Ao52 y293.length co52))) := ⟨by repeat (first | (with_reducible first | exact HB.out | apply below_alloc | apply pw_below_drewN | apply below_drew1 | refine below_set ?_ GE280.out | refine below_set ?_ GE281.out | refine below_set ?_ GE282.out) | exact HB.out)⟩
     (try clear HO0_0)
     (try clear HO292)
     (try clear HO295)
     (try clear BK280)
     (try clear BK281)
     (try clear BK282)
     (try clear HK)
     (try clear HB)
     generalize (w50.setCell ⟨gb280, 0, none⟩ (.slice Ao52 y293.length co52)) = w54 at n0_ n1_ n2_ n3_ n4_ n5_ n6_ n7_ ⊢
     have HO0_0 := n0_
     have HO292 := n1_
     have HO295 := n2_
     have BK280 := n3_
     have BK281 := n4_
     have BK282 := n5_
     have HK := n6_
     have HB := n7_
     clear n0_ n1_ n2_ n3_ n4_ n5_ n6_ n7_
     have n0_ := Aside0.mk (Kd.R_drew HO0_0.out)
     have n1_ := Aside0.mk (Kd.R_drew HO292.out)
     have n2_ := Aside0.mk (Kd.R_drew HO295.out)
     have n3_ := Aside0.mk (blk_drew BK280.out)
     have n4_ := Aside0.mk (blk_drew BK281.out)
     have n5_ := Aside0.mk (blk_drew BK282.out)
     have n6_ := Aside0.mk (Kept.drew HK.out)
     have n7_ := Aside0.mk (below_drew1 HB.out)
     clear HO0_0
     clear HO292
     clear HO295
     clear BK280
     clear BK281
     clear BK282
     clear HK
     clear HB
     have HO0_0 := n0_
     have HO292 := n1_
     have HO295 := n2_
     have BK280 := n3_
     have BK281 := n4_
     have BK282 := n5_
     have HK := n6_
     have HB := n7_
     clear n0_ n1_ n2_ n3_ n4_ n5_ n6_ n7_
     refine start_ (n := 8) (S := fun w' => w'.cell? ⟨gb280, 0, none⟩ = some (.slice Ao52 y293.length co52)) (ds := []) #[false, false, false, false, false, false, false, false] (by kernel_rfl) rfl rfl ((blk_cell BK280.out 0).trans rfl) (fun hHeld => ?_); refine with_tabW spec_l3Put.tab7 spec_l3Put.bits7 (fun HT_ HW_ => ?_)
     generalize w54.drew = w55 at HO0_0 HO292 HO295 BK280 BK281 BK282 HK HB hHeld ⊢
     refine pure_ (i := 1) (N := some 28) (v := ?_) (a' := ?_) #[false, true, false, false, false, false, false, false] rfl rfl (any_of HT_.out (by kernel_rfl)) (fun _ _ _ h => h) (Or.inl ⟨by rfl, ?_⟩) ?_ ?_
     rotate_left
     ·intro w'
      go_simp
      with_reducible rfl
     rotate_left
     ·simp only [Act.put, List.setIfInBounds_toArray, List.set_cons_zero, List.set_cons_succ, i64_w, i32_w]
      rfl
     refine take_ (i := 0) (N := some 27) (v := ?_) (a' := ?_) #[true, true, false, false, false, false, false, false] rfl rfl (take_ofW HT_.out HW_.out (by kernel_rfl)) (fun _ _ _ h => h) (Or.inl ⟨by rfl, ?_⟩) hHeld ?_ ?_
     rotate_left
     ·intro w' s0
      go_simp
      with_reducible rfl
     rotate_left
     ·simp only [Act.put, List.setIfInBounds_toArray, List.set_cons_zero, List.set_cons_succ, i64_w, i32_w]
      rfl
     refine take_ (i := 2) (N := some 29) (v := ?_) (a' := ?_) #[true, true, true, false, false, false, false, false] rfl rfl (take_ofW HT_.out HW_.out (by kernel_rfl)) (fun _ _ _ h => h) (Or.inl ⟨by rfl, ?_⟩) hHeld ?_ ?_
     rotate_left
     ·intro w' s0
      go_simp
      with_reducible rfl
     rotate_left
     ·simp only [Act.put, List.setIfInBounds_toArray, List.set_cons_zero, List.set_cons_succ, i64_w, i32_w]
      rfl
     refine pure_ (i := 3) (N := some 30) (v := ?_) (a' := ?_) #[true, true, true, true, false, false, false, false] rfl rfl (any_of HT_.out (by kernel_rfl)) (fun _ _ _ h => h) (Or.inl ⟨by rfl, ?_⟩) ?_ ?_
     rotate_left
     ·intro w'
      go_simp
      with_reducible rfl
     rotate_left
     ·simp only [Act.put, List.setIfInBounds_toArray, List.set_cons_zero, List.set_cons_succ, i64_w, i32_w]
      rfl
     refine pure_ (i := 4) (N := some 31) (v := ?_) (a' := ?_) #[true, true, true, true, true, false, false, false] rfl rfl (any_of HT_.out (by kernel_rfl)) (fun _ _ _ h => h) (Or.inl ⟨by rfl, ?_⟩) ?_ ?_
     rotate_left
     ·intro w'
      go_simp
      with_reducible rfl
     rotate_left
     ·simp only [Act.put, List.setIfInBounds_toArray, List.set_cons_zero, List.set_cons_succ, i64_w, i32_w]
      rfl
     refine pure_ (i := 5) (N := some 32) (v := ?_) (a' := ?_) #[true, true, true, true, true, true, false, false] rfl rfl (any_of HT_.out (by kernel_rfl)) (fun _ _ _ h => h) (Or.inl ⟨by rfl, ?_⟩) ?_ ?_
     rotate_left
     ·intro w'
      go_simp
      with_reducible rfl
     rotate_left
     ·simp only [Act.put, List.setIfInBounds_toArray, List.set_cons_zero, List.set_cons_succ, i64_w, i32_w]
      rfl
     refine one_ (i := 6) (N := none) #[true, true, true, true, true, true, true, false] rfl rfl (one_of HT_.out (by kernel_rfl)) (by decide) (fun K hK => ?_)
     have hs56 : w55.cell? ⟨gb282, 0, none⟩ = some (.slice none 0 0) := (blk_cell BK282.out 0).trans rfl
     have hfs56 := blk_frozen BK282.out 0
     have hns56_0 := NB280_282.out
     have hns56_1 := NB281_282.out
     have hms56_0 := NB282_280.out
     have hms56_1 := NB282_281.out
     refine skip_ (w1 := ?_) (by rfl) rfl ?_ ?_
     rotate_left
     ·go_simp
      rfl
     refine hK.out _ _ (((cell_far (p := ⟨gb282, _, none⟩) NB280_282.out _).trans (hHeld))) (fun hHeld => ?_)
     clear hK K
     refine pure_ (i := 7) (N := some 5) (v := ?_) (a' := ?_) #[true, true, true, true, true, true, true, true] rfl rfl (any_of HT_.out (by kernel_rfl)) (fun _ _ _ h => h) (Or.inl ⟨by rfl, ?_⟩) ?_ ?_
     rotate_left
     ·intro w'
      go_simp
      with_reducible rfl
     rotate_left
     ·simp only [Act.put, List.setIfInBounds_toArray, List.set_cons_zero, List.set_cons_succ, i64_w, i32_w]
      rfl
     refine done_ (done_of HT_.out (by kernel_rfl)) ?_
     try go_wp2
     refine bodyPost_ret (results_ct rfl _ _ gb282 61 #[.slice Ao52 y293.length co52] (0, 0) _ rfl Z167 Try.underlying61 rfl (by kernel_rfl)) rfl ?_
     exact ⟨_, by first | rfl | (simp [errW_none, errW_some] <;> rfl) | (simp [*, errW_none, errW_some] <;> rfl), by (with_reducible repeat (first | apply Kd.R_alloc | apply Kd.R_drewN | apply Kd.R_drew)); exact Kd.R_mono (Kd.R_far (p := ⟨gb282, 0, none⟩) (Kd.R_types HO295.out BK282.out (by decide)) (fun _ hk => hk.2) (.slice Ao52 y293.length co52)) (fun _ hk => hk.1.1), by repeat (first | (with_reducible first | exact HB.out | apply below_alloc | apply pw_below_drewN | apply below_drew1 | refine below_set ?_ GE280.out | refine below_set ?_ GE281.out | refine below_set ?_ GE282.out) | exact HB.out), by repeat (first | (with_reducible first | exact HK.out | apply Kept.alloc | apply Kept.drewN | apply Kept.drew | refine Kept.setCell ?_ (.inr GW280.out) _ | refine Kept.setCell ?_ (.inr GW281.out) _ | refine Kept.setCell ?_ (.inr GW282.out) _) | exact HK.out)⟩
    ·rw [if_neg c31] at H
     exact absurd H (by simp)
   ·rw [if_neg c30] at H
    exact absurd H (by simp)

end Go.Proofs.Ytmahgffkkdggcaa.QFnPosPairs
