-- Laid by a program of this repo (wip/tools/sprint.py): print.py's functions and walks; the contracts named 'BY HAND' are proved by hand.
import Derived.Test.YtmahgffkkdggcaaQFnPosTherex0
import Derived.Test.YtmahgffkkdggcaaQFnPosTherex6
namespace Go.Proofs.Ytmahgffkkdggcaa.QFnPosThere
open Go.RowKit Go.Proofs.YtmahgffkkdggcaaW.PrintWords Go.Proofs.YtmahgffkkdggcaaW.PrintLast Go.Proofs.YtmahgffkkdggcaaW.PrintMore
attribute [local go_sem] max2_int min2_int max_two min_two max_three min_three max_four min_four   -- for this text's walks alone
set_option linter.unusedVariables false
set_option linter.unusedSimpArgs false

/-! ### spec_MapPort: function 85 -/
def spec_MapPort.f (k : Nat) (l0_0 : List (S80)) (a1_0 : Int) (a1_1 : Int) : Option (Int) := (spec_l3Find.f k l0_0 a1_0 a1_1).bind fun t286 => (if t286 < 0 then (some 0) else (some (wrap64 (500 + t286))))
theorem spec_MapPort.mono : ∀ a0 a1 a2 k, LeO (spec_MapPort.f k a0 a1 a2) (spec_MapPort.f (k + 1) a0 a1 a2) := by
 intro a0 a1 a2 k
 unfold spec_MapPort.f
 repeat' first
   | (with_reducible exact spec_l3Find.mono _ _ _ _)
   | (with_reducible exact LeO.refl _)
   | (with_reducible exact LeO.none _)
   | (with_reducible refine LeO.ite ?_ ?_)
   | (with_reducible refine LeO.bind ?_ (fun _ => ?_))
   | exact spec_l3Find.mono _ _ _ _
   | exact LeO.none _
   | refine LeO.ite ?_ ?_
   | refine LeO.bind ?_ (fun _ => ?_)
set_option maxHeartbeats 8000000 in
set_option maxRecDepth 100000 in
theorem spec_MapPort.calls (k : Nat) (A0_0 : Option Addr) (c0_0 : Nat) (l0_0 : List (S80)) (a1_0 : Int) (a1_1 : Int) (r : Int) (w : World) (hr0_0 : Kd.C k80 w A0_0 l0_0.length l0_0) (hc0_0 : l0_0.length ≤ c0_0) (h : spec_MapPort.f k l0_0 a1_0 a1_1 = some r) :
  Calls Try.prog 85 #[.agg #[.slice A0_0 l0_0.length c0_0], .agg #[.int .i64 a1_0, .int .i64 a1_1]] w fun e w' => e = .returned (.int .i64 r) ∧ Below w.heap.size w w' := by
 have hu61 := Try.underlying61
 have hu80 := Try.underlying80
 have HR0_0 := Aside0.mk hr0_0
 have HC0_0 := Aside0.mk hc0_0
 clear hr0_0 hc0_0
 have HB := Aside0.mk (Below.refl w.heap.size w)
 have H : ((spec_l3Find.f k l0_0 a1_0 a1_1).bind fun t286 => (if t286 < 0 then (some 0) else (some (wrap64 (500 + t286))))) = some r := h
 clear h
 replace H := Option.bind_eq_some_iff.mp H
 obtain ⟨t286, A30, H⟩ := H
 replace H : (if t286 < 0 then (some 0) else (some (wrap64 (500 + t286)))) = some r := H
 have A3 := Aside0.mk A30
 clear A30
 by_cases c4 : t286 < 0
 ·rw [if_pos c4] at H
  have c4b0 : decide (t286 < 0) = true := decide_eq_true c4
  clear c4
  obtain rfl := Option.some.inj H
  go_enter Try.func85, Try.ntmps85
  go_wp2_with (first | ((with_reducible refine gate_dst (N := 2) rfl ?_); refine box_event ?hg (N := 2) ?hd (cs := #[.slice A0_0 l0_0.length c0_0]) (t := 61) ?hr ?_; (case hd => rfl); (case hg => rfl); (case hr => first | (go_simp; done) | (go_simp; rfl)); intro gb284 hg w5 hbox hb; have n0_ := Aside0.mk (below_step Z71 hb); have n1_ := Aside0.mk (hbox); have n2_ := Aside0.mk ((Z189 : w.heap.size ≤ gb284)); have n3_ := Aside0.mk ((Z189 : w.heap.size ≤ gb284)); clear HB; have HB := n0_; have BK284 := n1_; have GW284 := n2_; have GE284 := n3_; clear n0_ n1_ n2_ n3_; clear hb hbox hg) | ((with_reducible refine gate_dst (N := 3) rfl ?_); refine box_event ?hg (N := 3) ?hd (cs := #[.int .i64 a1_0, .int .i64 a1_1]) (t := 80) ?hr ?_; (case hd => rfl); (case hg => rfl); (case hr => first | (go_simp; done) | (go_simp; rfl)); intro gb285 hg w6 hbox hb; have n0_ := Aside0.mk (blk_below (g := gb284) (o := .cells #[.slice A0_0 l0_0.length c0_0] 61 (0, 0)) Z45 hb); have n1_ := Aside0.mk (below_step Z90 hb); have n2_ := Aside0.mk (hbox); have n3_ := Aside0.mk ((by rw [hg]; exact (below_size Z90) : w.heap.size ≤ gb285)); have n4_ := Aside0.mk ((by rw [hg]; exact (below_size Z90) : w.heap.size ≤ gb285)); have n5_ := Aside0.mk ((Z209 : gb284 ≠ gb285)); have n6_ := Aside0.mk ((Z210 : gb285 ≠ gb284)); clear BK284; clear HB; have BK284 := n0_; have HB := n1_; have BK285 := n2_; have GW285 := n3_; have GE285 := n4_; have NB284_285 := n5_; have NB285_284 := n6_; clear n0_ n1_ n2_ n3_ n4_ n5_ n6_; clear hb hbox hg; have hnb7 := NB284_285.out; have hnc7 := NB285_284.out; have hcz8_0 : w6.cell? ⟨gb284, 0, none⟩ = some (.slice A0_0 l0_0.length c0_0) := (blk_cell BK284.out 0).trans rfl; have hfz8_0 := blk_frozen BK284.out 0; have hcz9_0 : w6.cell? ⟨gb285, 0, none⟩ = some (.int .i64 a1_0) := (blk_cell BK285.out 0).trans rfl; have hcz9_1 : w6.cell? ⟨gb285, 1, none⟩ = some (.int .i64 a1_1) := (blk_cell BK285.out 1).trans rfl; have hfz9_0 := blk_frozen BK285.out 0; have hfz9_1 := blk_frozen BK285.out 1) | ((with_reducible refine gate_callee (f := 78) rfl ?_); refine goesL_ (some 8) rfl rfl Try.func78 (by kernel_rfl) rfl #[.agg #[.slice A0_0 l0_0.length c0_0], .agg #[.int .i64 a1_0, .int .i64 a1_1]] rfl Z75 ?_; (with_reducible refine (spec_l3Find.calls k _ _ l0_0 a1_0 a1_1 t286 _ ?side1 ?side2 A3.out).mono ?_); (case side1 => exact Z106); (case side2 => exact HC0_0.out); rintro e w10 ⟨rfl, hb⟩; refine ⟨_, rfl, ?_⟩; have n0_ := Aside0.mk (blk_below (g := gb284) (o := .cells #[.slice A0_0 l0_0.length c0_0] 61 (0, 0)) Z45 hb); have n1_ := Aside0.mk (blk_below (g := gb285) (o := .cells #[.int .i64 a1_0, .int .i64 a1_1] 80 (0, 0)) Z46 hb); have n2_ := Aside0.mk (below_step Z118 hb); clear BK284; clear BK285; clear HB; have BK284 := n0_; have BK285 := n1_; have HB := n2_; clear n0_ n1_ n2_; (try clear hb)))
  go_ret
  exact ⟨by first | rfl | (simp [errW_none, errW_some] <;> rfl) | (simp [*, errW_none, errW_some] <;> rfl), by repeat (first | (with_reducible first | exact HB.out | apply below_alloc | apply pw_below_drewN | apply below_drew1 | refine below_set ?_ GE284.out | refine below_set ?_ GE285.out) | exact HB.out)⟩
 ·rw [if_neg c4] at H
  have c4b0 : decide (t286 < 0) = false := decide_eq_false c4
  clear c4
  obtain rfl := Option.some.inj H
  go_enter Try.func85, Try.ntmps85
  go_wp2_with (first | ((with_reducible refine gate_dst (N := 2) rfl ?_); refine box_event ?hg (N := 2) ?hd (cs := #[.slice A0_0 l0_0.length c0_0]) (t := 61) ?hr ?_; (case hd => rfl); (case hg => rfl); (case hr => first | (go_simp; done) | (go_simp; rfl)); intro gb284 hg w11 hbox hb; have n0_ := Aside0.mk (below_step Z71 hb); have n1_ := Aside0.mk (hbox); have n2_ := Aside0.mk ((Z189 : w.heap.size ≤ gb284)); have n3_ := Aside0.mk ((Z189 : w.heap.size ≤ gb284)); clear HB; have HB := n0_; have BK284 := n1_; have GW284 := n2_; have GE284 := n3_; clear n0_ n1_ n2_ n3_; clear hb hbox hg) | ((with_reducible refine gate_dst (N := 3) rfl ?_); refine box_event ?hg (N := 3) ?hd (cs := #[.int .i64 a1_0, .int .i64 a1_1]) (t := 80) ?hr ?_; (case hd => rfl); (case hg => rfl); (case hr => first | (go_simp; done) | (go_simp; rfl)); intro gb285 hg w12 hbox hb; have n0_ := Aside0.mk (blk_below (g := gb284) (o := .cells #[.slice A0_0 l0_0.length c0_0] 61 (0, 0)) Z45 hb); have n1_ := Aside0.mk (below_step Z90 hb); have n2_ := Aside0.mk (hbox); have n3_ := Aside0.mk ((by rw [hg]; exact (below_size Z90) : w.heap.size ≤ gb285)); have n4_ := Aside0.mk ((by rw [hg]; exact (below_size Z90) : w.heap.size ≤ gb285)); have n5_ := Aside0.mk ((Z209 : gb284 ≠ gb285)); have n6_ := Aside0.mk ((Z210 : gb285 ≠ gb284)); clear BK284; clear HB; have BK284 := n0_; have HB := n1_; have BK285 := n2_; have GW285 := n3_; have GE285 := n4_; have NB284_285 := n5_; have NB285_284 := n6_; clear n0_ n1_ n2_ n3_ n4_ n5_ n6_; clear hb hbox hg; have hnb13 := NB284_285.out; have hnc13 := NB285_284.out; have hcz14_0 : w12.cell? ⟨gb284, 0, none⟩ = some (.slice A0_0 l0_0.length c0_0) := (blk_cell BK284.out 0).trans rfl; have hfz14_0 := blk_frozen BK284.out 0; have hcz15_0 : w12.cell? ⟨gb285, 0, none⟩ = some (.int .i64 a1_0) := (blk_cell BK285.out 0).trans rfl; have hcz15_1 : w12.cell? ⟨gb285, 1, none⟩ = some (.int .i64 a1_1) := (blk_cell BK285.out 1).trans rfl; have hfz15_0 := blk_frozen BK285.out 0; have hfz15_1 := blk_frozen BK285.out 1) | ((with_reducible refine gate_callee (f := 78) rfl ?_); refine goesL_ (some 8) rfl rfl Try.func78 (by kernel_rfl) rfl #[.agg #[.slice A0_0 l0_0.length c0_0], .agg #[.int .i64 a1_0, .int .i64 a1_1]] rfl Z75 ?_; (with_reducible refine (spec_l3Find.calls k _ _ l0_0 a1_0 a1_1 t286 _ ?side1 ?side2 A3.out).mono ?_); (case side1 => exact Z106); (case side2 => exact HC0_0.out); rintro e w16 ⟨rfl, hb⟩; refine ⟨_, rfl, ?_⟩; have n0_ := Aside0.mk (blk_below (g := gb284) (o := .cells #[.slice A0_0 l0_0.length c0_0] 61 (0, 0)) Z45 hb); have n1_ := Aside0.mk (blk_below (g := gb285) (o := .cells #[.int .i64 a1_0, .int .i64 a1_1] 80 (0, 0)) Z46 hb); have n2_ := Aside0.mk (below_step Z118 hb); clear BK284; clear BK285; clear HB; have BK284 := n0_; have BK285 := n1_; have HB := n2_; clear n0_ n1_ n2_; (try clear hb)))
  go_ret
  exact ⟨by first | rfl | (simp [errW_none, errW_some] <;> rfl) | (simp [*, errW_none, errW_some] <;> rfl), by repeat (first | (with_reducible first | exact HB.out | apply below_alloc | apply pw_below_drewN | apply below_drew1 | refine below_set ?_ GE284.out | refine below_set ?_ GE285.out) | exact HB.out)⟩

/-! ### spec_l3Put: function 76 -/
def spec_l3Put.f (k : Nat) (l0_0 : List (S80)) (a1_0 : Int) (a1_1 : Int) : Option ((List (S80)) × Int) := (spec_MapPort.f k l0_0 a1_0 a1_1).bind fun t290 => (if t290 > 0 then (some (l0_0, t290)) else (if (l0_0.length : Int) = 6 then (some (l0_0, 0)) else ((some (([] : List (S80)) : List (S80))).bind fun y291 => (if y291.length + l0_0.length < 8796093022208 then ((some (y291 ++ l0_0 : List (S80))).bind fun y294 => ((some (([(⟨a1_0, a1_1⟩ : S80)] : List (S80)) : List (S80))).bind fun y297 => (if y294.length + y297.length < 8796093022208 then ((some (y294 ++ y297 : List (S80))).bind fun y300 => (some (y300, wrap64 ((wrap64 (500 + (y300.length : Int))) - 1)))) else (none)))) else (none)))))
theorem spec_l3Put.mono : ∀ a0 a1 a2 k, LeO (spec_l3Put.f k a0 a1 a2) (spec_l3Put.f (k + 1) a0 a1 a2) := by
 intro a0 a1 a2 k
 unfold spec_l3Put.f
 repeat' first
   | (with_reducible exact spec_MapPort.mono _ _ _ _)
   | (with_reducible exact LeO.refl _)
   | (with_reducible exact LeO.none _)
   | (with_reducible refine LeO.ite ?_ ?_)
   | (with_reducible refine LeO.bind ?_ (fun _ => ?_))
   | exact spec_MapPort.mono _ _ _ _
   | exact LeO.none _
   | refine LeO.ite ?_ ?_
   | refine LeO.bind ?_ (fun _ => ?_)
def spec_l3Put.T6 : Bool × List (List Nat × List Nat) := (true, [([], []), ([], []), ([1], [1]), ([0, 2], [0, 2]), ([], []), ([4], [4]), ([3, 5, 3], [3, 5]), ([0, 1, 2, 3, 4, 5, 6], []), ([7, 6, 6, 0, 1, 2, 3, 4, 5, 6], [6, 7])])
def spec_l3Put.B6 : List Nat := [0, 0, 2, 7, 0, 16, 63, 127, 255]
theorem spec_l3Put.tab6 : rtab .any (opsOf Try.f76 6) = spec_l3Put.T6 := by kernel_rfl
theorem spec_l3Put.bits6 : waitsOk spec_l3Put.T6.2 spec_l3Put.B6 = true := by kernel_rfl
def spec_l3Put.T7 : Bool × List (List Nat × List Nat) := (true, [([], []), ([], []), ([1], [1]), ([2], [2]), ([3], [3]), ([4], [4]), ([0, 0], [0]), ([5, 6, 0, 1, 2, 3, 4, 5, 6], [5])])
def spec_l3Put.B7 : List Nat := [0, 0, 2, 6, 14, 30, 1, 127]
theorem spec_l3Put.tab7 : rtab .any (opsOf Try.f76 7) = spec_l3Put.T7 := by kernel_rfl
theorem spec_l3Put.bits7 : waitsOk spec_l3Put.T7.2 spec_l3Put.B7 = true := by kernel_rfl
set_option maxHeartbeats 8000000 in
set_option maxRecDepth 100000 in
theorem spec_l3Put.calls (k : Nat) (P0_0_ : Nat → Prop) (u9000_ : Value) (l0_0 : List (S80)) (a1_0 : Int) (a1_1 : Int) (r1 : List (S80)) (r2 : Int) (w0 w : World) (hB : Below w0.heap.size w0 w) (ho0_0 : Kd.R k80 80 w w0.heap.size P0_0_ u9000_ l0_0) (h : spec_l3Put.f k l0_0 a1_0 a1_1 = some (r1, r2)) :
  Calls Try.prog 76 #[.agg #[u9000_], .agg #[.int .i64 a1_0, .int .i64 a1_1]] w fun e w' => ∃ v0_ : Value, e = .returned (.tuple #[.agg #[v0_], .int .i64 r2]) ∧ Kd.R k80 80 w' w0.heap.size (fun k_ => (P0_0_ k_ ∨ w.heap.size ≤ k_)) v0_ r1 ∧ Below w0.heap.size w0 w' ∧ Kept w w' (fun k_ => P0_0_ k_) := by
 have hu61 := Try.underlying61
 have hu80 := Try.underlying80
 have HO0_0 := Aside0.mk (show Kd.R k80 80 w w0.heap.size (fun k_ => (P0_0_ k_ ∨ w.heap.size ≤ k_)) u9000_ l0_0 from Kd.R_mono ho0_0 (fun k_ hk => (.inl hk)))
 have HK := Aside0.mk (Kept.refl w (fun k_ => P0_0_ k_))
 have HW0 := Aside0.mk hB.size
 have HB := Aside0.mk hB
 clear hB
 have H : ((spec_MapPort.f k l0_0 a1_0 a1_1).bind fun t290 => (if t290 > 0 then (some (l0_0, t290)) else (if (l0_0.length : Int) = 6 then (some (l0_0, 0)) else ((some (([] : List (S80)) : List (S80))).bind fun y291 => (if y291.length + l0_0.length < 8796093022208 then ((some (y291 ++ l0_0 : List (S80))).bind fun y294 => ((some (([(⟨a1_0, a1_1⟩ : S80)] : List (S80)) : List (S80))).bind fun y297 => (if y294.length + y297.length < 8796093022208 then ((some (y294 ++ y297 : List (S80))).bind fun y300 => (some (y300, wrap64 ((wrap64 (500 + (y300.length : Int))) - 1)))) else (none)))) else (none)))))) = some (r1, r2) := h
 clear h
 replace H := Option.bind_eq_some_iff.mp H
 obtain ⟨t290, A30, H⟩ := H
 replace H : (if t290 > 0 then (some (l0_0, t290)) else (if (l0_0.length : Int) = 6 then (some (l0_0, 0)) else ((some (([] : List (S80)) : List (S80))).bind fun y291 => (if y291.length + l0_0.length < 8796093022208 then ((some (y291 ++ l0_0 : List (S80))).bind fun y294 => ((some (([(⟨a1_0, a1_1⟩ : S80)] : List (S80)) : List (S80))).bind fun y297 => (if y294.length + y297.length < 8796093022208 then ((some (y294 ++ y297 : List (S80))).bind fun y300 => (some (y300, wrap64 ((wrap64 (500 + (y300.length : Int))) - 1)))) else (none)))) else (none))))) = some (r1, r2) := H
 have A3 := Aside0.mk A30
 clear A30
 by_cases c4 : t290 > 0
 ·rw [if_pos c4] at H
  have c4b0 : decide (0 < t290) = true := decide_eq_true c4
  clear c4
  simp only [Option.some.injEq, Prod.mk.injEq] at H
  obtain ⟨rfl, rfl⟩ := H
  obtain ⟨Ao5, co5, eo5⟩ := Kd.R_slice HO0_0.out
  subst eo5
  go_enter Try.func76, Try.ntmps76
  go_wp2_with (first | ((with_reducible refine gate_dst (N := 2) rfl ?_); refine box_event ?hg (N := 2) ?hd (cs := #[.slice Ao5 l0_0.length co5]) (t := 61) ?hr ?_; (case hd => rfl); (case hg => rfl); (case hr => first | (go_simp; done) | (go_simp; rfl)); intro gb287 hg w6 hbox hb; have n0_ := Aside0.mk (Kd.R_below Z27 hb); have n1_ := Aside0.mk (Kept.below (S := (fun k_ => P0_0_ k_)) Z69 hb); have n2_ := Aside0.mk (below_step Z71 hb); have n3_ := Aside0.mk (hbox); have n4_ := Aside0.mk ((Z188 : w.heap.size ≤ gb287)); have n5_ := Aside0.mk ((Z189 : w0.heap.size ≤ gb287)); clear HO0_0; clear HK; clear HB; have HO0_0 := n0_; have HK := n1_; have HB := n2_; have BK287 := n3_; have GW287 := n4_; have GE287 := n5_; clear n0_ n1_ n2_ n3_ n4_ n5_; clear hb hbox hg) | ((with_reducible refine gate_dst (N := 3) rfl ?_); refine box_event ?hg (N := 3) ?hd (cs := #[.int .i64 a1_0, .int .i64 a1_1]) (t := 80) ?hr ?_; (case hd => rfl); (case hg => rfl); (case hr => first | (go_simp; done) | (go_simp; rfl)); intro gb288 hg w7 hbox hb; have n0_ := Aside0.mk (Kd.R_below (Kd.R_elderB Z27 gb288 (Nat.le_of_eq hg.symm)) hb); have n1_ := Aside0.mk (blk_below (g := gb287) (o := .cells #[.slice Ao5 l0_0.length co5] 61 (0, 0)) Z47 hb); have n2_ := Aside0.mk (Kept.below (S := (fun k_ => P0_0_ k_)) Z100 hb); have n3_ := Aside0.mk (below_step Z91 hb); have n4_ := Aside0.mk (hbox); have n5_ := Aside0.mk ((by rw [hg]; exact Z149 : w.heap.size ≤ gb288)); have n6_ := Aside0.mk ((by rw [hg]; exact (below_size Z91) : w0.heap.size ≤ gb288)); have n7_ := Aside0.mk ((Z203 : gb287 ≠ gb288)); have n8_ := Aside0.mk ((Z204 : gb288 ≠ gb287)); clear HO0_0; clear BK287; clear HK; clear HB; have HO0_0 := n0_; have BK287 := n1_; have HK := n2_; have HB := n3_; have BK288 := n4_; have GW288 := n5_; have GE288 := n6_; have NB287_288 := n7_; have NB288_287 := n8_; clear n0_ n1_ n2_ n3_ n4_ n5_ n6_ n7_ n8_; clear hb hbox hg) | ((with_reducible refine gate_dst (N := 4) rfl ?_); refine box_event ?hg (N := 4) ?hd (cs := #[.slice none 0 0]) (t := 61) ?hr ?_; (case hd => rfl); (case hg => rfl); (case hr => first | (go_simp; done) | (go_simp; rfl)); intro gb289 hg w8 hbox hb; have n0_ := Aside0.mk (Kd.R_below Z27 hb); have n1_ := Aside0.mk (blk_below (g := gb287) (o := .cells #[.slice Ao5 l0_0.length co5] 61 (0, 0)) Z47 hb); have n2_ := Aside0.mk (blk_below (g := gb288) (o := .cells #[.int .i64 a1_0, .int .i64 a1_1] 80 (0, 0)) Z48 hb); have n3_ := Aside0.mk (Kept.below (S := (fun k_ => P0_0_ k_)) Z132 hb); have n4_ := Aside0.mk (below_step Z119 hb); have n5_ := Aside0.mk (hbox); have n6_ := Aside0.mk ((by rw [hg]; exact Z165 : w.heap.size ≤ gb289)); have n7_ := Aside0.mk ((by rw [hg]; exact (below_size Z119) : w0.heap.size ≤ gb289)); have n8_ := Aside0.mk ((Z203 : gb287 ≠ gb289)); have n9_ := Aside0.mk ((Z204 : gb289 ≠ gb287)); have n10_ := Aside0.mk ((Z221 : gb288 ≠ gb289)); have n11_ := Aside0.mk ((Z222 : gb289 ≠ gb288)); clear HO0_0; clear BK287; clear BK288; clear HK; clear HB; have HO0_0 := n0_; have BK287 := n1_; have BK288 := n2_; have HK := n3_; have HB := n4_; have BK289 := n5_; have GW289 := n6_; have GE289 := n7_; have NB287_289 := n8_; have NB289_287 := n9_; have NB288_289 := n10_; have NB289_288 := n11_; clear n0_ n1_ n2_ n3_ n4_ n5_ n6_ n7_ n8_ n9_ n10_ n11_; clear hb hbox hg; have hnb9 := NB287_288.out; have hnc9 := NB288_287.out; have hnb10 := NB287_289.out; have hnc10 := NB289_287.out; have hcz11_0 : w8.cell? ⟨gb287, 0, none⟩ = some (.slice Ao5 l0_0.length co5) := (blk_cell BK287.out 0).trans rfl; have hfz11_0 := blk_frozen BK287.out 0; have hnb12 := NB288_289.out; have hnc12 := NB289_288.out; have hcz13_0 : w8.cell? ⟨gb288, 0, none⟩ = some (.int .i64 a1_0) := (blk_cell BK288.out 0).trans rfl; have hcz13_1 : w8.cell? ⟨gb288, 1, none⟩ = some (.int .i64 a1_1) := (blk_cell BK288.out 1).trans rfl; have hfz13_0 := blk_frozen BK288.out 0; have hfz13_1 := blk_frozen BK288.out 1) | ((with_reducible refine gate_callee (f := 85) rfl ?_); refine goesL_ (some 9) rfl rfl Try.func85 (by kernel_rfl) rfl #[.agg #[.slice Ao5 l0_0.length co5], .agg #[.int .i64 a1_0, .int .i64 a1_1]] rfl Z75 ?_; (with_reducible refine (spec_MapPort.calls k _ _ l0_0 a1_0 a1_1 t290 _ ?side1 ?side2 A3.out).mono ?_); (case side1 => exact Z103); (case side2 => exact (Kd.R_reads' HO0_0.out).2.1); rintro e w14 ⟨rfl, hb⟩; refine ⟨_, rfl, ?_⟩; have n0_ := Aside0.mk (Kd.R_below Z27 hb); have n1_ := Aside0.mk (blk_below (g := gb287) (o := .cells #[.slice Ao5 l0_0.length co5] 61 (0, 0)) Z47 hb); have n2_ := Aside0.mk (blk_below (g := gb288) (o := .cells #[.int .i64 a1_0, .int .i64 a1_1] 80 (0, 0)) Z48 hb); have n3_ := Aside0.mk (blk_below (g := gb289) (o := .cells #[.slice none 0 0] 61 (0, 0)) Z49 hb); have n4_ := Aside0.mk (Kept.below (S := (fun k_ => P0_0_ k_)) Z151 hb); have n5_ := Aside0.mk (below_step Z140 hb); clear HO0_0; clear BK287; clear BK288; clear BK289; clear HK; clear HB; have HO0_0 := n0_; have BK287 := n1_; have BK288 := n2_; have BK289 := n3_; have HK := n4_; have HB := n5_; clear n0_ n1_ n2_ n3_ n4_ n5_; (try clear hb); have hcz15_0 : w14.cell? ⟨gb287, 0, none⟩ = some (.slice Ao5 l0_0.length co5) := (blk_cell BK287.out 0).trans rfl; have hfz15_0 := blk_frozen BK287.out 0; have hcz16_0 : w14.cell? ⟨gb289, 0, none⟩ = some (.slice none 0 0) := (blk_cell BK289.out 0).trans rfl; have hfz16_0 := blk_frozen BK289.out 0))
  refine bodyPost_ret (results_ct rfl _ _ gb289 61 #[.slice Ao5 l0_0.length co5] (0, 0) _ rfl Z160 Try.underlying61 rfl (by kernel_rfl)) rfl ?_
  exact ⟨_, by first | rfl | (simp [errW_none, errW_some] <;> rfl) | (simp [*, errW_none, errW_some] <;> rfl), by (with_reducible repeat (first | apply Kd.R_alloc | apply Kd.R_drewN | apply Kd.R_drew)); exact Kd.R_mono (Kd.R_far (p := ⟨gb289, 0, none⟩) (Kd.R_types HO0_0.out BK289.out (by decide)) (fun _ hk => hk.2) (.slice Ao5 l0_0.length co5)) (fun _ hk => hk.1.1), by repeat (first | (with_reducible first | exact HB.out | apply below_alloc | apply pw_below_drewN | apply below_drew1 | refine below_set ?_ GE287.out | refine below_set ?_ GE288.out | refine below_set ?_ GE289.out) | exact HB.out), by repeat (first | (with_reducible first | exact HK.out | apply Kept.alloc | apply Kept.drewN | apply Kept.drew | refine Kept.setCell ?_ (.inr GW287.out) _ | refine Kept.setCell ?_ (.inr GW288.out) _ | refine Kept.setCell ?_ (.inr GW289.out) _) | exact HK.out)⟩
 ·rw [if_neg c4] at H
  have c4b0 : decide (0 < t290) = false := decide_eq_false c4
  clear c4
  by_cases c17 : (l0_0.length : Int) = 6
  ·rw [if_pos c17] at H
   have c17b0 : ((l0_0.length : Int) == 6) = true := beq_iff_eq.mpr c17
   have c17b1 : ((l0_0.length : Int) != 6) = false := bne_eq_false_iff_eq.mpr c17
   clear c17
   simp only [Option.some.injEq, Prod.mk.injEq] at H
   obtain ⟨rfl, rfl⟩ := H
   obtain ⟨Ao18, co18, eo18⟩ := Kd.R_slice HO0_0.out
   subst eo18
   go_enter Try.func76, Try.ntmps76
   go_wp2_with (first | ((with_reducible refine gate_dst (N := 2) rfl ?_); refine box_event ?hg (N := 2) ?hd (cs := #[.slice Ao18 l0_0.length co18]) (t := 61) ?hr ?_; (case hd => rfl); (case hg => rfl); (case hr => first | (go_simp; done) | (go_simp; rfl)); intro gb287 hg w19 hbox hb; have n0_ := Aside0.mk (Kd.R_below Z27 hb); have n1_ := Aside0.mk (Kept.below (S := (fun k_ => P0_0_ k_)) Z69 hb); have n2_ := Aside0.mk (below_step Z71 hb); have n3_ := Aside0.mk (hbox); have n4_ := Aside0.mk ((Z188 : w.heap.size ≤ gb287)); have n5_ := Aside0.mk ((Z189 : w0.heap.size ≤ gb287)); clear HO0_0; clear HK; clear HB; have HO0_0 := n0_; have HK := n1_; have HB := n2_; have BK287 := n3_; have GW287 := n4_; have GE287 := n5_; clear n0_ n1_ n2_ n3_ n4_ n5_; clear hb hbox hg) | ((with_reducible refine gate_dst (N := 3) rfl ?_); refine box_event ?hg (N := 3) ?hd (cs := #[.int .i64 a1_0, .int .i64 a1_1]) (t := 80) ?hr ?_; (case hd => rfl); (case hg => rfl); (case hr => first | (go_simp; done) | (go_simp; rfl)); intro gb288 hg w20 hbox hb; have n0_ := Aside0.mk (Kd.R_below (Kd.R_elderB Z27 gb288 (Nat.le_of_eq hg.symm)) hb); have n1_ := Aside0.mk (blk_below (g := gb287) (o := .cells #[.slice Ao18 l0_0.length co18] 61 (0, 0)) Z47 hb); have n2_ := Aside0.mk (Kept.below (S := (fun k_ => P0_0_ k_)) Z100 hb); have n3_ := Aside0.mk (below_step Z91 hb); have n4_ := Aside0.mk (hbox); have n5_ := Aside0.mk ((by rw [hg]; exact Z149 : w.heap.size ≤ gb288)); have n6_ := Aside0.mk ((by rw [hg]; exact (below_size Z91) : w0.heap.size ≤ gb288)); have n7_ := Aside0.mk ((Z211 : gb287 ≠ gb288)); have n8_ := Aside0.mk ((Z212 : gb288 ≠ gb287)); clear HO0_0; clear BK287; clear HK; clear HB; have HO0_0 := n0_; have BK287 := n1_; have HK := n2_; have HB := n3_; have BK288 := n4_; have GW288 := n5_; have GE288 := n6_; have NB287_288 := n7_; have NB288_287 := n8_; clear n0_ n1_ n2_ n3_ n4_ n5_ n6_ n7_ n8_; clear hb hbox hg) | ((with_reducible refine gate_dst (N := 4) rfl ?_); refine box_event ?hg (N := 4) ?hd (cs := #[.slice none 0 0]) (t := 61) ?hr ?_; (case hd => rfl); (case hg => rfl); (case hr => first | (go_simp; done) | (go_simp; rfl)); intro gb289 hg w21 hbox hb; have n0_ := Aside0.mk (Kd.R_below Z27 hb); have n1_ := Aside0.mk (blk_below (g := gb287) (o := .cells #[.slice Ao18 l0_0.length co18] 61 (0, 0)) Z47 hb); have n2_ := Aside0.mk (blk_below (g := gb288) (o := .cells #[.int .i64 a1_0, .int .i64 a1_1] 80 (0, 0)) Z48 hb); have n3_ := Aside0.mk (Kept.below (S := (fun k_ => P0_0_ k_)) Z132 hb); have n4_ := Aside0.mk (below_step Z119 hb); have n5_ := Aside0.mk (hbox); have n6_ := Aside0.mk ((by rw [hg]; exact Z165 : w.heap.size ≤ gb289)); have n7_ := Aside0.mk ((by rw [hg]; exact (below_size Z119) : w0.heap.size ≤ gb289)); have n8_ := Aside0.mk ((Z211 : gb287 ≠ gb289)); have n9_ := Aside0.mk ((Z212 : gb289 ≠ gb287)); have n10_ := Aside0.mk ((Z221 : gb288 ≠ gb289)); have n11_ := Aside0.mk ((Z222 : gb289 ≠ gb288)); clear HO0_0; clear BK287; clear BK288; clear HK; clear HB; have HO0_0 := n0_; have BK287 := n1_; have BK288 := n2_; have HK := n3_; have HB := n4_; have BK289 := n5_; have GW289 := n6_; have GE289 := n7_; have NB287_289 := n8_; have NB289_287 := n9_; have NB288_289 := n10_; have NB289_288 := n11_; clear n0_ n1_ n2_ n3_ n4_ n5_ n6_ n7_ n8_ n9_ n10_ n11_; clear hb hbox hg; have hnb22 := NB287_288.out; have hnc22 := NB288_287.out; have hnb23 := NB287_289.out; have hnc23 := NB289_287.out; have hcz24_0 : w21.cell? ⟨gb287, 0, none⟩ = some (.slice Ao18 l0_0.length co18) := (blk_cell BK287.out 0).trans rfl; have hfz24_0 := blk_frozen BK287.out 0; have hnb25 := NB288_289.out; have hnc25 := NB289_288.out; have hcz26_0 : w21.cell? ⟨gb288, 0, none⟩ = some (.int .i64 a1_0) := (blk_cell BK288.out 0).trans rfl; have hcz26_1 : w21.cell? ⟨gb288, 1, none⟩ = some (.int .i64 a1_1) := (blk_cell BK288.out 1).trans rfl; have hfz26_0 := blk_frozen BK288.out 0; have hfz26_1 := blk_frozen BK288.out 1) | ((with_reducible refine gate_callee (f := 85) rfl ?_); refine goesL_ (some 9) rfl rfl Try.func85 (by kernel_rfl) rfl #[.agg #[.slice Ao18 l0_0.length co18], .agg #[.int .i64 a1_0, .int .i64 a1_1]] rfl Z75 ?_; (with_reducible refine (spec_MapPort.calls k _ _ l0_0 a1_0 a1_1 t290 _ ?side1 ?side2 A3.out).mono ?_); (case side1 => exact Z103); (case side2 => exact (Kd.R_reads' HO0_0.out).2.1); rintro e w27 ⟨rfl, hb⟩; refine ⟨_, rfl, ?_⟩; have n0_ := Aside0.mk (Kd.R_below Z27 hb); have n1_ := Aside0.mk (blk_below (g := gb287) (o := .cells #[.slice Ao18 l0_0.length co18] 61 (0, 0)) Z47 hb); have n2_ := Aside0.mk (blk_below (g := gb288) (o := .cells #[.int .i64 a1_0, .int .i64 a1_1] 80 (0, 0)) Z48 hb); have n3_ := Aside0.mk (blk_below (g := gb289) (o := .cells #[.slice none 0 0] 61 (0, 0)) Z49 hb); have n4_ := Aside0.mk (Kept.below (S := (fun k_ => P0_0_ k_)) Z151 hb); have n5_ := Aside0.mk (below_step Z140 hb); clear HO0_0; clear BK287; clear BK288; clear BK289; clear HK; clear HB; have HO0_0 := n0_; have BK287 := n1_; have BK288 := n2_; have BK289 := n3_; have HK := n4_; have HB := n5_; clear n0_ n1_ n2_ n3_ n4_ n5_; (try clear hb); have hcz28_0 : w27.cell? ⟨gb287, 0, none⟩ = some (.slice Ao18 l0_0.length co18) := (blk_cell BK287.out 0).trans rfl; have hfz28_0 := blk_frozen BK287.out 0; have hcz29_0 : w27.cell? ⟨gb289, 0, none⟩ = some (.slice none 0 0) := (blk_cell BK289.out 0).trans rfl; have hfz29_0 := blk_frozen BK289.out 0))
   refine bodyPost_ret (results_ct rfl _ _ gb289 61 #[.slice Ao18 l0_0.length co18] (0, 0) _ rfl Z160 Try.underlying61 rfl (by kernel_rfl)) rfl ?_
   exact ⟨_, by first | rfl | (simp [errW_none, errW_some] <;> rfl) | (simp [*, errW_none, errW_some] <;> rfl), by (with_reducible repeat (first | apply Kd.R_alloc | apply Kd.R_drewN | apply Kd.R_drew)); exact Kd.R_mono (Kd.R_far (p := ⟨gb289, 0, none⟩) (Kd.R_types HO0_0.out BK289.out (by decide)) (fun _ hk => hk.2) (.slice Ao18 l0_0.length co18)) (fun _ hk => hk.1.1), by repeat (first | (with_reducible first | exact HB.out | apply below_alloc | apply pw_below_drewN | apply below_drew1 | refine below_set ?_ GE287.out | refine below_set ?_ GE288.out | refine below_set ?_ GE289.out) | exact HB.out), by repeat (first | (with_reducible first | exact HK.out | apply Kept.alloc | apply Kept.drewN | apply Kept.drew | refine Kept.setCell ?_ (.inr GW287.out) _ | refine Kept.setCell ?_ (.inr GW288.out) _ | refine Kept.setCell ?_ (.inr GW289.out) _) | exact HK.out)⟩
  ·rw [if_neg c17] at H
   have c17b0 : ((l0_0.length : Int) == 6) = false := beq_eq_false_iff_ne.mpr c17
   have c17b1 : ((l0_0.length : Int) != 6) = true := bne_iff_ne.mpr c17
   obtain ⟨y291, hy291⟩ : ∃ y_ : List (S80), y_ = (([] : List (S80))) := ⟨_, rfl⟩
   replace H : (if y291.length + l0_0.length < 8796093022208 then ((some (y291 ++ l0_0 : List (S80))).bind fun y294 => ((some (([(⟨a1_0, a1_1⟩ : S80)] : List (S80)) : List (S80))).bind fun y297 => (if y294.length + y297.length < 8796093022208 then ((some (y294 ++ y297 : List (S80))).bind fun y300 => (some (y300, wrap64 ((wrap64 (500 + (y300.length : Int))) - 1)))) else (none)))) else (none)) = some (r1, r2) := by first | (rw [hy291]; with_reducible exact H) | (have H2_ := (Option.bind_some _ _).symm.trans H; rw [hy291]; with_reducible exact H2_) | (have H2_ := (Option.bind_some _ _).symm.trans H; with_reducible exact H2_) | with_reducible exact H | (rw [hy291]; exact H) | exact H
   have Ny291 := Aside0.mk hy291
   clear hy291
   by_cases c30 : y291.length + l0_0.length < 8796093022208
   ·rw [if_pos c30] at H
    have LMc30 := Aside0.mk c30
    clear c30
    obtain ⟨y294, hy294⟩ : ∃ y_ : List (S80), y_ = (y291 ++ l0_0) := ⟨_, rfl⟩
    replace H : ((some (([(⟨a1_0, a1_1⟩ : S80)] : List (S80)) : List (S80))).bind fun y297 => (if y294.length + y297.length < 8796093022208 then ((some (y294 ++ y297 : List (S80))).bind fun y300 => (some (y300, wrap64 ((wrap64 (500 + (y300.length : Int))) - 1)))) else (none))) = some (r1, r2) := by first | (rw [hy294]; with_reducible exact H) | (have H2_ := (Option.bind_some _ _).symm.trans H; rw [hy294]; with_reducible exact H2_) | (have H2_ := (Option.bind_some _ _).symm.trans H; with_reducible exact H2_) | with_reducible exact H | (rw [hy294]; exact H) | exact H
    have Ny294 := Aside0.mk hy294
    clear hy294
    obtain ⟨y297, hy297⟩ : ∃ y_ : List (S80), y_ = (([(⟨a1_0, a1_1⟩ : S80)] : List (S80))) := ⟨_, rfl⟩
    replace H : (if y294.length + y297.length < 8796093022208 then ((some (y294 ++ y297 : List (S80))).bind fun y300 => (some (y300, wrap64 ((wrap64 (500 + (y300.length : Int))) - 1)))) else (none)) = some (r1, r2) := by first | (rw [hy297]; with_reducible exact H) | (have H2_ := (Option.bind_some _ _).symm.trans H; rw [hy297]; with_reducible exact H2_) | (have H2_ := (Option.bind_some _ _).symm.trans H; with_reducible exact H2_) | with_reducible exact H | (rw [hy297]; exact H) | exact H
    have Ny297 := Aside0.mk hy297
    clear hy297
    by_cases c31 : y294.length + y297.length < 8796093022208
    ·rw [if_pos c31] at H
     have LMc31 := Aside0.mk c31
     clear c31
     obtain ⟨y300, hy300⟩ : ∃ y_ : List (S80), y_ = (y294 ++ y297) := ⟨_, rfl⟩
     replace H : (some (y300, wrap64 ((wrap64 (500 + (y300.length : Int))) - 1))) = some (r1, r2) := by first | (rw [hy300]; with_reducible exact H) | (have H2_ := (Option.bind_some _ _).symm.trans H; rw [hy300]; with_reducible exact H2_) | (have H2_ := (Option.bind_some _ _).symm.trans H; with_reducible exact H2_) | with_reducible exact H | (rw [hy300]; exact H) | exact H
     have Ny300 := Aside0.mk hy300
     clear hy300
     simp only [Option.some.injEq, Prod.mk.injEq] at H
     obtain ⟨rfl, rfl⟩ := H
     obtain ⟨Ao32, co32, eo32⟩ := Kd.R_slice HO0_0.out
     subst eo32
     go_enter Try.func76, Try.ntmps76
     try go_wp2_with (first | ((with_reducible refine gate_dst (N := 2) rfl ?_); refine box_event ?hg (N := 2) ?hd (cs := #[.slice Ao32 l0_0.length co32]) (t := 61) ?hr ?_; (case hd => rfl); (case hg => rfl); (case hr => first | (go_simp; done) | (go_simp; rfl)); intro gb287 hg w33 hbox hb; have n0_ := Aside0.mk (Kd.R_below Z27 hb); have n1_ := Aside0.mk (Kept.below (S := (fun k_ => P0_0_ k_)) Z69 hb); have n2_ := Aside0.mk (below_step Z71 hb); have n3_ := Aside0.mk (hbox); have n4_ := Aside0.mk ((Z188 : w.heap.size ≤ gb287)); have n5_ := Aside0.mk ((Z189 : w0.heap.size ≤ gb287)); clear HO0_0; clear HK; clear HB; have HO0_0 := n0_; have HK := n1_; have HB := n2_; have BK287 := n3_; have GW287 := n4_; have GE287 := n5_; clear n0_ n1_ n2_ n3_ n4_ n5_; clear hb hbox hg) | ((with_reducible refine gate_dst (N := 3) rfl ?_); refine box_event ?hg (N := 3) ?hd (cs := #[.int .i64 a1_0, .int .i64 a1_1]) (t := 80) ?hr ?_; (case hd => rfl); (case hg => rfl); (case hr => first | (go_simp; done) | (go_simp; rfl)); intro gb288 hg w34 hbox hb; have n0_ := Aside0.mk (Kd.R_below (Kd.R_elderB Z27 gb288 (Nat.le_of_eq hg.symm)) hb); have n1_ := Aside0.mk (blk_below (g := gb287) (o := .cells #[.slice Ao32 l0_0.length co32] 61 (0, 0)) Z47 hb); have n2_ := Aside0.mk (Kept.below (S := (fun k_ => P0_0_ k_)) Z100 hb); have n3_ := Aside0.mk (below_step Z91 hb); have n4_ := Aside0.mk (hbox); have n5_ := Aside0.mk ((by rw [hg]; exact Z149 : w.heap.size ≤ gb288)); have n6_ := Aside0.mk ((by rw [hg]; exact (below_size Z91) : w0.heap.size ≤ gb288)); have n7_ := Aside0.mk ((Z213 : gb287 ≠ gb288)); have n8_ := Aside0.mk ((Z214 : gb288 ≠ gb287)); clear HO0_0; clear BK287; clear HK; clear HB; have HO0_0 := n0_; have BK287 := n1_; have HK := n2_; have HB := n3_; have BK288 := n4_; have GW288 := n5_; have GE288 := n6_; have NB287_288 := n7_; have NB288_287 := n8_; clear n0_ n1_ n2_ n3_ n4_ n5_ n6_ n7_ n8_; clear hb hbox hg) | ((with_reducible refine gate_dst (N := 4) rfl ?_); refine box_event ?hg (N := 4) ?hd (cs := #[.slice none 0 0]) (t := 61) ?hr ?_; (case hd => rfl); (case hg => rfl); (case hr => first | (go_simp; done) | (go_simp; rfl)); intro gb289 hg w35 hbox hb; have n0_ := Aside0.mk (Kd.R_below Z27 hb); have n1_ := Aside0.mk (blk_below (g := gb287) (o := .cells #[.slice Ao32 l0_0.length co32] 61 (0, 0)) Z47 hb); have n2_ := Aside0.mk (blk_below (g := gb288) (o := .cells #[.int .i64 a1_0, .int .i64 a1_1] 80 (0, 0)) Z48 hb); have n3_ := Aside0.mk (Kept.below (S := (fun k_ => P0_0_ k_)) Z132 hb); have n4_ := Aside0.mk (below_step Z119 hb); have n5_ := Aside0.mk (hbox); have n6_ := Aside0.mk ((by rw [hg]; exact Z165 : w.heap.size ≤ gb289)); have n7_ := Aside0.mk ((by rw [hg]; exact (below_size Z119) : w0.heap.size ≤ gb289)); have n8_ := Aside0.mk ((Z213 : gb287 ≠ gb289)); have n9_ := Aside0.mk ((Z214 : gb289 ≠ gb287)); have n10_ := Aside0.mk ((Z221 : gb288 ≠ gb289)); have n11_ := Aside0.mk ((Z222 : gb289 ≠ gb288)); clear HO0_0; clear BK287; clear BK288; clear HK; clear HB; have HO0_0 := n0_; have BK287 := n1_; have BK288 := n2_; have HK := n3_; have HB := n4_; have BK289 := n5_; have GW289 := n6_; have GE289 := n7_; have NB287_289 := n8_; have NB289_287 := n9_; have NB288_289 := n10_; have NB289_288 := n11_; clear n0_ n1_ n2_ n3_ n4_ n5_ n6_ n7_ n8_ n9_ n10_ n11_; clear hb hbox hg; have hnb36 := NB287_288.out; have hnc36 := NB288_287.out; have hnb37 := NB287_289.out; have hnc37 := NB289_287.out; have hcz38_0 : w35.cell? ⟨gb287, 0, none⟩ = some (.slice Ao32 l0_0.length co32) := (blk_cell BK287.out 0).trans rfl; have hfz38_0 := blk_frozen BK287.out 0; have hnb39 := NB288_289.out; have hnc39 := NB289_288.out; have hcz40_0 : w35.cell? ⟨gb288, 0, none⟩ = some (.int .i64 a1_0) := (blk_cell BK288.out 0).trans rfl; have hcz40_1 : w35.cell? ⟨gb288, 1, none⟩ = some (.int .i64 a1_1) := (blk_cell BK288.out 1).trans rfl; have hfz40_0 := blk_frozen BK288.out 0; have hfz40_1 := blk_frozen BK288.out 1) | ((with_reducible refine gate_callee (f := 85) rfl ?_); refine goesL_ (some 9) rfl rfl Try.func85 (by kernel_rfl) rfl #[.agg #[.slice Ao32 l0_0.length co32], .agg #[.int .i64 a1_0, .int .i64 a1_1]] rfl Z75 ?_; (with_reducible refine (spec_MapPort.calls k _ _ l0_0 a1_0 a1_1 t290 _ ?side1 ?side2 A3.out).mono ?_); (case side1 => exact Z103); (case side2 => exact (Kd.R_reads' HO0_0.out).2.1); rintro e w41 ⟨rfl, hb⟩; refine ⟨_, rfl, ?_⟩; have n0_ := Aside0.mk (Kd.R_below Z27 hb); have n1_ := Aside0.mk (blk_below (g := gb287) (o := .cells #[.slice Ao32 l0_0.length co32] 61 (0, 0)) Z47 hb); have n2_ := Aside0.mk (blk_below (g := gb288) (o := .cells #[.int .i64 a1_0, .int .i64 a1_1] 80 (0, 0)) Z48 hb); have n3_ := Aside0.mk (blk_below (g := gb289) (o := .cells #[.slice none 0 0] 61 (0, 0)) Z49 hb); have n4_ := Aside0.mk (Kept.below (S := (fun k_ => P0_0_ k_)) Z151 hb); have n5_ := Aside0.mk (below_step Z140 hb); clear HO0_0; clear BK287; clear BK288; clear BK289; clear HK; clear HB; have HO0_0 := n0_; have BK287 := n1_; have BK288 := n2_; have BK289 := n3_; have HK := n4_; have HB := n5_; clear n0_ n1_ n2_ n3_ n4_ n5_; (try clear hb); have hcz42_0 : w41.cell? ⟨gb287, 0, none⟩ = some (.slice Ao32 l0_0.length co32) := (blk_cell BK287.out 0).trans rfl; have hfz42_0 := blk_frozen BK287.out 0))
     have n0_ := Aside0.mk (Kd.R_drew HO0_0.out)
     have n1_ := Aside0.mk (blk_drew BK287.out)
     have n2_ := Aside0.mk (blk_drew BK288.out)
     have n3_ := Aside0.mk (blk_drew BK289.out)
     have n4_ := Aside0.mk (Kept.drew HK.out)
     have n5_ := Aside0.mk (below_drew1 HB.out)
     clear HO0_0
     clear BK287
     clear BK288
     clear BK289
     clear HK
     clear HB
     have HO0_0 := n0_
     have BK287 := n1_
     have BK288 := n2_
     have BK289 := n3_
     have HK := n4_
     have HB := n5_
     clear n0_ n1_ n2_ n3_ n4_ n5_
     refine start_ (n := 9) (S := fun w' => w'.cell? ⟨gb287, 0, none⟩ = some (.slice Ao32 l0_0.length co32) ∧ w'.cell? ⟨gb288, 0, none⟩ = some (.int .i64 a1_0) ∧ w'.cell? ⟨gb288, 1, none⟩ = some (.int .i64 a1_1)) (ds := [8]) #[false, false, false, false, false, false, false, false, false] (by kernel_rfl) rfl rfl ⟨(blk_cell BK287.out 0).trans rfl, (blk_cell BK288.out 0).trans rfl, (blk_cell BK288.out 1).trans rfl⟩ (fun hHeld => ?_); refine with_tabW spec_l3Put.tab6 spec_l3Put.bits6 (fun HT_ HW_ => ?_)
     generalize w41.drew = w43 at HO0_0 BK287 BK288 BK289 HK HB hHeld ⊢
     refine pure_ (i := 1) (N := some 20) (v := ?_) (a' := ?_) #[false, true, false, false, false, false, false, false, false] rfl rfl (any_of HT_.out (by kernel_rfl)) (fun _ _ _ h => h) (Or.inl ⟨by rfl, ?_⟩) ?_ ?_
     rotate_left
     ·intro w'
      go_simp
      with_reducible rfl
     rotate_left
     ·simp only [Act.put, List.setIfInBounds_toArray, List.set_cons_zero, List.set_cons_succ, i64_w, i32_w]
      rfl
     refine take_ (i := 2) (N := some 21) (v := ?_) (a' := ?_) #[false, true, true, false, false, false, false, false, false] rfl rfl (take_ofW HT_.out HW_.out (by kernel_rfl)) (fun _ _ _ h => h) (Or.inl ⟨by rfl, ?_⟩) hHeld ?_ ?_
     rotate_left
     ·rintro w' ⟨s0, s1, s2⟩
      go_simp
      with_reducible rfl
     rotate_left
     ·simp only [Act.put, List.setIfInBounds_toArray, List.set_cons_zero, List.set_cons_succ, i64_w, i32_w]
      rfl
     refine take_ (i := 4) (N := some 23) (v := ?_) (a' := ?_) #[false, true, true, false, true, false, false, false, false] rfl rfl (take_ofW HT_.out HW_.out (by kernel_rfl)) (fun _ _ _ h => h) (Or.inl ⟨by rfl, ?_⟩) hHeld ?_ ?_
     rotate_left
     ·rintro w' ⟨s0, s1, s2⟩
      go_simp
      with_reducible rfl
     rotate_left
     ·simp only [Act.put, List.setIfInBounds_toArray, List.set_cons_zero, List.set_cons_succ, i64_w, i32_w]
      rfl
     refine join_ (σ := Value × Value × Value) 3 #[true, true, true, true, true, true, false, false, false] (fun s_ => [(19, s_.1), (22, s_.2.1), (24, s_.2.2)]) (fun s_ w' => (w'.cell? ⟨gb287, 0, none⟩ = some (.slice Ao32 l0_0.length co32) ∧ w'.cell? ⟨gb288, 0, none⟩ = some (.int .i64 a1_0) ∧ w'.cell? ⟨gb288, 1, none⟩ = some (.int .i64 a1_1)) ∧ (Kd.R k80 80 w' w0.heap.size (fun k_ => (P0_0_ k_ ∨ w.heap.size ≤ k_) ∧ some k_ ≠ (s_.2.1 : Value).ownBlock ∧ some k_ ≠ (s_.2.2 : Value).ownBlock ∧ k_ ≠ gb288) (.slice Ao32 l0_0.length co32) l0_0) ∧ (Kd.R k80 80 w' w0.heap.size (fun k_ => (P0_0_ k_ ∨ w.heap.size ≤ k_) ∧ some k_ ≠ (.slice Ao32 l0_0.length co32 : Value).ownBlock ∧ some k_ ≠ (s_.2.2 : Value).ownBlock ∧ k_ ≠ gb288) s_.2.1 y294) ∧ (Kd.R k80 80 w' w0.heap.size (fun k_ => (P0_0_ k_ ∨ w.heap.size ≤ k_) ∧ some k_ ≠ (.slice Ao32 l0_0.length co32 : Value).ownBlock ∧ some k_ ≠ (s_.2.1 : Value).ownBlock ∧ k_ ≠ gb288) s_.2.2 y297) ∧ (w'.heap[gb287]? = some (.cells #[.slice Ao32 l0_0.length co32] 61 (0, 0))) ∧ (w'.heap[gb288]? = some (.cells #[.int .i64 a1_0, .int .i64 a1_1] 80 (0, 0))) ∧ (w'.heap[gb289]? = some (.cells #[.slice none 0 0] 61 (0, 0))) ∧ (Kept w w' (fun k_ => P0_0_ k_)) ∧ (Below w0.heap.size w0 w')) ?_ ?_
     rotate_left
     ·intro hCont
      refine two_ (i := 0) (j := 5) (Ni := some 19) (Nj := some 24) #[true, true, true, false, true, false, false, false, false] #[false, true, true, false, true, true, false, false, false] rfl rfl rfl rfl (two_of HT_.out (by kernel_rfl)) (by decide) (by decide) (fun K hK => ?_) (fun K hK => ?_)
      ·skip
       refine Kd.R_lit_step k80 _ 80 ?hg (N := 19) ?hd (xs := ([] : List (S80))) (inner := []) (ok := fun _ => True) (okp := fun _ => True) ?hr ?hp (fun _ hk => hk) trivial (Below.refl _ _) (Nat.le_refl _) (by simp) ?_; (case hd => rfl); (case hg => rfl); (case hr => first | (go_simp; done) | (go_simp; rfl)); (case hp => exact (Reps.none _ _))
       intro v292 w44 ho45 hb hg_ hnew_
       clear hg_ hnew_
       (first | rw [← Ny291.out] at ho45 | (simp only [Int.reduceToNat] at ho45; rw [← Ny291.out] at ho45))
       have n0_ := Aside0.mk (Kd.R_elder' Z27 (Kd.R_base ho45) hb)
       have n1_ := Aside0.mk (Kd.R_lower (Kd.R_newB (Kd.R_new' (Kd.R_newM (M := fun k_ => (P0_0_ k_ ∨ w.heap.size ≤ k_)) ho45 Z174 (fun k_ h_ => .inr h_)) (Kd.R_lt Z27)) (g := gb288) (o := .cells #[.int .i64 a1_0, .int .i64 a1_1] 80 (0, 0)) Z48) (below_size Z140))
       have n2_ := Aside0.mk (blk_below (g := gb287) (o := .cells #[.slice Ao32 l0_0.length co32] 61 (0, 0)) Z47 hb)
       have n3_ := Aside0.mk (blk_below (g := gb288) (o := .cells #[.int .i64 a1_0, .int .i64 a1_1] 80 (0, 0)) Z48 hb)
       have n4_ := Aside0.mk (blk_below (g := gb289) (o := .cells #[.slice none 0 0] 61 (0, 0)) Z49 hb)
       have n5_ := Aside0.mk (Kept.below (S := (fun k_ => P0_0_ k_)) Z151 hb)
       have n6_ := Aside0.mk (below_step Z140 hb)
       clear HO0_0
       clear BK287
       clear BK288
       clear BK289
       clear HK
       clear HB
       have HO0_0 := n0_
       have HO293 := n1_
       have BK287 := n2_
       have BK288 := n3_
       have BK289 := n4_
       have HK := n5_
       have HB := n6_
       clear n0_ n1_ n2_ n3_ n4_ n5_ n6_
       clear hb ho45
       refine hK.out _ _ ⟨(blk_cell BK287.out 0).trans rfl, (blk_cell BK288.out 0).trans rfl, (blk_cell BK288.out 1).trans rfl⟩ (fun hHeld => ?_)
       clear hK K
       refine norm_ (a' := ?_) ?_ ?_
       rotate_left
       ·show Act.put _ (some 19) _ = _
        simp only [Act.put, List.setIfInBounds_toArray, List.set_cons_zero, List.set_cons_succ, i64_w, i32_w]
        rfl
       refine two_ (i := 3) (j := 5) (Ni := some 22) (Nj := some 24) #[true, true, true, true, true, false, false, false, false] #[true, true, true, false, true, true, false, false, false] rfl rfl rfl rfl (two_of HT_.out (by kernel_rfl)) (by decide) (by decide) (fun K hK => ?_) (fun K hK => ?_)
       ·skip
        refine Kd.R_append_rows_step k80 (w0 := w0) w0.heap.size (by rfl) (.tmp 19) (.tmp 21) 59 80 (.agg #[(.int .i64 0), (.int .i64 0)]) 16 rfl Try.underlying59 info80 rfl (by decide) (by omega) v292 y291 l0_0 _ _ _ (fun k_ => (P0_0_ k_ ∨ w.heap.size ≤ k_) ∧ some k_ ≠ (.slice Ao32 l0_0.length co32 : Value).ownBlock ∧ k_ ≠ gb288) (fun _ => False) rfl rfl ?aO ?aR (fun _ _ h => h) (fun _ h => h.elim) ?aF ?aB ?aS ?aL ?_
        (case aR => exact Z103)
        (case aB => exact Z140)
        (case aF => exact (fun k_ hk => ⟨(.inr (Nat.le_trans Z174 hk)), Kd.fresh' (Kd.R_lt Z27) k_ hk, Kd.freshB (g := gb288) (o := .cells #[.int .i64 a1_0, .int .i64 a1_1] 80 (0, 0)) Z48 k_ hk⟩))
        (case aO => exact (by (with_reducible repeat (first | apply Kd.R_alloc | apply Kd.R_drewN | apply Kd.R_drew)); exact Kd.R_mono HO293.out (fun _ hk => ⟨hk.1.1.1, ⟨hk.1.2, hk.2⟩⟩)))
        (case aS => exact (below_size Z140))
        (case aL => have := LMc30.out; omega)
        intro v295 w46 ho hb hg hat
        rw [← Ny294.out] at ho
        have n0_ := Aside0.mk (Kd.R_after (ok := (fun k_ => (P0_0_ k_ ∨ w.heap.size ≤ k_) ∧ k_ ≠ gb288)) Z27 hg hat)
        have n1_ := Aside0.mk (blk_grown (g := gb287) (o := .cells #[.slice Ao32 l0_0.length co32] 61 (0, 0)) Z47 hg (Kd.R_ne HO293.out BK287.out (by decide)))
        have n2_ := Aside0.mk (blk_grown (g := gb288) (o := .cells #[.int .i64 a1_0, .int .i64 a1_1] 80 (0, 0)) Z48 hg (Kd.R_away HO293.out (fun _ hk => hk.2)))
        have n3_ := Aside0.mk (blk_grown (g := gb289) (o := .cells #[.slice none 0 0] 61 (0, 0)) Z49 hg (Kd.R_ne HO293.out BK289.out (by decide)))
        have n4_ := Aside0.mk (hb)
        have n5_ := Aside0.mk (Kept.of_grown (S := (fun k_ => P0_0_ k_)) hg Z151 (fun k_ e_ => (HO293.out.1 k_ e_).1.1.1))
        have n6_ := Aside0.mk (ho)
        clear HO0_0
        clear BK287
        clear BK288
        clear BK289
        clear HB
        clear HK
        clear HO293
        have HO0_0 := n0_
        have BK287 := n1_
        have BK288 := n2_
        have BK289 := n3_
        have HB := n4_
        have HK := n5_
        have HO296 := n6_
        clear n0_ n1_ n2_ n3_ n4_ n5_ n6_
        clear ho hb hg hat
        refine hK.out _ _ ⟨(blk_cell BK287.out 0).trans rfl, (blk_cell BK288.out 0).trans rfl, (blk_cell BK288.out 1).trans rfl⟩ (fun hHeld => ?_)
        clear hK K
        refine norm_ (a' := ?_) ?_ ?_
        rotate_left
        ·show Act.put _ (some 22) _ = _
         simp only [Act.put, List.setIfInBounds_toArray, List.set_cons_zero, List.set_cons_succ, i64_w, i32_w]
         rfl
        refine one_ (i := 5) (N := some 24) #[true, true, true, true, true, true, false, false, false] rfl rfl (one_of HT_.out (by kernel_rfl)) (by decide) (fun K hK => ?_)
        refine Kd.R_lit_step k80 _ 80 ?hg (N := 24) ?hd (xs := ([(⟨a1_0, a1_1⟩ : S80)] : List (S80))) (inner := [.int .i64 a1_0, .int .i64 a1_1]) (ok := fun _ => True) (okp := fun _ => True) ?hr ?hp (fun _ hk => hk) trivial (Below.refl _ _) (Nat.le_refl _) (by simp) ?_; (case hd => rfl); (case hg => rfl); (case hr => first | (go_simp; done) | (go_simp; rfl)); (case hp => exact (Reps.c2 (show Kd.M k80 _ _ _ (⟨a1_0, a1_1⟩ : S80) [.int .i64 a1_0, .int .i64 a1_1] from (k80_mkM _ _ _ (⟨a1_0, a1_1⟩ : S80) )) (Reps.none _ _)))
        intro v298 w47 ho48 hb hg_ hnew_
        clear hg_ hnew_
        (first | rw [← Ny297.out] at ho48 | (simp only [Int.reduceToNat] at ho48; rw [← Ny297.out] at ho48))
        have n0_ := Aside0.mk (Kd.R_elder' Z27 (Kd.R_base ho48) hb)
        have n1_ := Aside0.mk (Kd.R_elder' Z28 (Kd.R_base ho48) hb)
        have n2_ := Aside0.mk (Kd.R_lower (Kd.R_newB (Kd.R_new' (Kd.R_new' (Kd.R_newM (M := fun k_ => (P0_0_ k_ ∨ w.heap.size ≤ k_)) ho48 Z174 (fun k_ h_ => .inr h_)) (Kd.R_lt Z27)) (Kd.R_lt Z28)) (g := gb288) (o := .cells #[.int .i64 a1_0, .int .i64 a1_1] 80 (0, 0)) Z48) (below_size Z140))
        have n3_ := Aside0.mk (blk_below (g := gb287) (o := .cells #[.slice Ao32 l0_0.length co32] 61 (0, 0)) Z47 hb)
        have n4_ := Aside0.mk (blk_below (g := gb288) (o := .cells #[.int .i64 a1_0, .int .i64 a1_1] 80 (0, 0)) Z48 hb)
        have n5_ := Aside0.mk (blk_below (g := gb289) (o := .cells #[.slice none 0 0] 61 (0, 0)) Z49 hb)
        have n6_ := Aside0.mk (Kept.below (S := (fun k_ => P0_0_ k_)) Z151 hb)
        have n7_ := Aside0.mk (below_step Z140 hb)
        clear HO0_0
        clear HO296
        clear BK287
        clear BK288
        clear BK289
        clear HK
        clear HB
        have HO0_0 := n0_
        have HO296 := n1_
        have HO299 := n2_
        have BK287 := n3_
        have BK288 := n4_
        have BK289 := n5_
        have HK := n6_
        have HB := n7_
        clear n0_ n1_ n2_ n3_ n4_ n5_ n6_ n7_
        clear hb ho48
        refine hK.out _ _ ⟨(blk_cell BK287.out 0).trans rfl, (blk_cell BK288.out 0).trans rfl, (blk_cell BK288.out 1).trans rfl⟩ (fun hHeld => ?_)
        clear hK K
        refine norm_ (a' := ?_) ?_ ?_
        rotate_left
        ·show Act.put _ (some 24) _ = _
         simp only [Act.put, List.setIfInBounds_toArray, List.set_cons_zero, List.set_cons_succ, i64_w, i32_w]
         rfl
        exact norm_ Z18 (hCont (v292, v295, v298) _ ⟨hHeld, (by (with_reducible repeat (first | apply Kd.R_alloc | apply Kd.R_drewN | apply Kd.R_drew)); exact Kd.R_mono HO0_0.out (fun _ hk => ⟨hk.1.1.1, ⟨hk.1.2, ⟨hk.2, hk.1.1.2⟩⟩⟩)), (by (with_reducible repeat (first | apply Kd.R_alloc | apply Kd.R_drewN | apply Kd.R_drew)); exact Kd.R_mono HO296.out (fun _ hk => ⟨hk.1.1, ⟨hk.1.2.1, ⟨hk.2, hk.1.2.2⟩⟩⟩)), (by (with_reducible repeat (first | apply Kd.R_alloc | apply Kd.R_drewN | apply Kd.R_drew)); exact Kd.R_mono HO299.out (fun _ hk => ⟨hk.1.1.1.1, ⟨hk.1.1.2, ⟨hk.1.2, hk.2⟩⟩⟩)), Z47, Z48, Z49, Z151, Z140⟩)
       ·skip
        refine Kd.R_lit_step k80 _ 80 ?hg (N := 24) ?hd (xs := ([(⟨a1_0, a1_1⟩ : S80)] : List (S80))) (inner := [.int .i64 a1_0, .int .i64 a1_1]) (ok := fun _ => True) (okp := fun _ => True) ?hr ?hp (fun _ hk => hk) trivial (Below.refl _ _) (Nat.le_refl _) (by simp) ?_; (case hd => rfl); (case hg => rfl); (case hr => first | (go_simp; done) | (go_simp; rfl)); (case hp => exact (Reps.c2 (show Kd.M k80 _ _ _ (⟨a1_0, a1_1⟩ : S80) [.int .i64 a1_0, .int .i64 a1_1] from (k80_mkM _ _ _ (⟨a1_0, a1_1⟩ : S80) )) (Reps.none _ _)))
        intro v298 w46 ho47 hb hg_ hnew_
        clear hg_ hnew_
        (first | rw [← Ny297.out] at ho47 | (simp only [Int.reduceToNat] at ho47; rw [← Ny297.out] at ho47))
        have n0_ := Aside0.mk (Kd.R_elder' Z27 (Kd.R_base ho47) hb)
        have n1_ := Aside0.mk (Kd.R_elder' Z29 (Kd.R_base ho47) hb)
        have n2_ := Aside0.mk (Kd.R_lower (Kd.R_newB (Kd.R_new' (Kd.R_new' (Kd.R_newM (M := fun k_ => (P0_0_ k_ ∨ w.heap.size ≤ k_)) ho47 Z174 (fun k_ h_ => .inr h_)) (Kd.R_lt Z27)) (Kd.R_lt Z29)) (g := gb288) (o := .cells #[.int .i64 a1_0, .int .i64 a1_1] 80 (0, 0)) Z48) (below_size Z140))
        have n3_ := Aside0.mk (blk_below (g := gb287) (o := .cells #[.slice Ao32 l0_0.length co32] 61 (0, 0)) Z47 hb)
        have n4_ := Aside0.mk (blk_below (g := gb288) (o := .cells #[.int .i64 a1_0, .int .i64 a1_1] 80 (0, 0)) Z48 hb)
        have n5_ := Aside0.mk (blk_below (g := gb289) (o := .cells #[.slice none 0 0] 61 (0, 0)) Z49 hb)
        have n6_ := Aside0.mk (Kept.below (S := (fun k_ => P0_0_ k_)) Z151 hb)
        have n7_ := Aside0.mk (below_step Z140 hb)
        clear HO0_0
        clear HO293
        clear BK287
        clear BK288
        clear BK289
        clear HK
        clear HB
        have HO0_0 := n0_
        have HO293 := n1_
        have HO299 := n2_
        have BK287 := n3_
        have BK288 := n4_
        have BK289 := n5_
        have HK := n6_
        have HB := n7_
        clear n0_ n1_ n2_ n3_ n4_ n5_ n6_ n7_
        clear hb ho47
        refine hK.out _ _ ⟨(blk_cell BK287.out 0).trans rfl, (blk_cell BK288.out 0).trans rfl, (blk_cell BK288.out 1).trans rfl⟩ (fun hHeld => ?_)
        clear hK K
        refine norm_ (a' := ?_) ?_ ?_
        rotate_left
        ·show Act.put _ (some 24) _ = _
         simp only [Act.put, List.setIfInBounds_toArray, List.set_cons_zero, List.set_cons_succ, i64_w, i32_w]
         rfl
        refine one_ (i := 3) (N := some 22) #[true, true, true, true, true, true, false, false, false] rfl rfl (one_of HT_.out (by kernel_rfl)) (by decide) (fun K hK => ?_)
        refine Kd.R_append_rows_step k80 (w0 := w0) w0.heap.size (by rfl) (.tmp 19) (.tmp 21) 59 80 (.agg #[(.int .i64 0), (.int .i64 0)]) 16 rfl Try.underlying59 info80 rfl (by decide) (by omega) v292 y291 l0_0 _ _ _ (fun k_ => (P0_0_ k_ ∨ w.heap.size ≤ k_) ∧ some k_ ≠ (.slice Ao32 l0_0.length co32 : Value).ownBlock ∧ some k_ ≠ (v298 : Value).ownBlock ∧ k_ ≠ gb288) (fun _ => False) rfl rfl ?aO ?aR (fun _ _ h => h) (fun _ h => h.elim) ?aF ?aB ?aS ?aL ?_
        (case aR => exact Z103)
        (case aB => exact Z140)
        (case aF => exact (fun k_ hk => ⟨(.inr (Nat.le_trans Z174 hk)), Kd.fresh' (Kd.R_lt Z27) k_ hk, Kd.fresh' (Kd.R_lt Z30) k_ hk, Kd.freshB (g := gb288) (o := .cells #[.int .i64 a1_0, .int .i64 a1_1] 80 (0, 0)) Z48 k_ hk⟩))
        (case aO => exact (by (with_reducible repeat (first | apply Kd.R_alloc | apply Kd.R_drewN | apply Kd.R_drew)); exact Kd.R_mono HO293.out (fun _ hk => ⟨hk.1.1.1.1, ⟨hk.1.1.2, ⟨hk.2, hk.1.2⟩⟩⟩)))
        (case aS => exact (below_size Z140))
        (case aL => have := LMc30.out; omega)
        intro v295 w48 ho hb hg hat
        rw [← Ny294.out] at ho
        have n0_ := Aside0.mk (Kd.R_after (ok := (fun k_ => (P0_0_ k_ ∨ w.heap.size ≤ k_) ∧ some k_ ≠ (v298 : Value).ownBlock ∧ k_ ≠ gb288)) (by (with_reducible repeat (first | apply Kd.R_alloc | apply Kd.R_drewN | apply Kd.R_drew)); exact Kd.R_mono HO0_0.out (fun _ hk => ⟨⟨hk.1.1.1, ⟨hk.2, hk.1.1.2⟩⟩, hk.1.2⟩)) hg hat)
        have n1_ := Aside0.mk (blk_grown (g := gb287) (o := .cells #[.slice Ao32 l0_0.length co32] 61 (0, 0)) Z47 hg (Kd.R_ne HO293.out BK287.out (by decide)))
        have n2_ := Aside0.mk (blk_grown (g := gb288) (o := .cells #[.int .i64 a1_0, .int .i64 a1_1] 80 (0, 0)) Z48 hg (Kd.R_away HO293.out (fun _ hk => hk.1.2)))
        have n3_ := Aside0.mk (blk_grown (g := gb289) (o := .cells #[.slice none 0 0] 61 (0, 0)) Z49 hg (Kd.R_ne HO293.out BK289.out (by decide)))
        have n4_ := Aside0.mk (Kd.R_after (ok := (fun k_ => (P0_0_ k_ ∨ w.heap.size ≤ k_) ∧ some k_ ≠ (.slice Ao32 l0_0.length co32 : Value).ownBlock ∧ k_ ≠ gb288)) (by (with_reducible repeat (first | apply Kd.R_alloc | apply Kd.R_drewN | apply Kd.R_drew)); exact Kd.R_mono HO299.out (fun _ hk => ⟨⟨hk.1.1.1.1, ⟨hk.1.1.2, hk.2⟩⟩, hk.1.2⟩)) hg hat)
        have n5_ := Aside0.mk (hb)
        have n6_ := Aside0.mk (Kept.of_grown (S := (fun k_ => P0_0_ k_)) hg Z151 (fun k_ e_ => (HO293.out.1 k_ e_).1.1.1.1))
        have n7_ := Aside0.mk (ho)
        clear HO0_0
        clear BK287
        clear BK288
        clear BK289
        clear HO299
        clear HB
        clear HK
        clear HO293
        have HO0_0 := n0_
        have BK287 := n1_
        have BK288 := n2_
        have BK289 := n3_
        have HO299 := n4_
        have HB := n5_
        have HK := n6_
        have HO296 := n7_
        clear n0_ n1_ n2_ n3_ n4_ n5_ n6_ n7_
        clear ho hb hg hat
        refine hK.out _ _ ⟨(blk_cell BK287.out 0).trans rfl, (blk_cell BK288.out 0).trans rfl, (blk_cell BK288.out 1).trans rfl⟩ (fun hHeld => ?_)
        clear hK K
        refine norm_ (a' := ?_) ?_ ?_
        rotate_left
        ·show Act.put _ (some 22) _ = _
         simp only [Act.put, List.setIfInBounds_toArray, List.set_cons_zero, List.set_cons_succ, i64_w, i32_w]
         rfl
        exact norm_ Z18 (hCont (v292, v295, v298) _ ⟨hHeld, Z98, Z28, Z99, Z47, Z48, Z49, Z151, Z140⟩)
      ·skip
       refine Kd.R_lit_step k80 _ 80 ?hg (N := 24) ?hd (xs := ([(⟨a1_0, a1_1⟩ : S80)] : List (S80))) (inner := [.int .i64 a1_0, .int .i64 a1_1]) (ok := fun _ => True) (okp := fun _ => True) ?hr ?hp (fun _ hk => hk) trivial (Below.refl _ _) (Nat.le_refl _) (by simp) ?_; (case hd => rfl); (case hg => rfl); (case hr => first | (go_simp; done) | (go_simp; rfl)); (case hp => exact (Reps.c2 (show Kd.M k80 _ _ _ (⟨a1_0, a1_1⟩ : S80) [.int .i64 a1_0, .int .i64 a1_1] from (k80_mkM _ _ _ (⟨a1_0, a1_1⟩ : S80) )) (Reps.none _ _)))
       intro v298 w44 ho45 hb hg_ hnew_
       clear hg_ hnew_
       (first | rw [← Ny297.out] at ho45 | (simp only [Int.reduceToNat] at ho45; rw [← Ny297.out] at ho45))
       have n0_ := Aside0.mk (Kd.R_elder' Z27 (Kd.R_base ho45) hb)
       have n1_ := Aside0.mk (Kd.R_lower (Kd.R_newB (Kd.R_new' (Kd.R_newM (M := fun k_ => (P0_0_ k_ ∨ w.heap.size ≤ k_)) ho45 Z174 (fun k_ h_ => .inr h_)) (Kd.R_lt Z27)) (g := gb288) (o := .cells #[.int .i64 a1_0, .int .i64 a1_1] 80 (0, 0)) Z48) (below_size Z140))
       have n2_ := Aside0.mk (blk_below (g := gb287) (o := .cells #[.slice Ao32 l0_0.length co32] 61 (0, 0)) Z47 hb)
       have n3_ := Aside0.mk (blk_below (g := gb288) (o := .cells #[.int .i64 a1_0, .int .i64 a1_1] 80 (0, 0)) Z48 hb)
       have n4_ := Aside0.mk (blk_below (g := gb289) (o := .cells #[.slice none 0 0] 61 (0, 0)) Z49 hb)
       have n5_ := Aside0.mk (Kept.below (S := (fun k_ => P0_0_ k_)) Z151 hb)
       have n6_ := Aside0.mk (below_step Z140 hb)
       clear HO0_0
       clear BK287
       clear BK288
       clear BK289
       clear HK
       clear HB
       have HO0_0 := n0_
       have HO299 := n1_
       have BK287 := n2_
       have BK288 := n3_
       have BK289 := n4_
       have HK := n5_
       have HB := n6_
       clear n0_ n1_ n2_ n3_ n4_ n5_ n6_
       clear hb ho45
       refine hK.out _ _ ⟨(blk_cell BK287.out 0).trans rfl, (blk_cell BK288.out 0).trans rfl, (blk_cell BK288.out 1).trans rfl⟩ (fun hHeld => ?_)
       clear hK K
       refine norm_ (a' := ?_) ?_ ?_
       rotate_left
       ·show Act.put _ (some 24) _ = _
        simp only [Act.put, List.setIfInBounds_toArray, List.set_cons_zero, List.set_cons_succ, i64_w, i32_w]
        rfl
       refine one_ (i := 0) (N := some 19) #[true, true, true, false, true, true, false, false, false] rfl rfl (one_of HT_.out (by kernel_rfl)) (by decide) (fun K hK => ?_)
       refine Kd.R_lit_step k80 _ 80 ?hg (N := 19) ?hd (xs := ([] : List (S80))) (inner := []) (ok := fun _ => True) (okp := fun _ => True) ?hr ?hp (fun _ hk => hk) trivial (Below.refl _ _) (Nat.le_refl _) (by simp) ?_; (case hd => rfl); (case hg => rfl); (case hr => first | (go_simp; done) | (go_simp; rfl)); (case hp => exact (Reps.none _ _))
       intro v292 w46 ho47 hb hg_ hnew_
       clear hg_ hnew_
       (first | rw [← Ny291.out] at ho47 | (simp only [Int.reduceToNat] at ho47; rw [← Ny291.out] at ho47))
       have n0_ := Aside0.mk (Kd.R_elder' Z27 (Kd.R_base ho47) hb)
       have n1_ := Aside0.mk (Kd.R_elder' Z30 (Kd.R_base ho47) hb)
       have n2_ := Aside0.mk (Kd.R_lower (Kd.R_newB (Kd.R_new' (Kd.R_new' (Kd.R_newM (M := fun k_ => (P0_0_ k_ ∨ w.heap.size ≤ k_)) ho47 Z174 (fun k_ h_ => .inr h_)) (Kd.R_lt Z27)) (Kd.R_lt Z30)) (g := gb288) (o := .cells #[.int .i64 a1_0, .int .i64 a1_1] 80 (0, 0)) Z48) (below_size Z140))
       have n3_ := Aside0.mk (blk_below (g := gb287) (o := .cells #[.slice Ao32 l0_0.length co32] 61 (0, 0)) Z47 hb)
       have n4_ := Aside0.mk (blk_below (g := gb288) (o := .cells #[.int .i64 a1_0, .int .i64 a1_1] 80 (0, 0)) Z48 hb)
       have n5_ := Aside0.mk (blk_below (g := gb289) (o := .cells #[.slice none 0 0] 61 (0, 0)) Z49 hb)
       have n6_ := Aside0.mk (Kept.below (S := (fun k_ => P0_0_ k_)) Z151 hb)
       have n7_ := Aside0.mk (below_step Z140 hb)
       clear HO0_0
       clear HO299
       clear BK287
       clear BK288
       clear BK289
       clear HK
       clear HB
       have HO0_0 := n0_
       have HO299 := n1_
       have HO293 := n2_
       have BK287 := n3_
       have BK288 := n4_
       have BK289 := n5_
       have HK := n6_
       have HB := n7_
       clear n0_ n1_ n2_ n3_ n4_ n5_ n6_ n7_
       clear hb ho47
       refine hK.out _ _ ⟨(blk_cell BK287.out 0).trans rfl, (blk_cell BK288.out 0).trans rfl, (blk_cell BK288.out 1).trans rfl⟩ (fun hHeld => ?_)
       clear hK K
       refine norm_ (a' := ?_) ?_ ?_
       rotate_left
       ·show Act.put _ (some 19) _ = _
        simp only [Act.put, List.setIfInBounds_toArray, List.set_cons_zero, List.set_cons_succ, i64_w, i32_w]
        rfl
       refine one_ (i := 3) (N := some 22) #[true, true, true, true, true, true, false, false, false] rfl rfl (one_of HT_.out (by kernel_rfl)) (by decide) (fun K hK => ?_)
       refine Kd.R_append_rows_step k80 (w0 := w0) w0.heap.size (by rfl) (.tmp 19) (.tmp 21) 59 80 (.agg #[(.int .i64 0), (.int .i64 0)]) 16 rfl Try.underlying59 info80 rfl (by decide) (by omega) v292 y291 l0_0 _ _ _ (fun k_ => (P0_0_ k_ ∨ w.heap.size ≤ k_) ∧ some k_ ≠ (.slice Ao32 l0_0.length co32 : Value).ownBlock ∧ some k_ ≠ (v298 : Value).ownBlock ∧ k_ ≠ gb288) (fun _ => False) rfl rfl ?aO ?aR (fun _ _ h => h) (fun _ h => h.elim) ?aF ?aB ?aS ?aL ?_
       (case aR => exact Z103)
       (case aB => exact Z140)
       (case aF => exact (fun k_ hk => ⟨(.inr (Nat.le_trans Z174 hk)), Kd.fresh' (Kd.R_lt Z27) k_ hk, Kd.fresh' (Kd.R_lt Z30) k_ hk, Kd.freshB (g := gb288) (o := .cells #[.int .i64 a1_0, .int .i64 a1_1] 80 (0, 0)) Z48 k_ hk⟩))
       (case aO => exact (by (with_reducible repeat (first | apply Kd.R_alloc | apply Kd.R_drewN | apply Kd.R_drew)); exact Kd.R_mono HO293.out (fun _ hk => ⟨hk.1.1.1.1, ⟨hk.1.1.2, ⟨hk.1.2, hk.2⟩⟩⟩)))
       (case aS => exact (below_size Z140))
       (case aL => have := LMc30.out; omega)
       intro v295 w48 ho hb hg hat
       rw [← Ny294.out] at ho
       have n0_ := Aside0.mk (Kd.R_after (ok := (fun k_ => (P0_0_ k_ ∨ w.heap.size ≤ k_) ∧ some k_ ≠ (v298 : Value).ownBlock ∧ k_ ≠ gb288)) (by (with_reducible repeat (first | apply Kd.R_alloc | apply Kd.R_drewN | apply Kd.R_drew)); exact Kd.R_mono HO0_0.out (fun _ hk => ⟨⟨hk.1.1.1, ⟨hk.1.2, hk.1.1.2⟩⟩, hk.2⟩)) hg hat)
       have n1_ := Aside0.mk (blk_grown (g := gb287) (o := .cells #[.slice Ao32 l0_0.length co32] 61 (0, 0)) Z47 hg (Kd.R_ne HO293.out BK287.out (by decide)))
       have n2_ := Aside0.mk (blk_grown (g := gb288) (o := .cells #[.int .i64 a1_0, .int .i64 a1_1] 80 (0, 0)) Z48 hg (Kd.R_away HO293.out (fun _ hk => hk.2)))
       have n3_ := Aside0.mk (blk_grown (g := gb289) (o := .cells #[.slice none 0 0] 61 (0, 0)) Z49 hg (Kd.R_ne HO293.out BK289.out (by decide)))
       have n4_ := Aside0.mk (Kd.R_after (ok := (fun k_ => (P0_0_ k_ ∨ w.heap.size ≤ k_) ∧ some k_ ≠ (.slice Ao32 l0_0.length co32 : Value).ownBlock ∧ k_ ≠ gb288)) (by (with_reducible repeat (first | apply Kd.R_alloc | apply Kd.R_drewN | apply Kd.R_drew)); exact Kd.R_mono HO299.out (fun _ hk => ⟨⟨hk.1.1.1.1, ⟨hk.1.1.2, hk.1.2⟩⟩, hk.2⟩)) hg hat)
       have n5_ := Aside0.mk (hb)
       have n6_ := Aside0.mk (Kept.of_grown (S := (fun k_ => P0_0_ k_)) hg Z151 (fun k_ e_ => (HO293.out.1 k_ e_).1.1.1.1))
       have n7_ := Aside0.mk (ho)
       clear HO0_0
       clear BK287
       clear BK288
       clear BK289
       clear HO299
       clear HB
       clear HK
       clear HO293
       have HO0_0 := n0_
       have BK287 := n1_
       have BK288 := n2_
       have BK289 := n3_
       have HO299 := n4_
       have HB := n5_
       have HK := n6_
       have HO296 := n7_
       clear n0_ n1_ n2_ n3_ n4_ n5_ n6_ n7_
       clear ho hb hg hat
       refine hK.out _ _ ⟨(blk_cell BK287.out 0).trans rfl, (blk_cell BK288.out 0).trans rfl, (blk_cell BK288.out 1).trans rfl⟩ (fun hHeld => ?_)
       clear hK K
       refine norm_ (a' := ?_) ?_ ?_
       rotate_left
       ·show Act.put _ (some 22) _ = _
        simp only [Act.put, List.setIfInBounds_toArray, List.set_cons_zero, List.set_cons_succ, i64_w, i32_w]
        rfl
       exact norm_ Z18 (hCont (v292, v295, v298) _ ⟨hHeld, Z98, Z28, Z99, Z47, Z48, Z49, Z151, Z140⟩)
     rintro ⟨v292, v295, v298⟩ w49 ⟨hS_, h0_, h1_, h2_, h3_, h4_, h5_, h6_, h7_⟩
     have n0_ : Aside0 (Kd.R k80 80 w49 w0.heap.size (fun k_ => (P0_0_ k_ ∨ w.heap.size ≤ k_) ∧ some k_ ≠ (v295 : Value).ownBlock ∧ some k_ ≠ (v298 : Value).ownBlock ∧ k_ ≠ gb288) (.slice Ao32 l0_0.length co32) l0_0) := ⟨h0_⟩
     have n1_ : Aside0 (Kd.R k80 80 w49 w0.heap.size (fun k_ => (P0_0_ k_ ∨ w.heap.size ≤ k_) ∧ some k_ ≠ (.slice Ao32 l0_0.length co32 : Value).ownBlock ∧ some k_ ≠ (v298 : Value).ownBlock ∧ k_ ≠ gb288) v295 y294) := ⟨h1_⟩
     have n2_ : Aside0 (Kd.R k80 80 w49 w0.heap.size (fun k_ => (P0_0_ k_ ∨ w.heap.size ≤ k_) ∧ some k_ ≠ (.slice Ao32 l0_0.length co32 : Value).ownBlock ∧ some k_ ≠ (v295 : Value).ownBlock ∧ k_ ≠ gb288) v298 y297) := ⟨h2_⟩
     have n3_ : Aside0 (w49.heap[gb287]? = some (.cells #[.slice Ao32 l0_0.length co32] 61 (0, 0))) := ⟨h3_⟩
     have n4_ : Aside0 (w49.heap[gb288]? = some (.cells #[.int .i64 a1_0, .int .i64 a1_1] 80 (0, 0))) := ⟨h4_⟩
     have n5_ : Aside0 (w49.heap[gb289]? = some (.cells #[.slice none 0 0] 61 (0, 0))) := ⟨h5_⟩
     have n6_ : Aside0 (Kept w w49 (fun k_ => P0_0_ k_)) := ⟨h6_⟩
     have n7_ : Aside0 (Below w0.heap.size w0 w49) := ⟨h7_⟩
     clear HO0_0
     clear BK287
     clear BK288
     clear BK289
     clear HK
     clear HB
     clear h0_ h1_ h2_ h3_ h4_ h5_ h6_ h7_
     have HO0_0 := n0_
     have HO296 := n1_
     have HO299 := n2_
     have BK287 := n3_
     have BK288 := n4_
     have BK289 := n5_
     have HK := n6_
     have HB := n7_
     clear n0_ n1_ n2_ n3_ n4_ n5_ n6_ n7_
     have hHeld : w49.cell? ⟨gb287, 0, none⟩ = some (.slice Ao32 l0_0.length co32) ∧ w49.cell? ⟨gb288, 0, none⟩ = some (.int .i64 a1_0) ∧ w49.cell? ⟨gb288, 1, none⟩ = some (.int .i64 a1_1) := hS_
     obtain ⟨Ao51, co51, eo51⟩ := Kd.R_slice HO299.out
     (first | subst eo51 | (injection eo51 with f1_ f2_ f3_; have f4_ := f1_.symm; have f5_ := f3_.symm; clear f1_ f2_ f3_; subst f4_; subst f5_))
     refine norm_ (a' := ?_) ?_ ?_
     rotate_left
     ·simp only [putAll, Act.put, List.setIfInBounds_toArray, List.set_cons_zero, List.set_cons_succ]
      rfl
     refine one_ (i := 6) (N := some 25) #[true, true, true, true, true, true, true, false, false] rfl rfl (one_of HT_.out (by kernel_rfl)) (by decide) (fun K hK => ?_)
     refine Kd.R_append_rows_step k80 (w0 := w0) w0.heap.size (by rfl) (.tmp 22) (.tmp 24) 59 80 (.agg #[(.int .i64 0), (.int .i64 0)]) 16 rfl Try.underlying59 info80 rfl (by decide) (by omega) v295 y294 y297 _ _ _ (fun k_ => (P0_0_ k_ ∨ w.heap.size ≤ k_) ∧ some k_ ≠ (.slice Ao32 l0_0.length co32 : Value).ownBlock ∧ some k_ ≠ (.slice Ao51 y297.length co51 : Value).ownBlock ∧ k_ ≠ gb288) (fun _ => False) rfl rfl ?aO ?aR (fun _ _ h => h) (fun _ h => h.elim) ?aF ?aB ?aS ?aL ?_
     (case aR => repeat (first | exact (Kd.R_reads' HO299.out).2.2 | (with_reducible refine Kd.C_alloc ?_ _) | (with_reducible refine Kd.C_drewN ?_ _) | (with_reducible refine Kd.C_drew ?_)))
     (case aB => exact Z140)
     (case aF => exact (fun k_ hk => ⟨(.inr (Nat.le_trans Z174 hk)), Kd.fresh' (Kd.R_lt Z27) k_ hk, Kd.fresh' (Kd.R_lt Z30) k_ hk, Kd.freshB (g := gb288) (o := .cells #[.int .i64 a1_0, .int .i64 a1_1] 80 (0, 0)) Z48 k_ hk⟩))
     (case aO => exact Z28)
     (case aS => exact (below_size Z140))
     (case aL => have := LMc31.out; omega)
     intro v301 w50 ho hb hg hat
     rw [← Ny300.out] at ho
     have n0_ := Aside0.mk (Kd.R_after (ok := (fun k_ => (P0_0_ k_ ∨ w.heap.size ≤ k_) ∧ some k_ ≠ (.slice Ao51 y297.length co51 : Value).ownBlock ∧ k_ ≠ gb288)) (by (with_reducible repeat (first | apply Kd.R_alloc | apply Kd.R_drewN | apply Kd.R_drew)); exact Kd.R_mono HO0_0.out (fun _ hk => ⟨⟨hk.1, ⟨hk.2.2.1, hk.2.2.2⟩⟩, hk.2.1⟩)) hg hat)
     have n1_ := Aside0.mk (blk_grown (g := gb287) (o := .cells #[.slice Ao32 l0_0.length co32] 61 (0, 0)) Z47 hg (Kd.R_ne HO296.out BK287.out (by decide)))
     have n2_ := Aside0.mk (blk_grown (g := gb288) (o := .cells #[.int .i64 a1_0, .int .i64 a1_1] 80 (0, 0)) Z48 hg (Kd.R_away HO296.out (fun _ hk => hk.2.2.2)))
     have n3_ := Aside0.mk (blk_grown (g := gb289) (o := .cells #[.slice none 0 0] 61 (0, 0)) Z49 hg (Kd.R_ne HO296.out BK289.out (by decide)))
     have n4_ := Aside0.mk (Kd.R_after (ok := (fun k_ => (P0_0_ k_ ∨ w.heap.size ≤ k_) ∧ some k_ ≠ (.slice Ao32 l0_0.length co32 : Value).ownBlock ∧ k_ ≠ gb288)) (by (with_reducible repeat (first | apply Kd.R_alloc | apply Kd.R_drewN | apply Kd.R_drew)); exact Kd.R_mono HO299.out (fun _ hk => ⟨⟨hk.1, ⟨hk.2.1, hk.2.2.2⟩⟩, hk.2.2.1⟩)) hg hat)
     have n5_ := Aside0.mk (hb)
     have n6_ := Aside0.mk (Kept.of_grown (S := (fun k_ => P0_0_ k_)) hg Z151 (fun k_ e_ => (HO296.out.1 k_ e_).1))
     have n7_ := Aside0.mk (ho)
     clear HO0_0
     clear BK287
     clear BK288
     clear BK289
     clear HO299
     clear HB
     clear HK
     clear HO296
     have HO0_0 := n0_
     have BK287 := n1_
     have BK288 := n2_
     have BK289 := n3_
     have HO299 := n4_
     have HB := n5_
     have HK := n6_
     have HO302 := n7_
     clear n0_ n1_ n2_ n3_ n4_ n5_ n6_ n7_
     clear ho hb hg hat
     obtain ⟨Ao52, co52, eo52⟩ := Kd.R_slice HO302.out
     (first | subst eo52 | (injection eo52 with f1_ f2_ f3_; have f4_ := f1_.symm; have f5_ := f3_.symm; clear f1_ f2_ f3_; subst f4_; subst f5_))
     refine hK.out _ _ ⟨(blk_cell BK287.out 0).trans rfl, (blk_cell BK288.out 0).trans rfl, (blk_cell BK288.out 1).trans rfl⟩ (fun hHeld => ?_)
     clear hK K
     refine norm_ (a' := ?_) ?_ ?_
     rotate_left
     ·show Act.put _ (some 25) _ = _
      simp only [Act.put, List.setIfInBounds_toArray, List.set_cons_zero, List.set_cons_succ, i64_w, i32_w]
      rfl
     refine pure_ (i := 7) (N := some 26) (v := ?_) (a' := ?_) #[true, true, true, true, true, true, true, true, false] rfl rfl (any_of HT_.out (by kernel_rfl)) (fun _ _ _ h => h) (Or.inl ⟨by rfl, ?_⟩) ?_ ?_
     rotate_left
     ·intro w'
      go_simp
      with_reducible rfl
     rotate_left
     ·simp only [Act.put, List.setIfInBounds_toArray, List.set_cons_zero, List.set_cons_succ, i64_w, i32_w]
      rfl
     refine last_ (i := 8) (N := none) #[true, true, true, true, true, true, true, true, true] rfl rfl (one_of HT_.out (by kernel_rfl)) (by decide) (fun K hK => ?_)
     have hs53 : w50.cell? ⟨gb287, 0, none⟩ = some (.slice Ao32 l0_0.length co32) := (blk_cell BK287.out 0).trans rfl
     have hfs53 := blk_frozen BK287.out 0
     have hns53_1 := NB288_287.out
     have hns53_2 := NB289_287.out
     have hms53_1 := NB287_288.out
     have hms53_2 := NB287_289.out
     refine skip_ (w1 := ?_) (by rfl) rfl ?_ ?_
     rotate_left
     ·go_simp
      rfl
     refine hK.out _ _ ?_
     clear hK K
     refine done_ (done_of HT_.out (by kernel_rfl)) ?_
     try go_wp2
     have n0_ : Aside0 (Kd.R k80 80 (w50.setCell ⟨gb287, 0, none⟩ (.slice Ao52 y300.length co52)) w0.heap.size (fun k_ => (P0_0_ k_ ∨ w.heap.size ≤ k_) ∧ some k_ ≠ (.slice Ao51 y297.length co51 : Value).ownBlock ∧ some k_ ≠ (.slice Ao52 y300.length co52 : Value).ownBlock ∧ k_ ≠ gb288) (.slice Ao32 l0_0.length co32) l0_0) := ⟨by (with_reducible repeat (first | apply Kd.R_alloc | apply Kd.R_drewN | apply Kd.R_drew)); exact Kd.R_mono (Kd.R_far (p := ⟨gb287, 0, none⟩) (Kd.R_types HO0_0.out BK287.out (by decide)) (fun _ hk => hk.2) (.slice Ao52 y300.length co52)) (fun _ hk => ⟨hk.1.1.1, ⟨hk.1.1.2.1, ⟨hk.1.2, hk.1.1.2.2⟩⟩⟩)⟩
     have n1_ : Aside0 (Kd.R k80 80 (w50.setCell ⟨gb287, 0, none⟩ (.slice Ao52 y300.length co52)) w0.heap.size (fun k_ => (P0_0_ k_ ∨ w.heap.size ≤ k_) ∧ some k_ ≠ (.slice Ao32 l0_0.length co32 : Value).ownBlock ∧ some k_ ≠ (.slice Ao52 y300.length co52 : Value).ownBlock ∧ k_ ≠ gb288) (.slice Ao51 y297.length co51) y297) := ⟨by (with_reducible repeat (first | apply Kd.R_alloc | apply Kd.R_drewN | apply Kd.R_drew)); exact Kd.R_mono (Kd.R_far (p := ⟨gb287, 0, none⟩) (Kd.R_types HO299.out BK287.out (by decide)) (fun _ hk => hk.2) (.slice Ao52 y300.length co52)) (fun _ hk => ⟨hk.1.1.1, ⟨hk.1.1.2.1, ⟨hk.1.2, hk.1.1.2.2⟩⟩⟩)⟩
     have n2_ : Aside0 (Kd.R k80 80 (w50.setCell ⟨gb287, 0, none⟩ (.slice Ao52 y300.length co52)) w0.heap.size (fun k_ => (P0_0_ k_ ∨ w.heap.size ≤ k_) ∧ some k_ ≠ (.slice Ao32 l0_0.length co32 : Value).ownBlock ∧ some k_ ≠ (.slice Ao51 y297.length co51 : Value).ownBlock ∧ k_ ≠ gb288) (.slice Ao52 y300.length co52) y300) := ⟨by (with_reducible repeat (first | apply Kd.R_alloc | apply Kd.R_drewN | apply Kd.R_drew)); exact Kd.R_mono (Kd.R_far (p := ⟨gb287, 0, none⟩) (Kd.R_types HO302.out BK287.out (by decide)) (fun _ hk => hk.2) (.slice Ao52 y300.length co52)) (fun _ hk => ⟨hk.1.1, ⟨hk.1.2.1, ⟨hk.1.2.2.1, hk.1.2.2.2⟩⟩⟩)⟩
     have n3_ : Aside0 ((w50.setCell ⟨gb287, 0, none⟩ (.slice Ao52 y300.length co52)).heap[gb287]? = some (.cells #[.slice Ao52 y300.length co52] 61 (0, 0))) := ⟨by (with_reducible repeat (first | refine blk_drewN ?_ _ | refine blk_drew ?_ | refine blk_alloc ?_ _)); refine blk_put (cs := #[.slice Ao32 l0_0.length co32]) ?_ 0 _ rfl; (with_reducible repeat (first | refine blk_drewN ?_ _ | refine blk_drew ?_ | refine blk_alloc ?_ _)); exact BK287.out⟩
     have n4_ : Aside0 ((w50.setCell ⟨gb287, 0, none⟩ (.slice Ao52 y300.length co52)).heap[gb288]? = some (.cells #[.int .i64 a1_0, .int .i64 a1_1] 80 (0, 0))) := ⟨by (with_reducible repeat (first | refine blk_drewN ?_ _ | refine blk_drew ?_ | refine blk_alloc ?_ _)); refine blk_far ?_ NB288_287.out _; (with_reducible repeat (first | refine blk_drewN ?_ _ | refine blk_drew ?_ | refine blk_alloc ?_ _)); exact BK288.out⟩
     have n5_ : Aside0 ((w50.setCell ⟨gb287, 0, none⟩ (.slice Ao52 y300.length co52)).heap[gb289]? = some (.cells #[.slice none 0 0] 61 (0, 0))) := ⟨by (with_reducible repeat (first | refine blk_drewN ?_ _ | refine blk_drew ?_ | refine blk_alloc ?_ _)); refine blk_far ?_ NB289_287.out _; (with_reducible repeat (first | refine blk_drewN ?_ _ | refine blk_drew ?_ | refine blk_alloc ?_ _)); exact BK289.out⟩
     have n6_ : Aside0 (Kept w (w50.setCell ⟨gb287, 0, none⟩ (.slice Ao52 y300.length co52)) (fun k_ => P0_0_ k_)) := ⟨by repeat (first | (with_reducible first | exact HK.out | apply Kept.alloc | apply Kept.drewN | apply Kept.drew | refine Kept.setCell ?_ (.inr GW287.out) _ | refine Kept.setCell ?_ (.inr GW288.out) _ | refine Kept.setCell ?_ (.inr GW289.out) _) | exact HK.out)⟩
     have n7_ : Aside0 (Below w0.heap.size w0 (w50.setCell ⟨gb287, 0, none⟩ (.slice Ao52 y300.length co52))) := ⟨by repeat (first | (with_reducible first | exact HB.out | apply below_alloc | apply pw_below_drewN | apply below_drew1 | refine below_set ?_ GE287.out | refine below_set ?_ GE288.out | refine below_set ?_ GE289.out) | exact HB.out)⟩
     (try clear HO0_0)
     (try clear HO299)
     (try clear HO302)
     (try clear BK287)
     (try clear BK288)
     (try clear BK289)
     (try clear HK)
     (try clear HB)
     generalize (w50.setCell ⟨gb287, 0, none⟩ (.slice Ao52 y300.length co52)) = w54 at n0_ n1_ n2_ n3_ n4_ n5_ n6_ n7_ ⊢
     have HO0_0 := n0_
     have HO299 := n1_
     have HO302 := n2_
     have BK287 := n3_
     have BK288 := n4_
     have BK289 := n5_
     have HK := n6_
     have HB := n7_
     clear n0_ n1_ n2_ n3_ n4_ n5_ n6_ n7_
     have n0_ := Aside0.mk (Kd.R_drew HO0_0.out)
     have n1_ := Aside0.mk (Kd.R_drew HO299.out)
     have n2_ := Aside0.mk (Kd.R_drew HO302.out)
     have n3_ := Aside0.mk (blk_drew BK287.out)
     have n4_ := Aside0.mk (blk_drew BK288.out)
     have n5_ := Aside0.mk (blk_drew BK289.out)
     have n6_ := Aside0.mk (Kept.drew HK.out)
     have n7_ := Aside0.mk (below_drew1 HB.out)
     clear HO0_0
     clear HO299
     clear HO302
     clear BK287
     clear BK288
     clear BK289
     clear HK
     clear HB
     have HO0_0 := n0_
     have HO299 := n1_
     have HO302 := n2_
     have BK287 := n3_
     have BK288 := n4_
     have BK289 := n5_
     have HK := n6_
     have HB := n7_
     clear n0_ n1_ n2_ n3_ n4_ n5_ n6_ n7_
     refine start_ (n := 8) (S := fun w' => w'.cell? ⟨gb287, 0, none⟩ = some (.slice Ao52 y300.length co52)) (ds := []) #[false, false, false, false, false, false, false, false] (by kernel_rfl) rfl rfl ((blk_cell BK287.out 0).trans rfl) (fun hHeld => ?_); refine with_tabW spec_l3Put.tab7 spec_l3Put.bits7 (fun HT_ HW_ => ?_)
     generalize w54.drew = w55 at HO0_0 HO299 HO302 BK287 BK288 BK289 HK HB hHeld ⊢
     refine pure_ (i := 1) (N := some 28) (v := ?_) (a' := ?_) #[false, true, false, false, false, false, false, false] rfl rfl (any_of HT_.out (by kernel_rfl)) (fun _ _ _ h => h) (Or.inl ⟨by rfl, ?_⟩) ?_ ?_
     rotate_left
     ·intro w'
      go_simp
      with_reducible rfl
     rotate_left
     ·simp only [Act.put, List.setIfInBounds_toArray, List.set_cons_zero, List.set_cons_succ, i64_w, i32_w]
      rfl
     refine take_ (i := 0) (N := some 27) (v := ?_) (a' := ?_) #[true, true, false, false, false, false, false, false] rfl rfl (take_ofW HT_.out HW_.out (by kernel_rfl)) (fun _ _ _ h => h) (Or.inl ⟨by rfl, ?_⟩) hHeld ?_ ?_
     rotate_left
     ·intro w' s0
      go_simp
      with_reducible rfl
     rotate_left
     ·simp only [Act.put, List.setIfInBounds_toArray, List.set_cons_zero, List.set_cons_succ, i64_w, i32_w]
      rfl
     refine take_ (i := 2) (N := some 29) (v := ?_) (a' := ?_) #[true, true, true, false, false, false, false, false] rfl rfl (take_ofW HT_.out HW_.out (by kernel_rfl)) (fun _ _ _ h => h) (Or.inl ⟨by rfl, ?_⟩) hHeld ?_ ?_
     rotate_left
     ·intro w' s0
      go_simp
      with_reducible rfl
     rotate_left
     ·simp only [Act.put, List.setIfInBounds_toArray, List.set_cons_zero, List.set_cons_succ, i64_w, i32_w]
      rfl
     refine pure_ (i := 3) (N := some 30) (v := ?_) (a' := ?_) #[true, true, true, true, false, false, false, false] rfl rfl (any_of HT_.out (by kernel_rfl)) (fun _ _ _ h => h) (Or.inl ⟨by rfl, ?_⟩) ?_ ?_
     rotate_left
     ·intro w'
      go_simp
      with_reducible rfl
     rotate_left
     ·simp only [Act.put, List.setIfInBounds_toArray, List.set_cons_zero, List.set_cons_succ, i64_w, i32_w]
      rfl
     refine pure_ (i := 4) (N := some 31) (v := ?_) (a' := ?_) #[true, true, true, true, true, false, false, false] rfl rfl (any_of HT_.out (by kernel_rfl)) (fun _ _ _ h => h) (Or.inl ⟨by rfl, ?_⟩) ?_ ?_
     rotate_left
     ·intro w'
      go_simp
      with_reducible rfl
     rotate_left
     ·simp only [Act.put, List.setIfInBounds_toArray, List.set_cons_zero, List.set_cons_succ, i64_w, i32_w]
      rfl
     refine pure_ (i := 5) (N := some 32) (v := ?_) (a' := ?_) #[true, true, true, true, true, true, false, false] rfl rfl (any_of HT_.out (by kernel_rfl)) (fun _ _ _ h => h) (Or.inl ⟨by rfl, ?_⟩) ?_ ?_
     rotate_left
     ·intro w'
      go_simp
      with_reducible rfl
     rotate_left
     ·simp only [Act.put, List.setIfInBounds_toArray, List.set_cons_zero, List.set_cons_succ, i64_w, i32_w]
      rfl
     refine one_ (i := 6) (N := none) #[true, true, true, true, true, true, true, false] rfl rfl (one_of HT_.out (by kernel_rfl)) (by decide) (fun K hK => ?_)
     have hs56 : w55.cell? ⟨gb289, 0, none⟩ = some (.slice none 0 0) := (blk_cell BK289.out 0).trans rfl
     have hfs56 := blk_frozen BK289.out 0
     have hns56_0 := NB287_289.out
     have hns56_1 := NB288_289.out
     have hms56_0 := NB289_287.out
     have hms56_1 := NB289_288.out
     refine skip_ (w1 := ?_) (by rfl) rfl ?_ ?_
     rotate_left
     ·go_simp
      rfl
     refine hK.out _ _ (((cell_far (p := ⟨gb289, _, none⟩) NB287_289.out _).trans (hHeld))) (fun hHeld => ?_)
     clear hK K
     refine pure_ (i := 7) (N := some 5) (v := ?_) (a' := ?_) #[true, true, true, true, true, true, true, true] rfl rfl (any_of HT_.out (by kernel_rfl)) (fun _ _ _ h => h) (Or.inl ⟨by rfl, ?_⟩) ?_ ?_
     rotate_left
     ·intro w'
      go_simp
      with_reducible rfl
     rotate_left
     ·simp only [Act.put, List.setIfInBounds_toArray, List.set_cons_zero, List.set_cons_succ, i64_w, i32_w]
      rfl
     refine done_ (done_of HT_.out (by kernel_rfl)) ?_
     try go_wp2
     refine bodyPost_ret (results_ct rfl _ _ gb289 61 #[.slice Ao52 y300.length co52] (0, 0) _ rfl Z160 Try.underlying61 rfl (by kernel_rfl)) rfl ?_
     exact ⟨_, by first | rfl | (simp [errW_none, errW_some] <;> rfl) | (simp [*, errW_none, errW_some] <;> rfl), by (with_reducible repeat (first | apply Kd.R_alloc | apply Kd.R_drewN | apply Kd.R_drew)); exact Kd.R_mono (Kd.R_far (p := ⟨gb289, 0, none⟩) (Kd.R_types HO302.out BK289.out (by decide)) (fun _ hk => hk.2) (.slice Ao52 y300.length co52)) (fun _ hk => hk.1.1), by repeat (first | (with_reducible first | exact HB.out | apply below_alloc | apply pw_below_drewN | apply below_drew1 | refine below_set ?_ GE287.out | refine below_set ?_ GE288.out | refine below_set ?_ GE289.out) | exact HB.out), by repeat (first | (with_reducible first | exact HK.out | apply Kept.alloc | apply Kept.drewN | apply Kept.drew | refine Kept.setCell ?_ (.inr GW287.out) _ | refine Kept.setCell ?_ (.inr GW288.out) _ | refine Kept.setCell ?_ (.inr GW289.out) _) | exact HK.out)⟩
    ·rw [if_neg c31] at H
     exact absurd H (by simp)
   ·rw [if_neg c30] at H
    exact absurd H (by simp)

end Go.Proofs.Ytmahgffkkdggcaa.QFnPosThere
