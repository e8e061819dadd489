-- Laid by a program of this repo (wip/tools/sprint.py): print.py's functions and walks; the contracts named 'BY HAND' are proved by hand.
import Derived.Test.YtlofgoahgnllkaaDoorQFnBakAgainx0
import Derived.Test.YtlofgoahgnllkaaDoorQFnBakAgainx9
namespace Go.Proofs.YtlofgoahgnllkaaDoor.QFnBakAgain
open Go.RowKit Go.Proofs.YtlofgoahgnllkaaDoorW.PrintWords Go.Proofs.YtlofgoahgnllkaaDoorW.PrintLast Go.Proofs.YtlofgoahgnllkaaDoorW.PrintMore
attribute [local go_sem] max2_int min2_int max_two min_two max_three min_three max_four min_four   -- for this text's walks alone
set_option linter.unusedVariables false
set_option linter.unusedSimpArgs false

/-! ### spec_l3Put: function 89 -/
def spec_l3Put.f (k : Nat) (l0_0 : List (S43)) (a1_0 : Int) (a1_1 : Int) : Option ((List (S43)) × Int) := (spec_MapPort.f k l0_0 a1_0 a1_1).bind fun t247 => (if t247 > 0 then (some (l0_0, t247)) else (if (l0_0.length : Int) = 6 then (some (l0_0, 0)) else ((some (([] : List (S43)) : List (S43))).bind fun y248 => (if y248.length + l0_0.length < 8796093022208 then ((some (y248 ++ l0_0 : List (S43))).bind fun y251 => ((some (([(⟨a1_0, a1_1⟩ : S43)] : List (S43)) : List (S43))).bind fun y254 => (if y251.length + y254.length < 8796093022208 then ((some (y251 ++ y254 : List (S43))).bind fun y257 => (some (y257, wrap64 ((wrap64 (500 + (y257.length : Int))) - 1)))) else (none)))) else (none)))))
theorem spec_l3Put.mono : ∀ a0 a1 a2 k, LeO (spec_l3Put.f k a0 a1 a2) (spec_l3Put.f (k + 1) a0 a1 a2) := by
 intro a0 a1 a2 k
 unfold spec_l3Put.f
 repeat' first
   | (with_reducible exact spec_MapPort.mono _ _ _ _)
   | (with_reducible exact LeO.refl _)
   | (with_reducible exact LeO.none _)
   | (with_reducible refine LeO.ite ?_ ?_)
   | (with_reducible refine LeO.bind ?_ (fun _ => ?_))
   | exact spec_MapPort.mono _ _ _ _
   | exact LeO.none _
   | refine LeO.ite ?_ ?_
   | refine LeO.bind ?_ (fun _ => ?_)
def spec_l3Put.T6 : Bool × List (List Nat × List Nat) := (true, [([], []), ([], []), ([1], [1]), ([0, 2], [0, 2]), ([], []), ([4], [4]), ([3, 5, 3], [3, 5]), ([0, 1, 2, 3, 4, 5, 6], []), ([7, 6, 6, 0, 1, 2, 3, 4, 5, 6], [6, 7])])
def spec_l3Put.B6 : List Nat := [0, 0, 2, 7, 0, 16, 63, 127, 255]
theorem spec_l3Put.tab6 : rtab .any (opsOf Tryd.f89 6) = spec_l3Put.T6 := by kernel_rfl
theorem spec_l3Put.bits6 : waitsOk spec_l3Put.T6.2 spec_l3Put.B6 = true := by kernel_rfl
def spec_l3Put.T7 : Bool × List (List Nat × List Nat) := (true, [([], []), ([], []), ([1], [1]), ([2], [2]), ([3], [3]), ([4], [4]), ([0, 0], [0]), ([5, 6, 0, 1, 2, 3, 4, 5, 6], [5])])
def spec_l3Put.B7 : List Nat := [0, 0, 2, 6, 14, 30, 1, 127]
theorem spec_l3Put.tab7 : rtab .any (opsOf Tryd.f89 7) = spec_l3Put.T7 := by kernel_rfl
theorem spec_l3Put.bits7 : waitsOk spec_l3Put.T7.2 spec_l3Put.B7 = true := by kernel_rfl
set_option maxHeartbeats 8000000 in
set_option maxRecDepth 100000 in
theorem spec_l3Put.calls (k : Nat) (P0_0_ : Nat → Prop) (u9000_ : Value) (l0_0 : List (S43)) (a1_0 : Int) (a1_1 : Int) (r1 : List (S43)) (r2 : Int) (w0 w : World) (hB : Below w0.heap.size w0 w) (ho0_0 : Kd.R k43 43 w w0.heap.size P0_0_ u9000_ l0_0) (h : spec_l3Put.f k l0_0 a1_0 a1_1 = some (r1, r2)) :
  Calls Tryd.prog 89 #[.agg #[u9000_], .agg #[.int .i64 a1_0, .int .i64 a1_1]] w fun e w' => ∃ v0_ : Value, e = .returned (.tuple #[.agg #[v0_], .int .i64 r2]) ∧ Kd.R k43 43 w' w0.heap.size (fun k_ => (P0_0_ k_ ∨ w.heap.size ≤ k_)) v0_ r1 ∧ Below w0.heap.size w0 w' ∧ Kept w w' (fun k_ => P0_0_ k_) := by
 have hu29 := Tryd.underlying29
 have hu43 := Tryd.underlying43
 have HO0_0 := Aside0.mk (show Kd.R k43 43 w w0.heap.size (fun k_ => (P0_0_ k_ ∨ w.heap.size ≤ k_)) u9000_ l0_0 from Kd.R_mono ho0_0 (fun k_ hk => (.inl hk)))
 have HK := Aside0.mk (Kept.refl w (fun k_ => P0_0_ k_))
 have HW0 := Aside0.mk hB.size
 have HB := Aside0.mk hB
 clear hB
 have H : ((spec_MapPort.f k l0_0 a1_0 a1_1).bind fun t247 => (if t247 > 0 then (some (l0_0, t247)) else (if (l0_0.length : Int) = 6 then (some (l0_0, 0)) else ((some (([] : List (S43)) : List (S43))).bind fun y248 => (if y248.length + l0_0.length < 8796093022208 then ((some (y248 ++ l0_0 : List (S43))).bind fun y251 => ((some (([(⟨a1_0, a1_1⟩ : S43)] : List (S43)) : List (S43))).bind fun y254 => (if y251.length + y254.length < 8796093022208 then ((some (y251 ++ y254 : List (S43))).bind fun y257 => (some (y257, wrap64 ((wrap64 (500 + (y257.length : Int))) - 1)))) else (none)))) else (none)))))) = some (r1, r2) := h
 clear h
 replace H := Option.bind_eq_some_iff.mp H
 obtain ⟨t247, A30, H⟩ := H
 replace H : (if t247 > 0 then (some (l0_0, t247)) else (if (l0_0.length : Int) = 6 then (some (l0_0, 0)) else ((some (([] : List (S43)) : List (S43))).bind fun y248 => (if y248.length + l0_0.length < 8796093022208 then ((some (y248 ++ l0_0 : List (S43))).bind fun y251 => ((some (([(⟨a1_0, a1_1⟩ : S43)] : List (S43)) : List (S43))).bind fun y254 => (if y251.length + y254.length < 8796093022208 then ((some (y251 ++ y254 : List (S43))).bind fun y257 => (some (y257, wrap64 ((wrap64 (500 + (y257.length : Int))) - 1)))) else (none)))) else (none))))) = some (r1, r2) := H
 have A3 := Aside0.mk A30
 clear A30
 by_cases c4 : t247 > 0
 ·rw [if_pos c4] at H
  have c4b0 : decide (0 < t247) = true := decide_eq_true c4
  clear c4
  simp only [Option.some.injEq, Prod.mk.injEq] at H
  obtain ⟨rfl, rfl⟩ := H
  obtain ⟨Ao5, co5, eo5⟩ := Kd.R_slice HO0_0.out
  subst eo5
  go_enter Tryd.func89, Tryd.ntmps89
  go_wp2_with (first | ((with_reducible refine gate_dst (N := 2) rfl ?_); refine box_event ?hg (N := 2) ?hd (cs := #[.slice Ao5 l0_0.length co5]) (t := 29) ?hr ?_; (case hd => rfl); (case hg => rfl); (case hr => first | (go_simp; done) | (go_simp; rfl)); intro gb244 hg w6 hbox hb; have n0_ := Aside0.mk (Kd.R_below Z4 hb); have n1_ := Aside0.mk (Kept.below (S := (fun k_ => P0_0_ k_)) Z50 hb); have n2_ := Aside0.mk (below_step Z52 hb); have n3_ := Aside0.mk (hbox); have n4_ := Aside0.mk ((by rw [hg]; exact Z112 : w.heap.size ≤ gb244)); have n5_ := Aside0.mk ((Z161 : w0.heap.size ≤ gb244)); clear HO0_0; clear HK; clear HB; have HO0_0 := n0_; have HK := n1_; have HB := n2_; have BK244 := n3_; have GW244 := n4_; have GE244 := n5_; clear n0_ n1_ n2_ n3_ n4_ n5_; clear hb hbox hg) | ((with_reducible refine gate_dst (N := 3) rfl ?_); refine box_event ?hg (N := 3) ?hd (cs := #[.int .i64 a1_0, .int .i64 a1_1]) (t := 43) ?hr ?_; (case hd => rfl); (case hg => rfl); (case hr => first | (go_simp; done) | (go_simp; rfl)); intro gb245 hg w7 hbox hb; have n0_ := Aside0.mk (Kd.R_below (Kd.R_elderB Z4 gb245 (Nat.le_of_eq hg.symm)) hb); have n1_ := Aside0.mk (blk_below (g := gb244) (o := .cells #[.slice Ao5 l0_0.length co5] 29 (0, 0)) Z33 hb); have n2_ := Aside0.mk (Kept.below (S := (fun k_ => P0_0_ k_)) Z81 hb); have n3_ := Aside0.mk (below_step Z75 hb); have n4_ := Aside0.mk (hbox); have n5_ := Aside0.mk ((by rw [hg]; exact Z132 : w.heap.size ≤ gb245)); have n6_ := Aside0.mk ((by rw [hg]; exact (below_size Z75) : w0.heap.size ≤ gb245)); have n7_ := Aside0.mk ((Z171 : gb244 ≠ gb245)); have n8_ := Aside0.mk ((Z172 : gb245 ≠ gb244)); clear HO0_0; clear BK244; clear HK; clear HB; have HO0_0 := n0_; have BK244 := n1_; have HK := n2_; have HB := n3_; have BK245 := n4_; have GW245 := n5_; have GE245 := n6_; have NB244_245 := n7_; have NB245_244 := n8_; clear n0_ n1_ n2_ n3_ n4_ n5_ n6_ n7_ n8_; clear hb hbox hg) | ((with_reducible refine gate_dst (N := 4) rfl ?_); refine box_event ?hg (N := 4) ?hd (cs := #[.slice none 0 0]) (t := 29) ?hr ?_; (case hd => rfl); (case hg => rfl); (case hr => first | (go_simp; done) | (go_simp; rfl)); intro gb246 hg w8 hbox hb; have n0_ := Aside0.mk (Kd.R_below Z4 hb); have n1_ := Aside0.mk (blk_below (g := gb244) (o := .cells #[.slice Ao5 l0_0.length co5] 29 (0, 0)) Z33 hb); have n2_ := Aside0.mk (blk_below (g := gb245) (o := .cells #[.int .i64 a1_0, .int .i64 a1_1] 43 (0, 0)) Z34 hb); have n3_ := Aside0.mk (Kept.below (S := (fun k_ => P0_0_ k_)) Z118 hb); have n4_ := Aside0.mk (below_step Z108 hb); have n5_ := Aside0.mk (hbox); have n6_ := Aside0.mk ((by rw [hg]; exact Z151 : w.heap.size ≤ gb246)); have n7_ := Aside0.mk ((by rw [hg]; exact (below_size Z108) : w0.heap.size ≤ gb246)); have n8_ := Aside0.mk ((Z171 : gb244 ≠ gb246)); have n9_ := Aside0.mk ((Z172 : gb246 ≠ gb244)); have n10_ := Aside0.mk ((Z189 : gb245 ≠ gb246)); have n11_ := Aside0.mk ((Z190 : gb246 ≠ gb245)); clear HO0_0; clear BK244; clear BK245; clear HK; clear HB; have HO0_0 := n0_; have BK244 := n1_; have BK245 := n2_; have HK := n3_; have HB := n4_; have BK246 := n5_; have GW246 := n6_; have GE246 := n7_; have NB244_246 := n8_; have NB246_244 := n9_; have NB245_246 := n10_; have NB246_245 := n11_; clear n0_ n1_ n2_ n3_ n4_ n5_ n6_ n7_ n8_ n9_ n10_ n11_; clear hb hbox hg; have hnb9 := NB244_245.out; have hnc9 := NB245_244.out; have hnb10 := NB244_246.out; have hnc10 := NB246_244.out; have hcz11_0 : w8.cell? ⟨gb244, 0, none⟩ = some (.slice Ao5 l0_0.length co5) := (blk_cell BK244.out 0).trans rfl; have hfz11_0 := blk_frozen BK244.out 0; have hnb12 := NB245_246.out; have hnc12 := NB246_245.out; have hcz13_0 : w8.cell? ⟨gb245, 0, none⟩ = some (.int .i64 a1_0) := (blk_cell BK245.out 0).trans rfl; have hcz13_1 : w8.cell? ⟨gb245, 1, none⟩ = some (.int .i64 a1_1) := (blk_cell BK245.out 1).trans rfl; have hfz13_0 := blk_frozen BK245.out 0; have hfz13_1 := blk_frozen BK245.out 1) | ((with_reducible refine gate_callee (f := 96) rfl ?_); refine goesL_ (some 9) rfl rfl Tryd.func96 (by kernel_rfl) rfl #[.agg #[.slice Ao5 l0_0.length co5], .agg #[.int .i64 a1_0, .int .i64 a1_1]] rfl Z56 ?_; (with_reducible refine (spec_MapPort.calls k _ _ l0_0 a1_0 a1_1 t247 _ ?side1 ?side2 A3.out).mono ?_); (case side1 => exact Z83); (case side2 => exact (Kd.R_reads' HO0_0.out).2.1); rintro e w14 ⟨rfl, hb⟩; refine ⟨_, rfl, ?_⟩; have n0_ := Aside0.mk (Kd.R_below Z4 hb); have n1_ := Aside0.mk (blk_below (g := gb244) (o := .cells #[.slice Ao5 l0_0.length co5] 29 (0, 0)) Z33 hb); have n2_ := Aside0.mk (blk_below (g := gb245) (o := .cells #[.int .i64 a1_0, .int .i64 a1_1] 43 (0, 0)) Z34 hb); have n3_ := Aside0.mk (blk_below (g := gb246) (o := .cells #[.slice none 0 0] 29 (0, 0)) Z35 hb); have n4_ := Aside0.mk (Kept.below (S := (fun k_ => P0_0_ k_)) Z139 hb); have n5_ := Aside0.mk (below_step Z121 hb); clear HO0_0; clear BK244; clear BK245; clear BK246; clear HK; clear HB; have HO0_0 := n0_; have BK244 := n1_; have BK245 := n2_; have BK246 := n3_; have HK := n4_; have HB := n5_; clear n0_ n1_ n2_ n3_ n4_ n5_; (try clear hb); have hcz15_0 : w14.cell? ⟨gb244, 0, none⟩ = some (.slice Ao5 l0_0.length co5) := (blk_cell BK244.out 0).trans rfl; have hfz15_0 := blk_frozen BK244.out 0; have hcz16_0 : w14.cell? ⟨gb246, 0, none⟩ = some (.slice none 0 0) := (blk_cell BK246.out 0).trans rfl; have hfz16_0 := blk_frozen BK246.out 0))
  refine bodyPost_ret (results_ct rfl _ _ gb246 29 #[.slice Ao5 l0_0.length co5] (0, 0) _ rfl Z144 Tryd.underlying29 rfl (by kernel_rfl)) rfl ?_
  exact ⟨_, by first | rfl | (simp [errW_none, errW_some] <;> rfl) | (simp [*, errW_none, errW_some] <;> rfl), by (with_reducible repeat (first | apply Kd.R_alloc | apply Kd.R_drewN | apply Kd.R_drew)); exact Kd.R_mono (Kd.R_far (p := ⟨gb246, 0, none⟩) (Kd.R_types HO0_0.out BK246.out (by decide)) (fun _ hk => hk.2) (.slice Ao5 l0_0.length co5)) (fun _ hk => hk.1.1), by repeat (first | (with_reducible first | exact HB.out | apply below_alloc | apply pw_below_drewN | apply below_drew1 | refine below_set ?_ GE244.out | refine below_set ?_ GE245.out | refine below_set ?_ GE246.out) | exact HB.out), by repeat (first | (with_reducible first | exact HK.out | apply Kept.alloc | apply Kept.drewN | apply Kept.drew | refine Kept.setCell ?_ (.inr GW244.out) _ | refine Kept.setCell ?_ (.inr GW245.out) _ | refine Kept.setCell ?_ (.inr GW246.out) _) | exact HK.out)⟩
 ·rw [if_neg c4] at H
  have c4b0 : decide (0 < t247) = false := decide_eq_false c4
  clear c4
  by_cases c17 : (l0_0.length : Int) = 6
  ·rw [if_pos c17] at H
   have c17b0 : ((l0_0.length : Int) == 6) = true := beq_iff_eq.mpr c17
   have c17b1 : ((l0_0.length : Int) != 6) = false := bne_eq_false_iff_eq.mpr c17
   clear c17
   simp only [Option.some.injEq, Prod.mk.injEq] at H
   obtain ⟨rfl, rfl⟩ := H
   obtain ⟨Ao18, co18, eo18⟩ := Kd.R_slice HO0_0.out
   subst eo18
   go_enter Tryd.func89, Tryd.ntmps89
   go_wp2_with (first | ((with_reducible refine gate_dst (N := 2) rfl ?_); refine box_event ?hg (N := 2) ?hd (cs := #[.slice Ao18 l0_0.length co18]) (t := 29) ?hr ?_; (case hd => rfl); (case hg => rfl); (case hr => first | (go_simp; done) | (go_simp; rfl)); intro gb244 hg w19 hbox hb; have n0_ := Aside0.mk (Kd.R_below Z4 hb); have n1_ := Aside0.mk (Kept.below (S := (fun k_ => P0_0_ k_)) Z50 hb); have n2_ := Aside0.mk (below_step Z52 hb); have n3_ := Aside0.mk (hbox); have n4_ := Aside0.mk ((by rw [hg]; exact Z112 : w.heap.size ≤ gb244)); have n5_ := Aside0.mk ((Z161 : w0.heap.size ≤ gb244)); clear HO0_0; clear HK; clear HB; have HO0_0 := n0_; have HK := n1_; have HB := n2_; have BK244 := n3_; have GW244 := n4_; have GE244 := n5_; clear n0_ n1_ n2_ n3_ n4_ n5_; clear hb hbox hg) | ((with_reducible refine gate_dst (N := 3) rfl ?_); refine box_event ?hg (N := 3) ?hd (cs := #[.int .i64 a1_0, .int .i64 a1_1]) (t := 43) ?hr ?_; (case hd => rfl); (case hg => rfl); (case hr => first | (go_simp; done) | (go_simp; rfl)); intro gb245 hg w20 hbox hb; have n0_ := Aside0.mk (Kd.R_below (Kd.R_elderB Z4 gb245 (Nat.le_of_eq hg.symm)) hb); have n1_ := Aside0.mk (blk_below (g := gb244) (o := .cells #[.slice Ao18 l0_0.length co18] 29 (0, 0)) Z33 hb); have n2_ := Aside0.mk (Kept.below (S := (fun k_ => P0_0_ k_)) Z81 hb); have n3_ := Aside0.mk (below_step Z75 hb); have n4_ := Aside0.mk (hbox); have n5_ := Aside0.mk ((by rw [hg]; exact Z132 : w.heap.size ≤ gb245)); have n6_ := Aside0.mk ((by rw [hg]; exact (below_size Z75) : w0.heap.size ≤ gb245)); have n7_ := Aside0.mk ((Z183 : gb244 ≠ gb245)); have n8_ := Aside0.mk ((Z184 : gb245 ≠ gb244)); clear HO0_0; clear BK244; clear HK; clear HB; have HO0_0 := n0_; have BK244 := n1_; have HK := n2_; have HB := n3_; have BK245 := n4_; have GW245 := n5_; have GE245 := n6_; have NB244_245 := n7_; have NB245_244 := n8_; clear n0_ n1_ n2_ n3_ n4_ n5_ n6_ n7_ n8_; clear hb hbox hg) | ((with_reducible refine gate_dst (N := 4) rfl ?_); refine box_event ?hg (N := 4) ?hd (cs := #[.slice none 0 0]) (t := 29) ?hr ?_; (case hd => rfl); (case hg => rfl); (case hr => first | (go_simp; done) | (go_simp; rfl)); intro gb246 hg w21 hbox hb; have n0_ := Aside0.mk (Kd.R_below Z4 hb); have n1_ := Aside0.mk (blk_below (g := gb244) (o := .cells #[.slice Ao18 l0_0.length co18] 29 (0, 0)) Z33 hb); have n2_ := Aside0.mk (blk_below (g := gb245) (o := .cells #[.int .i64 a1_0, .int .i64 a1_1] 43 (0, 0)) Z34 hb); have n3_ := Aside0.mk (Kept.below (S := (fun k_ => P0_0_ k_)) Z118 hb); have n4_ := Aside0.mk (below_step Z108 hb); have n5_ := Aside0.mk (hbox); have n6_ := Aside0.mk ((by rw [hg]; exact Z151 : w.heap.size ≤ gb246)); have n7_ := Aside0.mk ((by rw [hg]; exact (below_size Z108) : w0.heap.size ≤ gb246)); have n8_ := Aside0.mk ((Z183 : gb244 ≠ gb246)); have n9_ := Aside0.mk ((Z184 : gb246 ≠ gb244)); have n10_ := Aside0.mk ((Z189 : gb245 ≠ gb246)); have n11_ := Aside0.mk ((Z190 : gb246 ≠ gb245)); clear HO0_0; clear BK244; clear BK245; clear HK; clear HB; have HO0_0 := n0_; have BK244 := n1_; have BK245 := n2_; have HK := n3_; have HB := n4_; have BK246 := n5_; have GW246 := n6_; have GE246 := n7_; have NB244_246 := n8_; have NB246_244 := n9_; have NB245_246 := n10_; have NB246_245 := n11_; clear n0_ n1_ n2_ n3_ n4_ n5_ n6_ n7_ n8_ n9_ n10_ n11_; clear hb hbox hg; have hnb22 := NB244_245.out; have hnc22 := NB245_244.out; have hnb23 := NB244_246.out; have hnc23 := NB246_244.out; have hcz24_0 : w21.cell? ⟨gb244, 0, none⟩ = some (.slice Ao18 l0_0.length co18) := (blk_cell BK244.out 0).trans rfl; have hfz24_0 := blk_frozen BK244.out 0; have hnb25 := NB245_246.out; have hnc25 := NB246_245.out; have hcz26_0 : w21.cell? ⟨gb245, 0, none⟩ = some (.int .i64 a1_0) := (blk_cell BK245.out 0).trans rfl; have hcz26_1 : w21.cell? ⟨gb245, 1, none⟩ = some (.int .i64 a1_1) := (blk_cell BK245.out 1).trans rfl; have hfz26_0 := blk_frozen BK245.out 0; have hfz26_1 := blk_frozen BK245.out 1) | ((with_reducible refine gate_callee (f := 96) rfl ?_); refine goesL_ (some 9) rfl rfl Tryd.func96 (by kernel_rfl) rfl #[.agg #[.slice Ao18 l0_0.length co18], .agg #[.int .i64 a1_0, .int .i64 a1_1]] rfl Z56 ?_; (with_reducible refine (spec_MapPort.calls k _ _ l0_0 a1_0 a1_1 t247 _ ?side1 ?side2 A3.out).mono ?_); (case side1 => exact Z83); (case side2 => exact (Kd.R_reads' HO0_0.out).2.1); rintro e w27 ⟨rfl, hb⟩; refine ⟨_, rfl, ?_⟩; have n0_ := Aside0.mk (Kd.R_below Z4 hb); have n1_ := Aside0.mk (blk_below (g := gb244) (o := .cells #[.slice Ao18 l0_0.length co18] 29 (0, 0)) Z33 hb); have n2_ := Aside0.mk (blk_below (g := gb245) (o := .cells #[.int .i64 a1_0, .int .i64 a1_1] 43 (0, 0)) Z34 hb); have n3_ := Aside0.mk (blk_below (g := gb246) (o := .cells #[.slice none 0 0] 29 (0, 0)) Z35 hb); have n4_ := Aside0.mk (Kept.below (S := (fun k_ => P0_0_ k_)) Z139 hb); have n5_ := Aside0.mk (below_step Z121 hb); clear HO0_0; clear BK244; clear BK245; clear BK246; clear HK; clear HB; have HO0_0 := n0_; have BK244 := n1_; have BK245 := n2_; have BK246 := n3_; have HK := n4_; have HB := n5_; clear n0_ n1_ n2_ n3_ n4_ n5_; (try clear hb); have hcz28_0 : w27.cell? ⟨gb244, 0, none⟩ = some (.slice Ao18 l0_0.length co18) := (blk_cell BK244.out 0).trans rfl; have hfz28_0 := blk_frozen BK244.out 0; have hcz29_0 : w27.cell? ⟨gb246, 0, none⟩ = some (.slice none 0 0) := (blk_cell BK246.out 0).trans rfl; have hfz29_0 := blk_frozen BK246.out 0))
   refine bodyPost_ret (results_ct rfl _ _ gb246 29 #[.slice Ao18 l0_0.length co18] (0, 0) _ rfl Z144 Tryd.underlying29 rfl (by kernel_rfl)) rfl ?_
   exact ⟨_, by first | rfl | (simp [errW_none, errW_some] <;> rfl) | (simp [*, errW_none, errW_some] <;> rfl), by (with_reducible repeat (first | apply Kd.R_alloc | apply Kd.R_drewN | apply Kd.R_drew)); exact Kd.R_mono (Kd.R_far (p := ⟨gb246, 0, none⟩) (Kd.R_types HO0_0.out BK246.out (by decide)) (fun _ hk => hk.2) (.slice Ao18 l0_0.length co18)) (fun _ hk => hk.1.1), by repeat (first | (with_reducible first | exact HB.out | apply below_alloc | apply pw_below_drewN | apply below_drew1 | refine below_set ?_ GE244.out | refine below_set ?_ GE245.out | refine below_set ?_ GE246.out) | exact HB.out), by repeat (first | (with_reducible first | exact HK.out | apply Kept.alloc | apply Kept.drewN | apply Kept.drew | refine Kept.setCell ?_ (.inr GW244.out) _ | refine Kept.setCell ?_ (.inr GW245.out) _ | refine Kept.setCell ?_ (.inr GW246.out) _) | exact HK.out)⟩
  ·rw [if_neg c17] at H
   have c17b0 : ((l0_0.length : Int) == 6) = false := beq_eq_false_iff_ne.mpr c17
   have c17b1 : ((l0_0.length : Int) != 6) = true := bne_iff_ne.mpr c17
   obtain ⟨y248, hy248⟩ : ∃ y_ : List (S43), y_ = (([] : List (S43))) := ⟨_, rfl⟩
   replace H : (if y248.length + l0_0.length < 8796093022208 then ((some (y248 ++ l0_0 : List (S43))).bind fun y251 => ((some (([(⟨a1_0, a1_1⟩ : S43)] : List (S43)) : List (S43))).bind fun y254 => (if y251.length + y254.length < 8796093022208 then ((some (y251 ++ y254 : List (S43))).bind fun y257 => (some (y257, wrap64 ((wrap64 (500 + (y257.length : Int))) - 1)))) else (none)))) else (none)) = some (r1, r2) := by first | (rw [hy248]; with_reducible exact H) | (have H2_ := (Option.bind_some _ _).symm.trans H; rw [hy248]; with_reducible exact H2_) | (have H2_ := (Option.bind_some _ _).symm.trans H; with_reducible exact H2_) | with_reducible exact H | (rw [hy248]; exact H) | exact H
   have Ny248 := Aside0.mk hy248
   clear hy248
   by_cases c30 : y248.length + l0_0.length < 8796093022208
   ·rw [if_pos c30] at H
    have LMc30 := Aside0.mk c30
    clear c30
    obtain ⟨y251, hy251⟩ : ∃ y_ : List (S43), y_ = (y248 ++ l0_0) := ⟨_, rfl⟩
    replace H : ((some (([(⟨a1_0, a1_1⟩ : S43)] : List (S43)) : List (S43))).bind fun y254 => (if y251.length + y254.length < 8796093022208 then ((some (y251 ++ y254 : List (S43))).bind fun y257 => (some (y257, wrap64 ((wrap64 (500 + (y257.length : Int))) - 1)))) else (none))) = some (r1, r2) := by first | (rw [hy251]; with_reducible exact H) | (have H2_ := (Option.bind_some _ _).symm.trans H; rw [hy251]; with_reducible exact H2_) | (have H2_ := (Option.bind_some _ _).symm.trans H; with_reducible exact H2_) | with_reducible exact H | (rw [hy251]; exact H) | exact H
    have Ny251 := Aside0.mk hy251
    clear hy251
    obtain ⟨y254, hy254⟩ : ∃ y_ : List (S43), y_ = (([(⟨a1_0, a1_1⟩ : S43)] : List (S43))) := ⟨_, rfl⟩
    replace H : (if y251.length + y254.length < 8796093022208 then ((some (y251 ++ y254 : List (S43))).bind fun y257 => (some (y257, wrap64 ((wrap64 (500 + (y257.length : Int))) - 1)))) else (none)) = some (r1, r2) := by first | (rw [hy254]; with_reducible exact H) | (have H2_ := (Option.bind_some _ _).symm.trans H; rw [hy254]; with_reducible exact H2_) | (have H2_ := (Option.bind_some _ _).symm.trans H; with_reducible exact H2_) | with_reducible exact H | (rw [hy254]; exact H) | exact H
    have Ny254 := Aside0.mk hy254
    clear hy254
    by_cases c31 : y251.length + y254.length < 8796093022208
    ·rw [if_pos c31] at H
     have LMc31 := Aside0.mk c31
     clear c31
     obtain ⟨y257, hy257⟩ : ∃ y_ : List (S43), y_ = (y251 ++ y254) := ⟨_, rfl⟩
     replace H : (some (y257, wrap64 ((wrap64 (500 + (y257.length : Int))) - 1))) = some (r1, r2) := by first | (rw [hy257]; with_reducible exact H) | (have H2_ := (Option.bind_some _ _).symm.trans H; rw [hy257]; with_reducible exact H2_) | (have H2_ := (Option.bind_some _ _).symm.trans H; with_reducible exact H2_) | with_reducible exact H | (rw [hy257]; exact H) | exact H
     have Ny257 := Aside0.mk hy257
     clear hy257
     simp only [Option.some.injEq, Prod.mk.injEq] at H
     obtain ⟨rfl, rfl⟩ := H
     obtain ⟨Ao32, co32, eo32⟩ := Kd.R_slice HO0_0.out
     subst eo32
     go_enter Tryd.func89, Tryd.ntmps89
     try go_wp2_with (first | ((with_reducible refine gate_dst (N := 2) rfl ?_); refine box_event ?hg (N := 2) ?hd (cs := #[.slice Ao32 l0_0.length co32]) (t := 29) ?hr ?_; (case hd => rfl); (case hg => rfl); (case hr => first | (go_simp; done) | (go_simp; rfl)); intro gb244 hg w33 hbox hb; have n0_ := Aside0.mk (Kd.R_below Z4 hb); have n1_ := Aside0.mk (Kept.below (S := (fun k_ => P0_0_ k_)) Z50 hb); have n2_ := Aside0.mk (below_step Z52 hb); have n3_ := Aside0.mk (hbox); have n4_ := Aside0.mk ((by rw [hg]; exact Z112 : w.heap.size ≤ gb244)); have n5_ := Aside0.mk ((Z161 : w0.heap.size ≤ gb244)); clear HO0_0; clear HK; clear HB; have HO0_0 := n0_; have HK := n1_; have HB := n2_; have BK244 := n3_; have GW244 := n4_; have GE244 := n5_; clear n0_ n1_ n2_ n3_ n4_ n5_; clear hb hbox hg) | ((with_reducible refine gate_dst (N := 3) rfl ?_); refine box_event ?hg (N := 3) ?hd (cs := #[.int .i64 a1_0, .int .i64 a1_1]) (t := 43) ?hr ?_; (case hd => rfl); (case hg => rfl); (case hr => first | (go_simp; done) | (go_simp; rfl)); intro gb245 hg w34 hbox hb; have n0_ := Aside0.mk (Kd.R_below (Kd.R_elderB Z4 gb245 (Nat.le_of_eq hg.symm)) hb); have n1_ := Aside0.mk (blk_below (g := gb244) (o := .cells #[.slice Ao32 l0_0.length co32] 29 (0, 0)) Z33 hb); have n2_ := Aside0.mk (Kept.below (S := (fun k_ => P0_0_ k_)) Z81 hb); have n3_ := Aside0.mk (below_step Z75 hb); have n4_ := Aside0.mk (hbox); have n5_ := Aside0.mk ((by rw [hg]; exact Z132 : w.heap.size ≤ gb245)); have n6_ := Aside0.mk ((by rw [hg]; exact (below_size Z75) : w0.heap.size ≤ gb245)); have n7_ := Aside0.mk ((Z185 : gb244 ≠ gb245)); have n8_ := Aside0.mk ((Z186 : gb245 ≠ gb244)); clear HO0_0; clear BK244; clear HK; clear HB; have HO0_0 := n0_; have BK244 := n1_; have HK := n2_; have HB := n3_; have BK245 := n4_; have GW245 := n5_; have GE245 := n6_; have NB244_245 := n7_; have NB245_244 := n8_; clear n0_ n1_ n2_ n3_ n4_ n5_ n6_ n7_ n8_; clear hb hbox hg) | ((with_reducible refine gate_dst (N := 4) rfl ?_); refine box_event ?hg (N := 4) ?hd (cs := #[.slice none 0 0]) (t := 29) ?hr ?_; (case hd => rfl); (case hg => rfl); (case hr => first | (go_simp; done) | (go_simp; rfl)); intro gb246 hg w35 hbox hb; have n0_ := Aside0.mk (Kd.R_below Z4 hb); have n1_ := Aside0.mk (blk_below (g := gb244) (o := .cells #[.slice Ao32 l0_0.length co32] 29 (0, 0)) Z33 hb); have n2_ := Aside0.mk (blk_below (g := gb245) (o := .cells #[.int .i64 a1_0, .int .i64 a1_1] 43 (0, 0)) Z34 hb); have n3_ := Aside0.mk (Kept.below (S := (fun k_ => P0_0_ k_)) Z118 hb); have n4_ := Aside0.mk (below_step Z108 hb); have n5_ := Aside0.mk (hbox); have n6_ := Aside0.mk ((by rw [hg]; exact Z151 : w.heap.size ≤ gb246)); have n7_ := Aside0.mk ((by rw [hg]; exact (below_size Z108) : w0.heap.size ≤ gb246)); have n8_ := Aside0.mk ((Z185 : gb244 ≠ gb246)); have n9_ := Aside0.mk ((Z186 : gb246 ≠ gb244)); have n10_ := Aside0.mk ((Z189 : gb245 ≠ gb246)); have n11_ := Aside0.mk ((Z190 : gb246 ≠ gb245)); clear HO0_0; clear BK244; clear BK245; clear HK; clear HB; have HO0_0 := n0_; have BK244 := n1_; have BK245 := n2_; have HK := n3_; have HB := n4_; have BK246 := n5_; have GW246 := n6_; have GE246 := n7_; have NB244_246 := n8_; have NB246_244 := n9_; have NB245_246 := n10_; have NB246_245 := n11_; clear n0_ n1_ n2_ n3_ n4_ n5_ n6_ n7_ n8_ n9_ n10_ n11_; clear hb hbox hg; have hnb36 := NB244_245.out; have hnc36 := NB245_244.out; have hnb37 := NB244_246.out; have hnc37 := NB246_244.out; have hcz38_0 : w35.cell? ⟨gb244, 0, none⟩ = some (.slice Ao32 l0_0.length co32) := (blk_cell BK244.out 0).trans rfl; have hfz38_0 := blk_frozen BK244.out 0; have hnb39 := NB245_246.out; have hnc39 := NB246_245.out; have hcz40_0 : w35.cell? ⟨gb245, 0, none⟩ = some (.int .i64 a1_0) := (blk_cell BK245.out 0).trans rfl; have hcz40_1 : w35.cell? ⟨gb245, 1, none⟩ = some (.int .i64 a1_1) := (blk_cell BK245.out 1).trans rfl; have hfz40_0 := blk_frozen BK245.out 0; have hfz40_1 := blk_frozen BK245.out 1) | ((with_reducible refine gate_callee (f := 96) rfl ?_); refine goesL_ (some 9) rfl rfl Tryd.func96 (by kernel_rfl) rfl #[.agg #[.slice Ao32 l0_0.length co32], .agg #[.int .i64 a1_0, .int .i64 a1_1]] rfl Z56 ?_; (with_reducible refine (spec_MapPort.calls k _ _ l0_0 a1_0 a1_1 t247 _ ?side1 ?side2 A3.out).mono ?_); (case side1 => exact Z83); (case side2 => exact (Kd.R_reads' HO0_0.out).2.1); rintro e w41 ⟨rfl, hb⟩; refine ⟨_, rfl, ?_⟩; have n0_ := Aside0.mk (Kd.R_below Z4 hb); have n1_ := Aside0.mk (blk_below (g := gb244) (o := .cells #[.slice Ao32 l0_0.length co32] 29 (0, 0)) Z33 hb); have n2_ := Aside0.mk (blk_below (g := gb245) (o := .cells #[.int .i64 a1_0, .int .i64 a1_1] 43 (0, 0)) Z34 hb); have n3_ := Aside0.mk (blk_below (g := gb246) (o := .cells #[.slice none 0 0] 29 (0, 0)) Z35 hb); have n4_ := Aside0.mk (Kept.below (S := (fun k_ => P0_0_ k_)) Z139 hb); have n5_ := Aside0.mk (below_step Z121 hb); clear HO0_0; clear BK244; clear BK245; clear BK246; clear HK; clear HB; have HO0_0 := n0_; have BK244 := n1_; have BK245 := n2_; have BK246 := n3_; have HK := n4_; have HB := n5_; clear n0_ n1_ n2_ n3_ n4_ n5_; (try clear hb); have hcz42_0 : w41.cell? ⟨gb244, 0, none⟩ = some (.slice Ao32 l0_0.length co32) := (blk_cell BK244.out 0).trans rfl; have hfz42_0 := blk_frozen BK244.out 0))
     have n0_ := Aside0.mk (Kd.R_drew HO0_0.out)
     have n1_ := Aside0.mk (blk_drew BK244.out)
     have n2_ := Aside0.mk (blk_drew BK245.out)
     have n3_ := Aside0.mk (blk_drew BK246.out)
     have n4_ := Aside0.mk (Kept.drew HK.out)
     have n5_ := Aside0.mk (below_drew1 HB.out)
     clear HO0_0
     clear BK244
     clear BK245
     clear BK246
     clear HK
     clear HB
     have HO0_0 := n0_
     have BK244 := n1_
     have BK245 := n2_
     have BK246 := n3_
     have HK := n4_
     have HB := n5_
     clear n0_ n1_ n2_ n3_ n4_ n5_
     refine start_ (n := 9) (S := fun w' => w'.cell? ⟨gb244, 0, none⟩ = some (.slice Ao32 l0_0.length co32) ∧ w'.cell? ⟨gb245, 0, none⟩ = some (.int .i64 a1_0) ∧ w'.cell? ⟨gb245, 1, none⟩ = some (.int .i64 a1_1)) (ds := [8]) #[false, false, false, false, false, false, false, false, false] (by kernel_rfl) rfl rfl ⟨(blk_cell BK244.out 0).trans rfl, (blk_cell BK245.out 0).trans rfl, (blk_cell BK245.out 1).trans rfl⟩ (fun hHeld => ?_); refine with_tabW spec_l3Put.tab6 spec_l3Put.bits6 (fun HT_ HW_ => ?_)
     generalize w41.drew = w43 at HO0_0 BK244 BK245 BK246 HK HB hHeld ⊢
     refine pure_ (i := 1) (N := some 20) (v := ?_) (a' := ?_) #[false, true, false, false, false, false, false, false, false] rfl rfl (any_of HT_.out (by kernel_rfl)) (fun _ _ _ h => h) (Or.inl ⟨by rfl, ?_⟩) ?_ ?_
     rotate_left
     ·intro w'
      go_simp
      with_reducible rfl
     rotate_left
     ·simp only [Act.put, List.setIfInBounds_toArray, List.set_cons_zero, List.set_cons_succ, i64_w, i32_w]
      rfl
     refine take_ (i := 2) (N := some 21) (v := ?_) (a' := ?_) #[false, true, true, false, false, false, false, false, false] rfl rfl (take_ofW HT_.out HW_.out (by kernel_rfl)) (fun _ _ _ h => h) (Or.inl ⟨by rfl, ?_⟩) hHeld ?_ ?_
     rotate_left
     ·rintro w' ⟨s0, s1, s2⟩
      go_simp
      with_reducible rfl
     rotate_left
     ·simp only [Act.put, List.setIfInBounds_toArray, List.set_cons_zero, List.set_cons_succ, i64_w, i32_w]
      rfl
     refine take_ (i := 4) (N := some 23) (v := ?_) (a' := ?_) #[false, true, true, false, true, false, false, false, false] rfl rfl (take_ofW HT_.out HW_.out (by kernel_rfl)) (fun _ _ _ h => h) (Or.inl ⟨by rfl, ?_⟩) hHeld ?_ ?_
     rotate_left
     ·rintro w' ⟨s0, s1, s2⟩
      go_simp
      with_reducible rfl
     rotate_left
     ·simp only [Act.put, List.setIfInBounds_toArray, List.set_cons_zero, List.set_cons_succ, i64_w, i32_w]
      rfl
     refine join_ (σ := Value × Value × Value) 3 #[true, true, true, true, true, true, false, false, false] (fun s_ => [(19, s_.1), (22, s_.2.1), (24, s_.2.2)]) (fun s_ w' => (w'.cell? ⟨gb244, 0, none⟩ = some (.slice Ao32 l0_0.length co32) ∧ w'.cell? ⟨gb245, 0, none⟩ = some (.int .i64 a1_0) ∧ w'.cell? ⟨gb245, 1, none⟩ = some (.int .i64 a1_1)) ∧ (Kd.R k43 43 w' w0.heap.size (fun k_ => (P0_0_ k_ ∨ w.heap.size ≤ k_) ∧ some k_ ≠ (s_.2.1 : Value).ownBlock ∧ some k_ ≠ (s_.2.2 : Value).ownBlock ∧ k_ ≠ gb245) (.slice Ao32 l0_0.length co32) l0_0) ∧ (Kd.R k43 43 w' w0.heap.size (fun k_ => (P0_0_ k_ ∨ w.heap.size ≤ k_) ∧ some k_ ≠ (.slice Ao32 l0_0.length co32 : Value).ownBlock ∧ some k_ ≠ (s_.2.2 : Value).ownBlock ∧ k_ ≠ gb245) s_.2.1 y251) ∧ (Kd.R k43 43 w' w0.heap.size (fun k_ => (P0_0_ k_ ∨ w.heap.size ≤ k_) ∧ some k_ ≠ (.slice Ao32 l0_0.length co32 : Value).ownBlock ∧ some k_ ≠ (s_.2.1 : Value).ownBlock ∧ k_ ≠ gb245) s_.2.2 y254) ∧ (w'.heap[gb244]? = some (.cells #[.slice Ao32 l0_0.length co32] 29 (0, 0))) ∧ (w'.heap[gb245]? = some (.cells #[.int .i64 a1_0, .int .i64 a1_1] 43 (0, 0))) ∧ (w'.heap[gb246]? = some (.cells #[.slice none 0 0] 29 (0, 0))) ∧ (Kept w w' (fun k_ => P0_0_ k_)) ∧ (Below w0.heap.size w0 w')) ?_ ?_
     rotate_left
     ·intro hCont
      refine two_ (i := 0) (j := 5) (Ni := some 19) (Nj := some 24) #[true, true, true, false, true, false, false, false, false] #[false, true, true, false, true, true, false, false, false] rfl rfl rfl rfl (two_of HT_.out (by kernel_rfl)) (by decide) (by decide) (fun K hK => ?_) (fun K hK => ?_)
      ·skip
       refine Kd.R_lit_step k43 _ 43 ?hg (N := 19) ?hd (xs := ([] : List (S43))) (inner := []) (ok := fun _ => True) (okp := fun _ => True) ?hr ?hp (fun _ hk => hk) trivial (Below.refl _ _) (Nat.le_refl _) (by simp) ?_; (case hd => rfl); (case hg => rfl); (case hr => first | (go_simp; done) | (go_simp; rfl)); (case hp => exact (Reps.none _ _))
       intro v249 w44 ho45 hb hg_ hnew_
       clear hg_ hnew_
       (first | rw [← Ny248.out] at ho45 | (simp only [Int.reduceToNat] at ho45; rw [← Ny248.out] at ho45))
       have n0_ := Aside0.mk (Kd.R_elder' Z4 (Kd.R_base ho45) hb)
       have n1_ := Aside0.mk (Kd.R_lower (Kd.R_newB (Kd.R_new' (Kd.R_newM (M := fun k_ => (P0_0_ k_ ∨ w.heap.size ≤ k_)) ho45 Z156 (fun k_ h_ => .inr h_)) (Kd.R_lt Z4)) (g := gb245) (o := .cells #[.int .i64 a1_0, .int .i64 a1_1] 43 (0, 0)) Z34) (below_size Z121))
       have n2_ := Aside0.mk (blk_below (g := gb244) (o := .cells #[.slice Ao32 l0_0.length co32] 29 (0, 0)) Z33 hb)
       have n3_ := Aside0.mk (blk_below (g := gb245) (o := .cells #[.int .i64 a1_0, .int .i64 a1_1] 43 (0, 0)) Z34 hb)
       have n4_ := Aside0.mk (blk_below (g := gb246) (o := .cells #[.slice none 0 0] 29 (0, 0)) Z35 hb)
       have n5_ := Aside0.mk (Kept.below (S := (fun k_ => P0_0_ k_)) Z139 hb)
       have n6_ := Aside0.mk (below_step Z121 hb)
       clear HO0_0
       clear BK244
       clear BK245
       clear BK246
       clear HK
       clear HB
       have HO0_0 := n0_
       have HO250 := n1_
       have BK244 := n2_
       have BK245 := n3_
       have BK246 := n4_
       have HK := n5_
       have HB := n6_
       clear n0_ n1_ n2_ n3_ n4_ n5_ n6_
       clear hb ho45
       refine hK.out _ _ ⟨(blk_cell BK244.out 0).trans rfl, (blk_cell BK245.out 0).trans rfl, (blk_cell BK245.out 1).trans rfl⟩ (fun hHeld => ?_)
       clear hK K
       refine norm_ (a' := ?_) ?_ ?_
       rotate_left
       ·show Act.put _ (some 19) _ = _
        simp only [Act.put, List.setIfInBounds_toArray, List.set_cons_zero, List.set_cons_succ, i64_w, i32_w]
        rfl
       refine two_ (i := 3) (j := 5) (Ni := some 22) (Nj := some 24) #[true, true, true, true, true, false, false, false, false] #[true, true, true, false, true, true, false, false, false] rfl rfl rfl rfl (two_of HT_.out (by kernel_rfl)) (by decide) (by decide) (fun K hK => ?_) (fun K hK => ?_)
       ·skip
        refine Kd.R_append_rows_step k43 (w0 := w0) w0.heap.size (by rfl) (.tmp 19) (.tmp 21) 27 43 (.agg #[(.int .i64 0), (.int .i64 0)]) 16 rfl Tryd.underlying27 info43 rfl (by decide) (by omega) v249 y248 l0_0 _ _ _ (fun k_ => (P0_0_ k_ ∨ w.heap.size ≤ k_) ∧ some k_ ≠ (.slice Ao32 l0_0.length co32 : Value).ownBlock ∧ k_ ≠ gb245) (fun _ => False) rfl rfl ?aO ?aR (fun _ _ h => h) (fun _ h => h.elim) ?aF ?aB ?aS ?aL ?_
        (case aR => exact Z83)
        (case aB => exact Z121)
        (case aF => exact (fun k_ hk => ⟨(.inr (Nat.le_trans Z156 hk)), Kd.fresh' (Kd.R_lt Z4) k_ hk, Kd.freshB (g := gb245) (o := .cells #[.int .i64 a1_0, .int .i64 a1_1] 43 (0, 0)) Z34 k_ hk⟩))
        (case aO => exact (by (with_reducible repeat (first | apply Kd.R_alloc | apply Kd.R_drewN | apply Kd.R_drew)); exact Kd.R_mono HO250.out (fun _ hk => ⟨hk.1.1.1, ⟨hk.1.2, hk.2⟩⟩)))
        (case aS => exact (below_size Z121))
        (case aL => have := LMc30.out; omega)
        intro v252 w46 ho hb hg hat
        rw [← Ny251.out] at ho
        have n0_ := Aside0.mk (Kd.R_after (ok := (fun k_ => (P0_0_ k_ ∨ w.heap.size ≤ k_) ∧ k_ ≠ gb245)) Z4 hg hat)
        have n1_ := Aside0.mk (blk_grown (g := gb244) (o := .cells #[.slice Ao32 l0_0.length co32] 29 (0, 0)) Z33 hg (Kd.R_ne HO250.out BK244.out (by decide)))
        have n2_ := Aside0.mk (blk_grown (g := gb245) (o := .cells #[.int .i64 a1_0, .int .i64 a1_1] 43 (0, 0)) Z34 hg (Kd.R_away HO250.out (fun _ hk => hk.2)))
        have n3_ := Aside0.mk (blk_grown (g := gb246) (o := .cells #[.slice none 0 0] 29 (0, 0)) Z35 hg (Kd.R_ne HO250.out BK246.out (by decide)))
        have n4_ := Aside0.mk (hb)
        have n5_ := Aside0.mk (Kept.of_grown (S := (fun k_ => P0_0_ k_)) hg Z139 (fun k_ e_ => (HO250.out.1 k_ e_).1.1.1))
        have n6_ := Aside0.mk (ho)
        clear HO0_0
        clear BK244
        clear BK245
        clear BK246
        clear HB
        clear HK
        clear HO250
        have HO0_0 := n0_
        have BK244 := n1_
        have BK245 := n2_
        have BK246 := n3_
        have HB := n4_
        have HK := n5_
        have HO253 := n6_
        clear n0_ n1_ n2_ n3_ n4_ n5_ n6_
        clear ho hb hg hat
        refine hK.out _ _ ⟨(blk_cell BK244.out 0).trans rfl, (blk_cell BK245.out 0).trans rfl, (blk_cell BK245.out 1).trans rfl⟩ (fun hHeld => ?_)
        clear hK K
        refine norm_ (a' := ?_) ?_ ?_
        rotate_left
        ·show Act.put _ (some 22) _ = _
         simp only [Act.put, List.setIfInBounds_toArray, List.set_cons_zero, List.set_cons_succ, i64_w, i32_w]
         rfl
        refine one_ (i := 5) (N := some 24) #[true, true, true, true, true, true, false, false, false] rfl rfl (one_of HT_.out (by kernel_rfl)) (by decide) (fun K hK => ?_)
        refine Kd.R_lit_step k43 _ 43 ?hg (N := 24) ?hd (xs := ([(⟨a1_0, a1_1⟩ : S43)] : List (S43))) (inner := [.int .i64 a1_0, .int .i64 a1_1]) (ok := fun _ => True) (okp := fun _ => True) ?hr ?hp (fun _ hk => hk) trivial (Below.refl _ _) (Nat.le_refl _) (by simp) ?_; (case hd => rfl); (case hg => rfl); (case hr => first | (go_simp; done) | (go_simp; rfl)); (case hp => exact (Reps.c2 (show Kd.M k43 _ _ _ (⟨a1_0, a1_1⟩ : S43) [.int .i64 a1_0, .int .i64 a1_1] from (k43_mkM _ _ _ (⟨a1_0, a1_1⟩ : S43) )) (Reps.none _ _)))
        intro v255 w47 ho48 hb hg_ hnew_
        clear hg_ hnew_
        (first | rw [← Ny254.out] at ho48 | (simp only [Int.reduceToNat] at ho48; rw [← Ny254.out] at ho48))
        have n0_ := Aside0.mk (Kd.R_elder' Z4 (Kd.R_base ho48) hb)
        have n1_ := Aside0.mk (Kd.R_elder' Z5 (Kd.R_base ho48) hb)
        have n2_ := Aside0.mk (Kd.R_lower (Kd.R_newB (Kd.R_new' (Kd.R_new' (Kd.R_newM (M := fun k_ => (P0_0_ k_ ∨ w.heap.size ≤ k_)) ho48 Z156 (fun k_ h_ => .inr h_)) (Kd.R_lt Z4)) (Kd.R_lt Z5)) (g := gb245) (o := .cells #[.int .i64 a1_0, .int .i64 a1_1] 43 (0, 0)) Z34) (below_size Z121))
        have n3_ := Aside0.mk (blk_below (g := gb244) (o := .cells #[.slice Ao32 l0_0.length co32] 29 (0, 0)) Z33 hb)
        have n4_ := Aside0.mk (blk_below (g := gb245) (o := .cells #[.int .i64 a1_0, .int .i64 a1_1] 43 (0, 0)) Z34 hb)
        have n5_ := Aside0.mk (blk_below (g := gb246) (o := .cells #[.slice none 0 0] 29 (0, 0)) Z35 hb)
        have n6_ := Aside0.mk (Kept.below (S := (fun k_ => P0_0_ k_)) Z139 hb)
        have n7_ := Aside0.mk (below_step Z121 hb)
        clear HO0_0
        clear HO253
        clear BK244
        clear BK245
        clear BK246
        clear HK
        clear HB
        have HO0_0 := n0_
        have HO253 := n1_
        have HO256 := n2_
        have BK244 := n3_
        have BK245 := n4_
        have BK246 := n5_
        have HK := n6_
        have HB := n7_
        clear n0_ n1_ n2_ n3_ n4_ n5_ n6_ n7_
        clear hb ho48
        refine hK.out _ _ ⟨(blk_cell BK244.out 0).trans rfl, (blk_cell BK245.out 0).trans rfl, (blk_cell BK245.out 1).trans rfl⟩ (fun hHeld => ?_)
        clear hK K
        refine norm_ (a' := ?_) ?_ ?_
        rotate_left
        ·show Act.put _ (some 24) _ = _
         simp only [Act.put, List.setIfInBounds_toArray, List.set_cons_zero, List.set_cons_succ, i64_w, i32_w]
         rfl
        exact norm_ Z2 (hCont (v249, v252, v255) _ ⟨hHeld, (by (with_reducible repeat (first | apply Kd.R_alloc | apply Kd.R_drewN | apply Kd.R_drew)); exact Kd.R_mono HO0_0.out (fun _ hk => ⟨hk.1.1.1, ⟨hk.1.2, ⟨hk.2, hk.1.1.2⟩⟩⟩)), (by (with_reducible repeat (first | apply Kd.R_alloc | apply Kd.R_drewN | apply Kd.R_drew)); exact Kd.R_mono HO253.out (fun _ hk => ⟨hk.1.1, ⟨hk.1.2.1, ⟨hk.2, hk.1.2.2⟩⟩⟩)), (by (with_reducible repeat (first | apply Kd.R_alloc | apply Kd.R_drewN | apply Kd.R_drew)); exact Kd.R_mono HO256.out (fun _ hk => ⟨hk.1.1.1.1, ⟨hk.1.1.2, ⟨hk.1.2, hk.2⟩⟩⟩)), Z33, Z34, Z35, Z139, Z121⟩)
       ·skip
        refine Kd.R_lit_step k43 _ 43 ?hg (N := 24) ?hd (xs := ([(⟨a1_0, a1_1⟩ : S43)] : List (S43))) (inner := [.int .i64 a1_0, .int .i64 a1_1]) (ok := fun _ => True) (okp := fun _ => True) ?hr ?hp (fun _ hk => hk) trivial (Below.refl _ _) (Nat.le_refl _) (by simp) ?_; (case hd => rfl); (case hg => rfl); (case hr => first | (go_simp; done) | (go_simp; rfl)); (case hp => exact (Reps.c2 (show Kd.M k43 _ _ _ (⟨a1_0, a1_1⟩ : S43) [.int .i64 a1_0, .int .i64 a1_1] from (k43_mkM _ _ _ (⟨a1_0, a1_1⟩ : S43) )) (Reps.none _ _)))
        intro v255 w46 ho47 hb hg_ hnew_
        clear hg_ hnew_
        (first | rw [← Ny254.out] at ho47 | (simp only [Int.reduceToNat] at ho47; rw [← Ny254.out] at ho47))
        have n0_ := Aside0.mk (Kd.R_elder' Z4 (Kd.R_base ho47) hb)
        have n1_ := Aside0.mk (Kd.R_elder' Z6 (Kd.R_base ho47) hb)
        have n2_ := Aside0.mk (Kd.R_lower (Kd.R_newB (Kd.R_new' (Kd.R_new' (Kd.R_newM (M := fun k_ => (P0_0_ k_ ∨ w.heap.size ≤ k_)) ho47 Z156 (fun k_ h_ => .inr h_)) (Kd.R_lt Z4)) (Kd.R_lt Z6)) (g := gb245) (o := .cells #[.int .i64 a1_0, .int .i64 a1_1] 43 (0, 0)) Z34) (below_size Z121))
        have n3_ := Aside0.mk (blk_below (g := gb244) (o := .cells #[.slice Ao32 l0_0.length co32] 29 (0, 0)) Z33 hb)
        have n4_ := Aside0.mk (blk_below (g := gb245) (o := .cells #[.int .i64 a1_0, .int .i64 a1_1] 43 (0, 0)) Z34 hb)
        have n5_ := Aside0.mk (blk_below (g := gb246) (o := .cells #[.slice none 0 0] 29 (0, 0)) Z35 hb)
        have n6_ := Aside0.mk (Kept.below (S := (fun k_ => P0_0_ k_)) Z139 hb)
        have n7_ := Aside0.mk (below_step Z121 hb)
        clear HO0_0
        clear HO250
        clear BK244
        clear BK245
        clear BK246
        clear HK
        clear HB
        have HO0_0 := n0_
        have HO250 := n1_
        have HO256 := n2_
        have BK244 := n3_
        have BK245 := n4_
        have BK246 := n5_
        have HK := n6_
        have HB := n7_
        clear n0_ n1_ n2_ n3_ n4_ n5_ n6_ n7_
        clear hb ho47
        refine hK.out _ _ ⟨(blk_cell BK244.out 0).trans rfl, (blk_cell BK245.out 0).trans rfl, (blk_cell BK245.out 1).trans rfl⟩ (fun hHeld => ?_)
        clear hK K
        refine norm_ (a' := ?_) ?_ ?_
        rotate_left
        ·show Act.put _ (some 24) _ = _
         simp only [Act.put, List.setIfInBounds_toArray, List.set_cons_zero, List.set_cons_succ, i64_w, i32_w]
         rfl
        refine one_ (i := 3) (N := some 22) #[true, true, true, true, true, true, false, false, false] rfl rfl (one_of HT_.out (by kernel_rfl)) (by decide) (fun K hK => ?_)
        refine Kd.R_append_rows_step k43 (w0 := w0) w0.heap.size (by rfl) (.tmp 19) (.tmp 21) 27 43 (.agg #[(.int .i64 0), (.int .i64 0)]) 16 rfl Tryd.underlying27 info43 rfl (by decide) (by omega) v249 y248 l0_0 _ _ _ (fun k_ => (P0_0_ k_ ∨ w.heap.size ≤ k_) ∧ some k_ ≠ (.slice Ao32 l0_0.length co32 : Value).ownBlock ∧ some k_ ≠ (v255 : Value).ownBlock ∧ k_ ≠ gb245) (fun _ => False) rfl rfl ?aO ?aR (fun _ _ h => h) (fun _ h => h.elim) ?aF ?aB ?aS ?aL ?_
        (case aR => exact Z83)
        (case aB => exact Z121)
        (case aF => exact (fun k_ hk => ⟨(.inr (Nat.le_trans Z156 hk)), Kd.fresh' (Kd.R_lt Z4) k_ hk, Kd.fresh' (Kd.R_lt Z7) k_ hk, Kd.freshB (g := gb245) (o := .cells #[.int .i64 a1_0, .int .i64 a1_1] 43 (0, 0)) Z34 k_ hk⟩))
        (case aO => exact (by (with_reducible repeat (first | apply Kd.R_alloc | apply Kd.R_drewN | apply Kd.R_drew)); exact Kd.R_mono HO250.out (fun _ hk => ⟨hk.1.1.1.1, ⟨hk.1.1.2, ⟨hk.2, hk.1.2⟩⟩⟩)))
        (case aS => exact (below_size Z121))
        (case aL => have := LMc30.out; omega)
        intro v252 w48 ho hb hg hat
        rw [← Ny251.out] at ho
        have n0_ := Aside0.mk (Kd.R_after (ok := (fun k_ => (P0_0_ k_ ∨ w.heap.size ≤ k_) ∧ some k_ ≠ (v255 : Value).ownBlock ∧ k_ ≠ gb245)) (by (with_reducible repeat (first | apply Kd.R_alloc | apply Kd.R_drewN | apply Kd.R_drew)); exact Kd.R_mono HO0_0.out (fun _ hk => ⟨⟨hk.1.1.1, ⟨hk.2, hk.1.1.2⟩⟩, hk.1.2⟩)) hg hat)
        have n1_ := Aside0.mk (blk_grown (g := gb244) (o := .cells #[.slice Ao32 l0_0.length co32] 29 (0, 0)) Z33 hg (Kd.R_ne HO250.out BK244.out (by decide)))
        have n2_ := Aside0.mk (blk_grown (g := gb245) (o := .cells #[.int .i64 a1_0, .int .i64 a1_1] 43 (0, 0)) Z34 hg (Kd.R_away HO250.out (fun _ hk => hk.1.2)))
        have n3_ := Aside0.mk (blk_grown (g := gb246) (o := .cells #[.slice none 0 0] 29 (0, 0)) Z35 hg (Kd.R_ne HO250.out BK246.out (by decide)))
        have n4_ := Aside0.mk (Kd.R_after (ok := (fun k_ => (P0_0_ k_ ∨ w.heap.size ≤ k_) ∧ some k_ ≠ (.slice Ao32 l0_0.length co32 : Value).ownBlock ∧ k_ ≠ gb245)) (by (with_reducible repeat (first | apply Kd.R_alloc | apply Kd.R_drewN | apply Kd.R_drew)); exact Kd.R_mono HO256.out (fun _ hk => ⟨⟨hk.1.1.1.1, ⟨hk.1.1.2, hk.2⟩⟩, hk.1.2⟩)) hg hat)
        have n5_ := Aside0.mk (hb)
        have n6_ := Aside0.mk (Kept.of_grown (S := (fun k_ => P0_0_ k_)) hg Z139 (fun k_ e_ => (HO250.out.1 k_ e_).1.1.1.1))
        have n7_ := Aside0.mk (ho)
        clear HO0_0
        clear BK244
        clear BK245
        clear BK246
        clear HO256
        clear HB
        clear HK
        clear HO250
        have HO0_0 := n0_
        have BK244 := n1_
        have BK245 := n2_
        have BK246 := n3_
        have HO256 := n4_
        have HB := n5_
        have HK := n6_
        have HO253 := n7_
        clear n0_ n1_ n2_ n3_ n4_ n5_ n6_ n7_
        clear ho hb hg hat
        refine hK.out _ _ ⟨(blk_cell BK244.out 0).trans rfl, (blk_cell BK245.out 0).trans rfl, (blk_cell BK245.out 1).trans rfl⟩ (fun hHeld => ?_)
        clear hK K
        refine norm_ (a' := ?_) ?_ ?_
        rotate_left
        ·show Act.put _ (some 22) _ = _
         simp only [Act.put, List.setIfInBounds_toArray, List.set_cons_zero, List.set_cons_succ, i64_w, i32_w]
         rfl
        exact norm_ Z2 (hCont (v249, v252, v255) _ ⟨hHeld, Z79, Z5, Z80, Z33, Z34, Z35, Z139, Z121⟩)
      ·skip
       refine Kd.R_lit_step k43 _ 43 ?hg (N := 24) ?hd (xs := ([(⟨a1_0, a1_1⟩ : S43)] : List (S43))) (inner := [.int .i64 a1_0, .int .i64 a1_1]) (ok := fun _ => True) (okp := fun _ => True) ?hr ?hp (fun _ hk => hk) trivial (Below.refl _ _) (Nat.le_refl _) (by simp) ?_; (case hd => rfl); (case hg => rfl); (case hr => first | (go_simp; done) | (go_simp; rfl)); (case hp => exact (Reps.c2 (show Kd.M k43 _ _ _ (⟨a1_0, a1_1⟩ : S43) [.int .i64 a1_0, .int .i64 a1_1] from (k43_mkM _ _ _ (⟨a1_0, a1_1⟩ : S43) )) (Reps.none _ _)))
       intro v255 w44 ho45 hb hg_ hnew_
       clear hg_ hnew_
       (first | rw [← Ny254.out] at ho45 | (simp only [Int.reduceToNat] at ho45; rw [← Ny254.out] at ho45))
       have n0_ := Aside0.mk (Kd.R_elder' Z4 (Kd.R_base ho45) hb)
       have n1_ := Aside0.mk (Kd.R_lower (Kd.R_newB (Kd.R_new' (Kd.R_newM (M := fun k_ => (P0_0_ k_ ∨ w.heap.size ≤ k_)) ho45 Z156 (fun k_ h_ => .inr h_)) (Kd.R_lt Z4)) (g := gb245) (o := .cells #[.int .i64 a1_0, .int .i64 a1_1] 43 (0, 0)) Z34) (below_size Z121))
       have n2_ := Aside0.mk (blk_below (g := gb244) (o := .cells #[.slice Ao32 l0_0.length co32] 29 (0, 0)) Z33 hb)
       have n3_ := Aside0.mk (blk_below (g := gb245) (o := .cells #[.int .i64 a1_0, .int .i64 a1_1] 43 (0, 0)) Z34 hb)
       have n4_ := Aside0.mk (blk_below (g := gb246) (o := .cells #[.slice none 0 0] 29 (0, 0)) Z35 hb)
       have n5_ := Aside0.mk (Kept.below (S := (fun k_ => P0_0_ k_)) Z139 hb)
       have n6_ := Aside0.mk (below_step Z121 hb)
       clear HO0_0
       clear BK244
       clear BK245
       clear BK246
       clear HK
       clear HB
       have HO0_0 := n0_
       have HO256 := n1_
       have BK244 := n2_
       have BK245 := n3_
       have BK246 := n4_
       have HK := n5_
       have HB := n6_
       clear n0_ n1_ n2_ n3_ n4_ n5_ n6_
       clear hb ho45
       refine hK.out _ _ ⟨(blk_cell BK244.out 0).trans rfl, (blk_cell BK245.out 0).trans rfl, (blk_cell BK245.out 1).trans rfl⟩ (fun hHeld => ?_)
       clear hK K
       refine norm_ (a' := ?_) ?_ ?_
       rotate_left
       ·show Act.put _ (some 24) _ = _
        simp only [Act.put, List.setIfInBounds_toArray, List.set_cons_zero, List.set_cons_succ, i64_w, i32_w]
        rfl
       refine one_ (i := 0) (N := some 19) #[true, true, true, false, true, true, false, false, false] rfl rfl (one_of HT_.out (by kernel_rfl)) (by decide) (fun K hK => ?_)
       refine Kd.R_lit_step k43 _ 43 ?hg (N := 19) ?hd (xs := ([] : List (S43))) (inner := []) (ok := fun _ => True) (okp := fun _ => True) ?hr ?hp (fun _ hk => hk) trivial (Below.refl _ _) (Nat.le_refl _) (by simp) ?_; (case hd => rfl); (case hg => rfl); (case hr => first | (go_simp; done) | (go_simp; rfl)); (case hp => exact (Reps.none _ _))
       intro v249 w46 ho47 hb hg_ hnew_
       clear hg_ hnew_
       (first | rw [← Ny248.out] at ho47 | (simp only [Int.reduceToNat] at ho47; rw [← Ny248.out] at ho47))
       have n0_ := Aside0.mk (Kd.R_elder' Z4 (Kd.R_base ho47) hb)
       have n1_ := Aside0.mk (Kd.R_elder' Z7 (Kd.R_base ho47) hb)
       have n2_ := Aside0.mk (Kd.R_lower (Kd.R_newB (Kd.R_new' (Kd.R_new' (Kd.R_newM (M := fun k_ => (P0_0_ k_ ∨ w.heap.size ≤ k_)) ho47 Z156 (fun k_ h_ => .inr h_)) (Kd.R_lt Z4)) (Kd.R_lt Z7)) (g := gb245) (o := .cells #[.int .i64 a1_0, .int .i64 a1_1] 43 (0, 0)) Z34) (below_size Z121))
       have n3_ := Aside0.mk (blk_below (g := gb244) (o := .cells #[.slice Ao32 l0_0.length co32] 29 (0, 0)) Z33 hb)
       have n4_ := Aside0.mk (blk_below (g := gb245) (o := .cells #[.int .i64 a1_0, .int .i64 a1_1] 43 (0, 0)) Z34 hb)
       have n5_ := Aside0.mk (blk_below (g := gb246) (o := .cells #[.slice none 0 0] 29 (0, 0)) Z35 hb)
       have n6_ := Aside0.mk (Kept.below (S := (fun k_ => P0_0_ k_)) Z139 hb)
       have n7_ := Aside0.mk (below_step Z121 hb)
       clear HO0_0
       clear HO256
       clear BK244
       clear BK245
       clear BK246
       clear HK
       clear HB
       have HO0_0 := n0_
       have HO256 := n1_
       have HO250 := n2_
       have BK244 := n3_
       have BK245 := n4_
       have BK246 := n5_
       have HK := n6_
       have HB := n7_
       clear n0_ n1_ n2_ n3_ n4_ n5_ n6_ n7_
       clear hb ho47
       refine hK.out _ _ ⟨(blk_cell BK244.out 0).trans rfl, (blk_cell BK245.out 0).trans rfl, (blk_cell BK245.out 1).trans rfl⟩ (fun hHeld => ?_)
       clear hK K
       refine norm_ (a' := ?_) ?_ ?_
       rotate_left
       ·show Act.put _ (some 19) _ = _
        simp only [Act.put, List.setIfInBounds_toArray, List.set_cons_zero, List.set_cons_succ, i64_w, i32_w]
        rfl
       refine one_ (i := 3) (N := some 22) #[true, true, true, true, true, true, false, false, false] rfl rfl (one_of HT_.out (by kernel_rfl)) (by decide) (fun K hK => ?_)
       refine Kd.R_append_rows_step k43 (w0 := w0) w0.heap.size (by rfl) (.tmp 19) (.tmp 21) 27 43 (.agg #[(.int .i64 0), (.int .i64 0)]) 16 rfl Tryd.underlying27 info43 rfl (by decide) (by omega) v249 y248 l0_0 _ _ _ (fun k_ => (P0_0_ k_ ∨ w.heap.size ≤ k_) ∧ some k_ ≠ (.slice Ao32 l0_0.length co32 : Value).ownBlock ∧ some k_ ≠ (v255 : Value).ownBlock ∧ k_ ≠ gb245) (fun _ => False) rfl rfl ?aO ?aR (fun _ _ h => h) (fun _ h => h.elim) ?aF ?aB ?aS ?aL ?_
       (case aR => exact Z83)
       (case aB => exact Z121)
       (case aF => exact (fun k_ hk => ⟨(.inr (Nat.le_trans Z156 hk)), Kd.fresh' (Kd.R_lt Z4) k_ hk, Kd.fresh' (Kd.R_lt Z7) k_ hk, Kd.freshB (g := gb245) (o := .cells #[.int .i64 a1_0, .int .i64 a1_1] 43 (0, 0)) Z34 k_ hk⟩))
       (case aO => exact (by (with_reducible repeat (first | apply Kd.R_alloc | apply Kd.R_drewN | apply Kd.R_drew)); exact Kd.R_mono HO250.out (fun _ hk => ⟨hk.1.1.1.1, ⟨hk.1.1.2, ⟨hk.1.2, hk.2⟩⟩⟩)))
       (case aS => exact (below_size Z121))
       (case aL => have := LMc30.out; omega)
       intro v252 w48 ho hb hg hat
       rw [← Ny251.out] at ho
       have n0_ := Aside0.mk (Kd.R_after (ok := (fun k_ => (P0_0_ k_ ∨ w.heap.size ≤ k_) ∧ some k_ ≠ (v255 : Value).ownBlock ∧ k_ ≠ gb245)) (by (with_reducible repeat (first | apply Kd.R_alloc | apply Kd.R_drewN | apply Kd.R_drew)); exact Kd.R_mono HO0_0.out (fun _ hk => ⟨⟨hk.1.1.1, ⟨hk.1.2, hk.1.1.2⟩⟩, hk.2⟩)) hg hat)
       have n1_ := Aside0.mk (blk_grown (g := gb244) (o := .cells #[.slice Ao32 l0_0.length co32] 29 (0, 0)) Z33 hg (Kd.R_ne HO250.out BK244.out (by decide)))
       have n2_ := Aside0.mk (blk_grown (g := gb245) (o := .cells #[.int .i64 a1_0, .int .i64 a1_1] 43 (0, 0)) Z34 hg (Kd.R_away HO250.out (fun _ hk => hk.2)))
       have n3_ := Aside0.mk (blk_grown (g := gb246) (o := .cells #[.slice none 0 0] 29 (0, 0)) Z35 hg (Kd.R_ne HO250.out BK246.out (by decide)))
       have n4_ := Aside0.mk (Kd.R_after (ok := (fun k_ => (P0_0_ k_ ∨ w.heap.size ≤ k_) ∧ some k_ ≠ (.slice Ao32 l0_0.length co32 : Value).ownBlock ∧ k_ ≠ gb245)) (by (with_reducible repeat (first | apply Kd.R_alloc | apply Kd.R_drewN | apply Kd.R_drew)); exact Kd.R_mono HO256.out (fun _ hk => ⟨⟨hk.1.1.1.1, ⟨hk.1.1.2, hk.1.2⟩⟩, hk.2⟩)) hg hat)
       have n5_ := Aside0.mk (hb)
       have n6_ := Aside0.mk (Kept.of_grown (S := (fun k_ => P0_0_ k_)) hg Z139 (fun k_ e_ => (HO250.out.1 k_ e_).1.1.1.1))
       have n7_ := Aside0.mk (ho)
       clear HO0_0
       clear BK244
       clear BK245
       clear BK246
       clear HO256
       clear HB
       clear HK
       clear HO250
       have HO0_0 := n0_
       have BK244 := n1_
       have BK245 := n2_
       have BK246 := n3_
       have HO256 := n4_
       have HB := n5_
       have HK := n6_
       have HO253 := n7_
       clear n0_ n1_ n2_ n3_ n4_ n5_ n6_ n7_
       clear ho hb hg hat
       refine hK.out _ _ ⟨(blk_cell BK244.out 0).trans rfl, (blk_cell BK245.out 0).trans rfl, (blk_cell BK245.out 1).trans rfl⟩ (fun hHeld => ?_)
       clear hK K
       refine norm_ (a' := ?_) ?_ ?_
       rotate_left
       ·show Act.put _ (some 22) _ = _
        simp only [Act.put, List.setIfInBounds_toArray, List.set_cons_zero, List.set_cons_succ, i64_w, i32_w]
        rfl
       exact norm_ Z2 (hCont (v249, v252, v255) _ ⟨hHeld, Z79, Z5, Z80, Z33, Z34, Z35, Z139, Z121⟩)
     rintro ⟨v249, v252, v255⟩ w49 ⟨hS_, h0_, h1_, h2_, h3_, h4_, h5_, h6_, h7_⟩
     have n0_ : Aside0 (Kd.R k43 43 w49 w0.heap.size (fun k_ => (P0_0_ k_ ∨ w.heap.size ≤ k_) ∧ some k_ ≠ (v252 : Value).ownBlock ∧ some k_ ≠ (v255 : Value).ownBlock ∧ k_ ≠ gb245) (.slice Ao32 l0_0.length co32) l0_0) := ⟨h0_⟩
     have n1_ : Aside0 (Kd.R k43 43 w49 w0.heap.size (fun k_ => (P0_0_ k_ ∨ w.heap.size ≤ k_) ∧ some k_ ≠ (.slice Ao32 l0_0.length co32 : Value).ownBlock ∧ some k_ ≠ (v255 : Value).ownBlock ∧ k_ ≠ gb245) v252 y251) := ⟨h1_⟩
     have n2_ : Aside0 (Kd.R k43 43 w49 w0.heap.size (fun k_ => (P0_0_ k_ ∨ w.heap.size ≤ k_) ∧ some k_ ≠ (.slice Ao32 l0_0.length co32 : Value).ownBlock ∧ some k_ ≠ (v252 : Value).ownBlock ∧ k_ ≠ gb245) v255 y254) := ⟨h2_⟩
     have n3_ : Aside0 (w49.heap[gb244]? = some (.cells #[.slice Ao32 l0_0.length co32] 29 (0, 0))) := ⟨h3_⟩
     have n4_ : Aside0 (w49.heap[gb245]? = some (.cells #[.int .i64 a1_0, .int .i64 a1_1] 43 (0, 0))) := ⟨h4_⟩
     have n5_ : Aside0 (w49.heap[gb246]? = some (.cells #[.slice none 0 0] 29 (0, 0))) := ⟨h5_⟩
     have n6_ : Aside0 (Kept w w49 (fun k_ => P0_0_ k_)) := ⟨h6_⟩
     have n7_ : Aside0 (Below w0.heap.size w0 w49) := ⟨h7_⟩
     clear HO0_0
     clear BK244
     clear BK245
     clear BK246
     clear HK
     clear HB
     clear h0_ h1_ h2_ h3_ h4_ h5_ h6_ h7_
     have HO0_0 := n0_
     have HO253 := n1_
     have HO256 := n2_
     have BK244 := n3_
     have BK245 := n4_
     have BK246 := n5_
     have HK := n6_
     have HB := n7_
     clear n0_ n1_ n2_ n3_ n4_ n5_ n6_ n7_
     have hHeld : w49.cell? ⟨gb244, 0, none⟩ = some (.slice Ao32 l0_0.length co32) ∧ w49.cell? ⟨gb245, 0, none⟩ = some (.int .i64 a1_0) ∧ w49.cell? ⟨gb245, 1, none⟩ = some (.int .i64 a1_1) := hS_
     obtain ⟨Ao51, co51, eo51⟩ := Kd.R_slice HO256.out
     (first | subst eo51 | (injection eo51 with f1_ f2_ f3_; have f4_ := f1_.symm; have f5_ := f3_.symm; clear f1_ f2_ f3_; subst f4_; subst f5_))
     refine norm_ (a' := ?_) ?_ ?_
     rotate_left
     ·simp only [putAll, Act.put, List.setIfInBounds_toArray, List.set_cons_zero, List.set_cons_succ]
      rfl
     refine one_ (i := 6) (N := some 25) #[true, true, true, true, true, true, true, false, false] rfl rfl (one_of HT_.out (by kernel_rfl)) (by decide) (fun K hK => ?_)
     refine Kd.R_append_rows_step k43 (w0 := w0) w0.heap.size (by rfl) (.tmp 22) (.tmp 24) 27 43 (.agg #[(.int .i64 0), (.int .i64 0)]) 16 rfl Tryd.underlying27 info43 rfl (by decide) (by omega) v252 y251 y254 _ _ _ (fun k_ => (P0_0_ k_ ∨ w.heap.size ≤ k_) ∧ some k_ ≠ (.slice Ao32 l0_0.length co32 : Value).ownBlock ∧ some k_ ≠ (.slice Ao51 y254.length co51 : Value).ownBlock ∧ k_ ≠ gb245) (fun _ => False) rfl rfl ?aO ?aR (fun _ _ h => h) (fun _ h => h.elim) ?aF ?aB ?aS ?aL ?_
     (case aR => repeat (first | exact (Kd.R_reads' HO256.out).2.2 | (with_reducible refine Kd.C_alloc ?_ _) | (with_reducible refine Kd.C_drewN ?_ _) | (with_reducible refine Kd.C_drew ?_)))
     (case aB => exact Z121)
     (case aF => exact (fun k_ hk => ⟨(.inr (Nat.le_trans Z156 hk)), Kd.fresh' (Kd.R_lt Z4) k_ hk, Kd.fresh' (Kd.R_lt Z7) k_ hk, Kd.freshB (g := gb245) (o := .cells #[.int .i64 a1_0, .int .i64 a1_1] 43 (0, 0)) Z34 k_ hk⟩))
     (case aO => exact Z5)
     (case aS => exact (below_size Z121))
     (case aL => have := LMc31.out; omega)
     intro v258 w50 ho hb hg hat
     rw [← Ny257.out] at ho
     have n0_ := Aside0.mk (Kd.R_after (ok := (fun k_ => (P0_0_ k_ ∨ w.heap.size ≤ k_) ∧ some k_ ≠ (.slice Ao51 y254.length co51 : Value).ownBlock ∧ k_ ≠ gb245)) (by (with_reducible repeat (first | apply Kd.R_alloc | apply Kd.R_drewN | apply Kd.R_drew)); exact Kd.R_mono HO0_0.out (fun _ hk => ⟨⟨hk.1, ⟨hk.2.2.1, hk.2.2.2⟩⟩, hk.2.1⟩)) hg hat)
     have n1_ := Aside0.mk (blk_grown (g := gb244) (o := .cells #[.slice Ao32 l0_0.length co32] 29 (0, 0)) Z33 hg (Kd.R_ne HO253.out BK244.out (by decide)))
     have n2_ := Aside0.mk (blk_grown (g := gb245) (o := .cells #[.int .i64 a1_0, .int .i64 a1_1] 43 (0, 0)) Z34 hg (Kd.R_away HO253.out (fun _ hk => hk.2.2.2)))
     have n3_ := Aside0.mk (blk_grown (g := gb246) (o := .cells #[.slice none 0 0] 29 (0, 0)) Z35 hg (Kd.R_ne HO253.out BK246.out (by decide)))
     have n4_ := Aside0.mk (Kd.R_after (ok := (fun k_ => (P0_0_ k_ ∨ w.heap.size ≤ k_) ∧ some k_ ≠ (.slice Ao32 l0_0.length co32 : Value).ownBlock ∧ k_ ≠ gb245)) (by (with_reducible repeat (first | apply Kd.R_alloc | apply Kd.R_drewN | apply Kd.R_drew)); exact Kd.R_mono HO256.out (fun _ hk => ⟨⟨hk.1, ⟨hk.2.1, hk.2.2.2⟩⟩, hk.2.2.1⟩)) hg hat)
     have n5_ := Aside0.mk (hb)
     have n6_ := Aside0.mk (Kept.of_grown (S := (fun k_ => P0_0_ k_)) hg Z139 (fun k_ e_ => (HO253.out.1 k_ e_).1))
     have n7_ := Aside0.mk (ho)
     clear HO0_0
     clear BK244
     clear BK245
     clear BK246
     clear HO256
     clear HB
     clear HK
     clear HO253
     have HO0_0 := n0_
     have BK244 := n1_
     have BK245 := n2_
     have BK246 := n3_
     have HO256 := n4_
     have HB := n5_
     have HK := n6_
     have HO259 := n7_
     clear n0_ n1_ n2_ n3_ n4_ n5_ n6_ n7_
     clear ho hb hg hat
     obtain ⟨Ao52, co52, eo52⟩ := Kd.R_slice HO259.out
     (first | subst eo52 | (injection eo52 with f1_ f2_ f3_; have f4_ := f1_.symm; have f5_ := f3_.symm; clear f1_ f2_ f3_; subst f4_; subst f5_))
     refine hK.out _ _ ⟨(blk_cell BK244.out 0).trans rfl, (blk_cell BK245.out 0).trans rfl, (blk_cell BK245.out 1).trans rfl⟩ (fun hHeld => ?_)
     clear hK K
     refine norm_ (a' := ?_) ?_ ?_
     rotate_left
     ·show Act.put _ (some 25) _ = _
      simp only [Act.put, List.setIfInBounds_toArray, List.set_cons_zero, List.set_cons_succ, i64_w, i32_w]
      rfl
     refine pure_ (i := 7) (N := some 26) (v := ?_) (a' := ?_) #[true, true, true, true, true, true, true, true, false] rfl rfl (any_of HT_.out (by kernel_rfl)) (fun _ _ _ h => h) (Or.inl ⟨by rfl, ?_⟩) ?_ ?_
     rotate_left
     ·intro w'
      go_simp
      with_reducible rfl
     rotate_left
     ·simp only [Act.put, List.setIfInBounds_toArray, List.set_cons_zero, List.set_cons_succ, i64_w, i32_w]
      rfl
     refine last_ (i := 8) (N := none) #[true, true, true, true, true, true, true, true, true] rfl rfl (one_of HT_.out (by kernel_rfl)) (by decide) (fun K hK => ?_)
     have hs53 : w50.cell? ⟨gb244, 0, none⟩ = some (.slice Ao32 l0_0.length co32) := (blk_cell BK244.out 0).trans rfl
     have hfs53 := blk_frozen BK244.out 0
     have hns53_1 := NB245_244.out
     have hns53_2 := NB246_244.out
     have hms53_1 := NB244_245.out
     have hms53_2 := NB244_246.out
     refine skip_ (w1 := ?_) (by rfl) rfl ?_ ?_
     rotate_left
     ·go_simp
      rfl
     refine hK.out _ _ ?_
     clear hK K
     refine done_ (done_of HT_.out (by kernel_rfl)) ?_
     try go_wp2
     have n0_ : Aside0 (Kd.R k43 43 (w50.setCell ⟨gb244, 0, none⟩ (.slice Ao52 y257.length co52)) w0.heap.size (fun k_ => (P0_0_ k_ ∨ w.heap.size ≤ k_) ∧ some k_ ≠ (.slice Ao51 y254.length co51 : Value).ownBlock ∧ some k_ ≠ (.slice Ao52 y257.length co52 : Value).ownBlock ∧ k_ ≠ gb245) (.slice Ao32 l0_0.length co32) l0_0) := ⟨by (with_reducible repeat (first | apply Kd.R_alloc | apply Kd.R_drewN | apply Kd.R_drew)); exact Kd.R_mono (Kd.R_far (p := ⟨gb244, 0, none⟩) (Kd.R_types HO0_0.out BK244.out (by decide)) (fun _ hk => hk.2) (.slice Ao52 y257.length co52)) (fun _ hk => ⟨hk.1.1.1, ⟨hk.1.1.2.1, ⟨hk.1.2, hk.1.1.2.2⟩⟩⟩)⟩
     have n1_ : Aside0 (Kd.R k43 43 (w50.setCell ⟨gb244, 0, none⟩ (.slice Ao52 y257.length co52)) w0.heap.size (fun k_ => (P0_0_ k_ ∨ w.heap.size ≤ k_) ∧ some k_ ≠ (.slice Ao32 l0_0.length co32 : Value).ownBlock ∧ some k_ ≠ (.slice Ao52 y257.length co52 : Value).ownBlock ∧ k_ ≠ gb245) (.slice Ao51 y254.length co51) y254) := ⟨by (with_reducible repeat (first | apply Kd.R_alloc | apply Kd.R_drewN | apply Kd.R_drew)); exact Kd.R_mono (Kd.R_far (p := ⟨gb244, 0, none⟩) (Kd.R_types HO256.out BK244.out (by decide)) (fun _ hk => hk.2) (.slice Ao52 y257.length co52)) (fun _ hk => ⟨hk.1.1.1, ⟨hk.1.1.2.1, ⟨hk.1.2, hk.1.1.2.2⟩⟩⟩)⟩
     have n2_ : Aside0 (Kd.R k43 43 (w50.setCell ⟨gb244, 0, none⟩ (.slice Ao52 y257.length co52)) w0.heap.size (fun k_ => (P0_0_ k_ ∨ w.heap.size ≤ k_) ∧ some k_ ≠ (.slice Ao32 l0_0.length co32 : Value).ownBlock ∧ some k_ ≠ (.slice Ao51 y254.length co51 : Value).ownBlock ∧ k_ ≠ gb245) (.slice Ao52 y257.length co52) y257) := ⟨by (with_reducible repeat (first | apply Kd.R_alloc | apply Kd.R_drewN | apply Kd.R_drew)); exact Kd.R_mono (Kd.R_far (p := ⟨gb244, 0, none⟩) (Kd.R_types HO259.out BK244.out (by decide)) (fun _ hk => hk.2) (.slice Ao52 y257.length co52)) (fun _ hk => ⟨hk.1.1, ⟨hk.1.2.1, ⟨hk.1.2.2.1, hk.1.2.2.2⟩⟩⟩)⟩
     have n3_ : Aside0 ((w50.setCell ⟨gb244, 0, none⟩ (.slice Ao52 y257.length co52)).heap[gb244]? = some (.cells #[.slice Ao52 y257.length co52] 29 (0, 0))) := ⟨by (with_reducible repeat (first | refine blk_drewN ?_ _ | refine blk_drew ?_ | refine blk_alloc ?_ _)); refine blk_put (cs := #[.slice Ao32 l0_0.length co32]) ?_ 0 _ rfl; (with_reducible repeat (first | refine blk_drewN ?_ _ | refine blk_drew ?_ | refine blk_alloc ?_ _)); exact BK244.out⟩
     have n4_ : Aside0 ((w50.setCell ⟨gb244, 0, none⟩ (.slice Ao52 y257.length co52)).heap[gb245]? = some (.cells #[.int .i64 a1_0, .int .i64 a1_1] 43 (0, 0))) := ⟨by (with_reducible repeat (first | refine blk_drewN ?_ _ | refine blk_drew ?_ | refine blk_alloc ?_ _)); refine blk_far ?_ NB245_244.out _; (with_reducible repeat (first | refine blk_drewN ?_ _ | refine blk_drew ?_ | refine blk_alloc ?_ _)); exact BK245.out⟩
     have n5_ : Aside0 ((w50.setCell ⟨gb244, 0, none⟩ (.slice Ao52 y257.length co52)).heap[gb246]? = some (.cells #[.slice none 0 0] 29 (0, 0))) := ⟨by (with_reducible repeat (first | refine blk_drewN ?_ _ | refine blk_drew ?_ | refine blk_alloc ?_ _)); refine blk_far ?_ NB246_244.out _; (with_reducible repeat (first | refine blk_drewN ?_ _ | refine blk_drew ?_ | refine blk_alloc ?_ _)); exact BK246.out⟩
     have n6_ : Aside0 (Kept w (w50.setCell ⟨gb244, 0, none⟩ (.slice Ao52 y257.length co52)) (fun k_ => P0_0_ k_)) := ⟨by repeat (first | (with_reducible first | exact HK.out | apply Kept.alloc | apply Kept.drewN | apply Kept.drew | refine Kept.setCell ?_ (.inr GW244.out) _ | refine Kept.setCell ?_ (.inr GW245.out) _ | refine Kept.setCell ?_ (.inr GW246.out) _) | exact HK.out)⟩
     have n7_ : Aside0 (Below w0.heap.size w0 (w50.setCell ⟨gb244, 0, none⟩ (.slice Ao52 y257.length co52))) := ⟨by repeat (first | (with_reducible first | exact HB.out | apply below_alloc | apply pw_below_drewN | apply below_drew1 | refine below_set ?_ GE244.out | refine below_set ?_ GE245.out | refine below_set ?_ GE246.out) | exact HB.out)⟩
     (try clear HO0_0)
     (try clear HO256)
     (try clear HO259)
     (try clear BK244)
     (try clear BK245)
     (try clear BK246)
     (try clear HK)
     (try clear HB)
     generalize (w50.setCell ⟨gb244, 0, none⟩ (.slice Ao52 y257.length co52)) = w54 at n0_ n1_ n2_ n3_ n4_ n5_ n6_ n7_ ⊢
     have HO0_0 := n0_
     have HO256 := n1_
     have HO259 := n2_
     have BK244 := n3_
     have BK245 := n4_
     have BK246 := n5_
     have HK := n6_
     have HB := n7_
     clear n0_ n1_ n2_ n3_ n4_ n5_ n6_ n7_
     have n0_ := Aside0.mk (Kd.R_drew HO0_0.out)
     have n1_ := Aside0.mk (Kd.R_drew HO256.out)
     have n2_ := Aside0.mk (Kd.R_drew HO259.out)
     have n3_ := Aside0.mk (blk_drew BK244.out)
     have n4_ := Aside0.mk (blk_drew BK245.out)
     have n5_ := Aside0.mk (blk_drew BK246.out)
     have n6_ := Aside0.mk (Kept.drew HK.out)
     have n7_ := Aside0.mk (below_drew1 HB.out)
     clear HO0_0
     clear HO256
     clear HO259
     clear BK244
     clear BK245
     clear BK246
     clear HK
     clear HB
     have HO0_0 := n0_
     have HO256 := n1_
     have HO259 := n2_
     have BK244 := n3_
     have BK245 := n4_
     have BK246 := n5_
     have HK := n6_
     have HB := n7_
     clear n0_ n1_ n2_ n3_ n4_ n5_ n6_ n7_
     refine start_ (n := 8) (S := fun w' => w'.cell? ⟨gb244, 0, none⟩ = some (.slice Ao52 y257.length co52)) (ds := []) #[false, false, false, false, false, false, false, false] (by kernel_rfl) rfl rfl ((blk_cell BK244.out 0).trans rfl) (fun hHeld => ?_); refine with_tabW spec_l3Put.tab7 spec_l3Put.bits7 (fun HT_ HW_ => ?_)
     generalize w54.drew = w55 at HO0_0 HO256 HO259 BK244 BK245 BK246 HK HB hHeld ⊢
     refine pure_ (i := 1) (N := some 28) (v := ?_) (a' := ?_) #[false, true, false, false, false, false, false, false] rfl rfl (any_of HT_.out (by kernel_rfl)) (fun _ _ _ h => h) (Or.inl ⟨by rfl, ?_⟩) ?_ ?_
     rotate_left
     ·intro w'
      go_simp
      with_reducible rfl
     rotate_left
     ·simp only [Act.put, List.setIfInBounds_toArray, List.set_cons_zero, List.set_cons_succ, i64_w, i32_w]
      rfl
     refine take_ (i := 0) (N := some 27) (v := ?_) (a' := ?_) #[true, true, false, false, false, false, false, false] rfl rfl (take_ofW HT_.out HW_.out (by kernel_rfl)) (fun _ _ _ h => h) (Or.inl ⟨by rfl, ?_⟩) hHeld ?_ ?_
     rotate_left
     ·intro w' s0
      go_simp
      with_reducible rfl
     rotate_left
     ·simp only [Act.put, List.setIfInBounds_toArray, List.set_cons_zero, List.set_cons_succ, i64_w, i32_w]
      rfl
     refine take_ (i := 2) (N := some 29) (v := ?_) (a' := ?_) #[true, true, true, false, false, false, false, false] rfl rfl (take_ofW HT_.out HW_.out (by kernel_rfl)) (fun _ _ _ h => h) (Or.inl ⟨by rfl, ?_⟩) hHeld ?_ ?_
     rotate_left
     ·intro w' s0
      go_simp
      with_reducible rfl
     rotate_left
     ·simp only [Act.put, List.setIfInBounds_toArray, List.set_cons_zero, List.set_cons_succ, i64_w, i32_w]
      rfl
     refine pure_ (i := 3) (N := some 30) (v := ?_) (a' := ?_) #[true, true, true, true, false, false, false, false] rfl rfl (any_of HT_.out (by kernel_rfl)) (fun _ _ _ h => h) (Or.inl ⟨by rfl, ?_⟩) ?_ ?_
     rotate_left
     ·intro w'
      go_simp
      with_reducible rfl
     rotate_left
     ·simp only [Act.put, List.setIfInBounds_toArray, List.set_cons_zero, List.set_cons_succ, i64_w, i32_w]
      rfl
     refine pure_ (i := 4) (N := some 31) (v := ?_) (a' := ?_) #[true, true, true, true, true, false, false, false] rfl rfl (any_of HT_.out (by kernel_rfl)) (fun _ _ _ h => h) (Or.inl ⟨by rfl, ?_⟩) ?_ ?_
     rotate_left
     ·intro w'
      go_simp
      with_reducible rfl
     rotate_left
     ·simp only [Act.put, List.setIfInBounds_toArray, List.set_cons_zero, List.set_cons_succ, i64_w, i32_w]
      rfl
     refine pure_ (i := 5) (N := some 32) (v := ?_) (a' := ?_) #[true, true, true, true, true, true, false, false] rfl rfl (any_of HT_.out (by kernel_rfl)) (fun _ _ _ h => h) (Or.inl ⟨by rfl, ?_⟩) ?_ ?_
     rotate_left
     ·intro w'
      go_simp
      with_reducible rfl
     rotate_left
     ·simp only [Act.put, List.setIfInBounds_toArray, List.set_cons_zero, List.set_cons_succ, i64_w, i32_w]
      rfl
     refine one_ (i := 6) (N := none) #[true, true, true, true, true, true, true, false] rfl rfl (one_of HT_.out (by kernel_rfl)) (by decide) (fun K hK => ?_)
     have hs56 : w55.cell? ⟨gb246, 0, none⟩ = some (.slice none 0 0) := (blk_cell BK246.out 0).trans rfl
     have hfs56 := blk_frozen BK246.out 0
     have hns56_0 := NB244_246.out
     have hns56_1 := NB245_246.out
     have hms56_0 := NB246_244.out
     have hms56_1 := NB246_245.out
     refine skip_ (w1 := ?_) (by rfl) rfl ?_ ?_
     rotate_left
     ·go_simp
      rfl
     refine hK.out _ _ (((cell_far (p := ⟨gb246, _, none⟩) NB244_246.out _).trans (hHeld))) (fun hHeld => ?_)
     clear hK K
     refine pure_ (i := 7) (N := some 5) (v := ?_) (a' := ?_) #[true, true, true, true, true, true, true, true] rfl rfl (any_of HT_.out (by kernel_rfl)) (fun _ _ _ h => h) (Or.inl ⟨by rfl, ?_⟩) ?_ ?_
     rotate_left
     ·intro w'
      go_simp
      with_reducible rfl
     rotate_left
     ·simp only [Act.put, List.setIfInBounds_toArray, List.set_cons_zero, List.set_cons_succ, i64_w, i32_w]
      rfl
     refine done_ (done_of HT_.out (by kernel_rfl)) ?_
     try go_wp2
     refine bodyPost_ret (results_ct rfl _ _ gb246 29 #[.slice Ao52 y257.length co52] (0, 0) _ rfl Z144 Tryd.underlying29 rfl (by kernel_rfl)) rfl ?_
     exact ⟨_, by first | rfl | (simp [errW_none, errW_some] <;> rfl) | (simp [*, errW_none, errW_some] <;> rfl), by (with_reducible repeat (first | apply Kd.R_alloc | apply Kd.R_drewN | apply Kd.R_drew)); exact Kd.R_mono (Kd.R_far (p := ⟨gb246, 0, none⟩) (Kd.R_types HO259.out BK246.out (by decide)) (fun _ hk => hk.2) (.slice Ao52 y257.length co52)) (fun _ hk => hk.1.1), by repeat (first | (with_reducible first | exact HB.out | apply below_alloc | apply pw_below_drewN | apply below_drew1 | refine below_set ?_ GE244.out | refine below_set ?_ GE245.out | refine below_set ?_ GE246.out) | exact HB.out), by repeat (first | (with_reducible first | exact HK.out | apply Kept.alloc | apply Kept.drewN | apply Kept.drew | refine Kept.setCell ?_ (.inr GW244.out) _ | refine Kept.setCell ?_ (.inr GW245.out) _ | refine Kept.setCell ?_ (.inr GW246.out) _) | exact HK.out)⟩
    ·rw [if_neg c31] at H
     exact absurd H (by simp)
   ·rw [if_neg c30] at H
    exact absurd H (by simp)

/-! ### spec_l3Copy: function 90 -/
def spec_l3Copy.f (l0_0 : List (S43)) : Option ((List (S43))) := (some (([] : List (S43)) : List (S43))).bind fun y262 => (if y262.length + l0_0.length < 8796093022208 then (some (y262 ++ l0_0)) else (none))
set_option maxHeartbeats 8000000 in
set_option maxRecDepth 100000 in
theorem spec_l3Copy.calls (A0_0 : Option Addr) (c0_0 : Nat) (l0_0 : List (S43)) (r : List (S43)) (w : World) (hr0_0 : Kd.C k43 w A0_0 l0_0.length l0_0) (hc0_0 : l0_0.length ≤ c0_0) (h : spec_l3Copy.f l0_0 = some r) :
  Calls Tryd.prog 90 #[.agg #[.slice A0_0 l0_0.length c0_0]] w fun e w' => ∃ v0_ : Value, e = .returned (.agg #[v0_]) ∧ Kd.R k43 43 w' w.heap.size (fun _ => True) v0_ r ∧ Below w.heap.size w w' := by
 have hu29 := Tryd.underlying29
 have HR0_0 := Aside0.mk hr0_0
 have HC0_0 := Aside0.mk hc0_0
 clear hr0_0 hc0_0
 have HB := Aside0.mk (Below.refl w.heap.size w)
 have H : ((some (([] : List (S43)) : List (S43))).bind fun y262 => (if y262.length + l0_0.length < 8796093022208 then (some (y262 ++ l0_0)) else (none))) = some r := h
 clear h
 obtain ⟨y262, hy262⟩ : ∃ y_ : List (S43), y_ = (([] : List (S43))) := ⟨_, rfl⟩
 replace H : (if y262.length + l0_0.length < 8796093022208 then (some (y262 ++ l0_0)) else (none)) = some r := by first | (rw [hy262]; with_reducible exact H) | (have H2_ := (Option.bind_some _ _).symm.trans H; rw [hy262]; with_reducible exact H2_) | (have H2_ := (Option.bind_some _ _).symm.trans H; with_reducible exact H2_) | with_reducible exact H | (rw [hy262]; exact H) | exact H
 have Ny262 := Aside0.mk hy262
 clear hy262
 by_cases c2 : y262.length + l0_0.length < 8796093022208
 ·rw [if_pos c2] at H
  have LMc2 := Aside0.mk c2
  clear c2
  obtain ⟨y265, hy265⟩ : ∃ y_ : List (S43), y_ = (y262 ++ l0_0) := ⟨_, rfl⟩
  replace H : (some y265) = some r := by first | (rw [hy265]; with_reducible exact H) | (have H2_ := (Option.bind_some _ _).symm.trans H; rw [hy265]; with_reducible exact H2_) | (have H2_ := (Option.bind_some _ _).symm.trans H; with_reducible exact H2_) | with_reducible exact H | (rw [hy265]; exact H) | exact H
  have Ny265 := Aside0.mk hy265
  clear hy265
  obtain rfl := Option.some.inj H
  go_enter Tryd.func90, Tryd.ntmps90
  go_wp2_with (first | ((with_reducible refine gate_dst (N := 1) rfl ?_); refine box_event ?hg (N := 1) ?hd (cs := #[.slice A0_0 l0_0.length c0_0]) (t := 29) ?hr ?_; (case hd => rfl); (case hg => rfl); (case hr => first | (go_simp; done) | (go_simp; rfl)); intro gb260 hg w3 hbox hb; have n0_ := Aside0.mk (below_step Z52 hb); have n1_ := Aside0.mk (hbox); have n2_ := Aside0.mk ((Z161 : w.heap.size ≤ gb260)); have n3_ := Aside0.mk ((Z161 : w.heap.size ≤ gb260)); clear HB; have HB := n0_; have BK260 := n1_; have GW260 := n2_; have GE260 := n3_; clear n0_ n1_ n2_ n3_; clear hb hbox hg) | ((with_reducible refine gate_dst (N := 2) rfl ?_); refine box_event ?hg (N := 2) ?hd (cs := #[.slice none 0 0]) (t := 29) ?hr ?_; (case hd => rfl); (case hg => rfl); (case hr => first | (go_simp; done) | (go_simp; rfl)); intro gb261 hg w4 hbox hb; have n0_ := Aside0.mk (blk_below (g := gb260) (o := .cells #[.slice A0_0 l0_0.length c0_0] 29 (0, 0)) Z36 hb); have n1_ := Aside0.mk (below_step Z76 hb); have n2_ := Aside0.mk (hbox); have n3_ := Aside0.mk ((by rw [hg]; exact (below_size Z76) : w.heap.size ≤ gb261)); have n4_ := Aside0.mk ((by rw [hg]; exact (below_size Z76) : w.heap.size ≤ gb261)); have n5_ := Aside0.mk ((by rw [hg]; exact Nat.ne_of_lt (blk_lt (g := gb260) (o := .cells #[.slice A0_0 l0_0.length c0_0] 29 (0, 0)) Z36) : gb260 ≠ gb261)); have n6_ := Aside0.mk ((by rw [hg]; exact Nat.ne_of_gt (blk_lt (g := gb260) (o := .cells #[.slice A0_0 l0_0.length c0_0] 29 (0, 0)) Z36) : gb261 ≠ gb260)); clear BK260; clear HB; have BK260 := n0_; have HB := n1_; have BK261 := n2_; have GW261 := n3_; have GE261 := n4_; have NB260_261 := n5_; have NB261_260 := n6_; clear n0_ n1_ n2_ n3_ n4_ n5_ n6_; clear hb hbox hg) | ((with_reducible refine gate_dst (N := 3) rfl ?_); refine Kd.R_lit k43 _ 43 ?hg (N := 3) ?hd (xs := ([] : List (S43))) (inner := []) (ok := fun _ => True) (okp := fun _ => True) ?hr ?hp (fun _ hk => hk) trivial (Below.refl _ _) (Nat.le_refl _) (by simp) ?_; (case hd => rfl); (case hg => rfl); (case hr => first | (go_simp; done) | (go_simp; rfl)); (case hp => exact (Reps.none _ _)); intro v263 w5 ho6 hb hg_ hnew_; clear hg_ hnew_; (first | rw [← Ny262.out] at ho6 | (simp only [Int.reduceToNat] at ho6; rw [← Ny262.out] at ho6)); have n0_ := Aside0.mk (Kd.R_lower ho6 (below_size Z109)); have n1_ := Aside0.mk (blk_below (g := gb260) (o := .cells #[.slice A0_0 l0_0.length c0_0] 29 (0, 0)) Z36 hb); have n2_ := Aside0.mk (blk_below (g := gb261) (o := .cells #[.slice none 0 0] 29 (0, 0)) Z37 hb); have n3_ := Aside0.mk (below_step Z109 hb); clear BK260; clear BK261; clear HB; have HO264 := n0_; have BK260 := n1_; have BK261 := n2_; have HB := n3_; clear n0_ n1_ n2_ n3_; clear hb ho6; have hnb7 := NB260_261.out; have hnc7 := NB261_260.out; have hcz8_0 : w5.cell? ⟨gb260, 0, none⟩ = some (.slice A0_0 l0_0.length c0_0) := (blk_cell BK260.out 0).trans rfl; have hfz8_0 := blk_frozen BK260.out 0) | ((with_reducible refine gate_builtin (b := .append) (xs := #[.tmp 3, .tmp 5]) rfl ?_); at_builtin; refine Kd.R_append_rows k43 (w0 := w) w.heap.size rfl (.tmp 3) (.tmp 5) 27 43 (.agg #[(.int .i64 0), (.int .i64 0)]) 16 rfl Tryd.underlying27 info43 rfl (by decide) (by omega) v263 y262 l0_0 _ _ _ (fun _ => True) (fun _ => False) rfl rfl ?aO ?aR (fun _ _ h => h) (fun _ h => h.elim) ?aF ?aB ?aS ?aL ?_; (case aR => exact Z89); (case aB => exact Z109); (case aF => exact (fun _ _ => trivial)); (case aO => exact (by (with_reducible repeat (first | apply Kd.R_alloc | apply Kd.R_drewN | apply Kd.R_drew)); exact HO264.out)); (case aS => exact (below_size Z109)); (case aL => have := LMc2.out; omega); intro v266 w9 ho hb hg hat; rw [← Ny265.out] at ho; have n0_ := Aside0.mk (blk_grown (g := gb260) (o := .cells #[.slice A0_0 l0_0.length c0_0] 29 (0, 0)) Z36 hg (Kd.R_ne HO264.out BK260.out (by decide))); have n1_ := Aside0.mk (blk_grown (g := gb261) (o := .cells #[.slice none 0 0] 29 (0, 0)) Z37 hg (Kd.R_ne HO264.out BK261.out (by decide))); have n2_ := Aside0.mk (hb); have n3_ := Aside0.mk (ho); clear BK260; clear BK261; clear HB; clear HO264; have BK260 := n0_; have BK261 := n1_; have HB := n2_; have HO267 := n3_; clear n0_ n1_ n2_ n3_; clear ho hb hg hat; obtain ⟨Ao10, co10, eo10⟩ := Kd.R_slice HO267.out; subst eo10; have hcz11_0 : w9.cell? ⟨gb261, 0, none⟩ = some (.slice none 0 0) := (blk_cell BK261.out 0).trans rfl; have hfz11_0 := blk_frozen BK261.out 0))
  refine bodyPost_ret (results_cell_row rfl _ _ gb261 29 #[.slice Ao10 y265.length co10] (0, 0) _ rfl (by (with_reducible repeat (first | refine blk_drewN ?_ _ | refine blk_drew ?_ | refine blk_alloc ?_ _)); refine blk_put (cs := #[.slice none 0 0]) ?_ 0 _ rfl; (with_reducible repeat (first | refine blk_drewN ?_ _ | refine blk_drew ?_ | refine blk_alloc ?_ _)); exact BK261.out) Tryd.underlying29 rfl (by kernel_rfl)) rfl ?_
  exact ⟨_, by first | rfl | (simp [errW_none, errW_some] <;> rfl) | (simp [*, errW_none, errW_some] <;> rfl), by (with_reducible repeat (first | apply Kd.R_alloc | apply Kd.R_drewN | apply Kd.R_drew)); exact Kd.R_mono (Kd.R_far (p := ⟨gb261, 0, none⟩) (Kd.R_types HO267.out BK261.out (by decide)) (fun _ hk => hk.2) (.slice Ao10 y265.length co10)) (fun _ hk => trivial), by repeat (first | (with_reducible first | exact HB.out | apply below_alloc | apply pw_below_drewN | apply below_drew1 | refine below_set ?_ GE260.out | refine below_set ?_ GE261.out) | exact HB.out)⟩
 ·rw [if_neg c2] at H
  exact absurd H (by simp)

end Go.Proofs.YtlofgoahgnllkaaDoor.QFnBakAgain
