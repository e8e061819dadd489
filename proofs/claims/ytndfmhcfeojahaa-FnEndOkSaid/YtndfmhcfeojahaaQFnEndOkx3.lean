-- Laid by a program of this repo (wip/tools/sprint.py): print.py's functions and walks; the contracts named 'BY HAND' are proved by hand.
import Derived.Test.YtndfmhcfeojahaaQFnEndOkx0
import Derived.Test.YtndfmhcfeojahaaQFnEndOkx1
import Derived.Test.YtndfmhcfeojahaaQFnEndOkx2
namespace Go.Proofs.Ytndfmhcfeojahaa.QFnEndOk
open Go.RowKit Go.Proofs.YtndfmhcfeojahaaW.PrintWords Go.Proofs.YtndfmhcfeojahaaW.PrintLast Go.Proofs.YtndfmhcfeojahaaW.PrintMore
attribute [local go_sem] max2_int min2_int max_two min_two max_three min_three max_four min_four   -- for this text's walks alone
set_option linter.unusedVariables false
set_option linter.unusedSimpArgs false

/-! ### laws_FnEndOk: function 12 -/
def laws_FnEndOk.j0 : Nat → Bool → Bool → Bool → Bool → Int → Int → Option (Bool)
  | 0, _, _, _, _, _, _ => none
  | k + 1, x4, x5, x6, x40, x193000, x193001 => if x40 = true then (some false) else (if x193000 = 50 then (if x193001 ≥ 1 then (if x4 = true then (if (x6 == true) = true then (if x193001 ≤ 999 then (some false) else ((laws_haOk.f k).bind fun t199 => (some t199))) else (some false)) else (if x5 = true then (if (x6 == true) = true then (if x193001 ≤ 999 then (some false) else ((laws_haOk.f k).bind fun t200 => (some t200))) else (some false)) else (if (x6 == (decide (x193001 ≤ 999))) = true then (if x193001 ≤ 999 then ((laws_haOk.f k).bind fun t201 => (some t201)) else ((laws_haOk.f k).bind fun t202 => (some t202))) else (some false)))) else (if x4 = true then (if (x6 == true) = true then ((laws_haOk.f k).bind fun t203 => (some t203)) else (some false)) else (if x5 = true then (if (x6 == true) = true then ((laws_haOk.f k).bind fun t204 => (some t204)) else (some false)) else (if (x6 == false) = true then ((laws_haOk.f k).bind fun t205 => (some t205)) else (some false))))) else (if x4 = true then (if (x6 == true) = true then ((laws_haOk.f k).bind fun t206 => (some t206)) else (some false)) else (if x5 = true then (if (x6 == true) = true then ((laws_haOk.f k).bind fun t207 => (some t207)) else (some false)) else (if (x6 == false) = true then ((laws_haOk.f k).bind fun t208 => (some t208)) else (some false)))))
def laws_FnEndOk.f (k : Nat) (l0 : List Int) : Option (Bool) := if (l0.length : Int) > 1048576 then (some true) else ((spec_DrawEndOk.f k l0).bind fun bt190 => ((impl_EndInside.f bt190.1 bt190.2).bind fun t193 => ((impl_EndOutside.f bt190.1 bt190.2).bind fun t194 => ((impl_EndOk.f bt190.1 bt190.2).bind fun t195 => ((spec_EndInside.f bt190.1 bt190.2).bind fun t196 => (if (t193 != t196) = true then (laws_FnEndOk.j0 k t193 t194 t195 true bt190.1 bt190.2) else ((spec_EndOutside.f bt190.1 bt190.2).bind fun t197 => (if (t194 != t197) = true then (laws_FnEndOk.j0 k t193 t194 t195 true bt190.1 bt190.2) else ((spec_EndOk.f bt190.1 bt190.2).bind fun t198 => (if (t195 != t198) = true then (laws_FnEndOk.j0 k t193 t194 t195 true bt190.1 bt190.2) else (if t193 = true then (laws_FnEndOk.j0 k t193 t194 t195 t194 bt190.1 bt190.2) else (laws_FnEndOk.j0 k t193 t194 t195 false bt190.1 bt190.2))))))))))))
theorem laws_FnEndOk.mono_l : ∀ k, (∀ y0 y1 y2 y3 y4 y5, LeO (laws_FnEndOk.j0 k y0 y1 y2 y3 y4 y5) (laws_FnEndOk.j0 (k + 1) y0 y1 y2 y3 y4 y5))
  | 0 => fun _ _ _ _ _ _ r h => by simp [laws_FnEndOk.j0] at h
  | k + 1 => by
    have ih0 := laws_FnEndOk.mono_l k
    · intro y0 y1 y2 y3 y4 y5
      unfold laws_FnEndOk.j0
      repeat' first
      | (with_reducible exact ih0 _ _ _ _ _ _)
      | (with_reducible exact laws_haOk.mono _)
      | (with_reducible exact spec_DrawEndOk.mono _ _)
      | (with_reducible exact LeO.refl _)
      | (with_reducible exact LeO.none _)
      | (with_reducible refine LeO.ite ?_ ?_)
      | (with_reducible refine LeO.bind ?_ (fun _ => ?_))
      | exact ih0 _ _ _ _ _ _
      | exact laws_haOk.mono _
      | exact spec_DrawEndOk.mono _ _
      | exact LeO.none _
      | refine LeO.ite ?_ ?_
      | refine LeO.bind ?_ (fun _ => ?_)
theorem laws_FnEndOk.mono : ∀ a0 k, LeO (laws_FnEndOk.f k a0) (laws_FnEndOk.f (k + 1) a0) := by
  intro a0 k
  have ih0 := laws_FnEndOk.mono_l k
  unfold laws_FnEndOk.f
  repeat' first
      | (with_reducible exact ih0 _ _ _ _ _ _)
      | (with_reducible exact laws_haOk.mono _)
      | (with_reducible exact spec_DrawEndOk.mono _ _)
      | (with_reducible exact LeO.refl _)
      | (with_reducible exact LeO.none _)
      | (with_reducible refine LeO.ite ?_ ?_)
      | (with_reducible refine LeO.bind ?_ (fun _ => ?_))
      | exact ih0 _ _ _ _ _ _
      | exact laws_haOk.mono _
      | exact spec_DrawEndOk.mono _ _
      | exact LeO.none _
      | refine LeO.ite ?_ ?_
      | refine LeO.bind ?_ (fun _ => ?_)
set_option maxHeartbeats 8000000 in
set_option maxRecDepth 100000 in
theorem laws_FnEndOk.calls (k : Nat) (A0 : Option Addr) (c0 : Nat) (l0 : List Int) (r : Bool) (w : World) (hr0 : Kd.C (Kd.int .u8) w A0 l0.length l0) (hc0 : l0.length ≤ c0) (h : laws_FnEndOk.f k l0 = some r) :
    Calls Try.prog 12 #[.slice A0 l0.length c0] w fun e w' => e = .returned (.bool r) ∧ Below w.heap.size w w' := by
  have hu26 := Try.underlying26
  have HR0 := Aside0.mk hr0
  have HC0 := Aside0.mk hc0
  clear hr0 hc0
  have HB := Aside0.mk (Below.refl w.heap.size w)
  have H : (if (l0.length : Int) > 1048576 then (some true) else ((spec_DrawEndOk.f k l0).bind fun bt190 => ((impl_EndInside.f bt190.1 bt190.2).bind fun t193 => ((impl_EndOutside.f bt190.1 bt190.2).bind fun t194 => ((impl_EndOk.f bt190.1 bt190.2).bind fun t195 => ((spec_EndInside.f bt190.1 bt190.2).bind fun t196 => (if (t193 != t196) = true then (laws_FnEndOk.j0 k t193 t194 t195 true bt190.1 bt190.2) else ((spec_EndOutside.f bt190.1 bt190.2).bind fun t197 => (if (t194 != t197) = true then (laws_FnEndOk.j0 k t193 t194 t195 true bt190.1 bt190.2) else ((spec_EndOk.f bt190.1 bt190.2).bind fun t198 => (if (t195 != t198) = true then (laws_FnEndOk.j0 k t193 t194 t195 true bt190.1 bt190.2) else (if t193 = true then (laws_FnEndOk.j0 k t193 t194 t195 t194 bt190.1 bt190.2) else (laws_FnEndOk.j0 k t193 t194 t195 false bt190.1 bt190.2))))))))))))) = some r := h
  clear h
  by_cases c2 : (l0.length : Int) > 1048576
  · rw [if_pos c2] at H
    have c2b0 : decide (1048576 < (l0.length : Int)) = true := decide_eq_true c2
    have c2b1 : decide (1048576 < l0.length) = true := decide_eq_true (by omega)
    clear c2
    obtain rfl := Option.some.inj H
    go_enter Try.func12, Try.ntmps12
    go_wp2
    go_ret
    exact ⟨by first | rfl | (simp [errW_none, errW_some] <;> rfl) | (simp [*, errW_none, errW_some] <;> rfl), by repeat (first | (with_reducible first | exact HB.out | apply below_alloc | apply pw_below_drewN | apply below_drew1) | exact HB.out)⟩
  · rw [if_neg c2] at H
    have c2b0 : decide (1048576 < (l0.length : Int)) = false := decide_eq_false c2
    have c2b1 : decide (1048576 < l0.length) = false := decide_eq_false (by omega)
    clear c2
    replace H := Option.bind_eq_some_iff.mp H
    obtain ⟨⟨t190, t191⟩, A30, H⟩ := H
    replace H : ((impl_EndInside.f t190 t191).bind fun t193 => ((impl_EndOutside.f t190 t191).bind fun t194 => ((impl_EndOk.f t190 t191).bind fun t195 => ((spec_EndInside.f t190 t191).bind fun t196 => (if (t193 != t196) = true then (laws_FnEndOk.j0 k t193 t194 t195 true t190 t191) else ((spec_EndOutside.f t190 t191).bind fun t197 => (if (t194 != t197) = true then (laws_FnEndOk.j0 k t193 t194 t195 true t190 t191) else ((spec_EndOk.f t190 t191).bind fun t198 => (if (t195 != t198) = true then (laws_FnEndOk.j0 k t193 t194 t195 true t190 t191) else (if t193 = true then (laws_FnEndOk.j0 k t193 t194 t195 t194 t190 t191) else (laws_FnEndOk.j0 k t193 t194 t195 false t190 t191))))))))))) = some r := H
    have A3 := Aside0.mk A30
    clear A30
    replace H := Option.bind_eq_some_iff.mp H
    obtain ⟨t193, A40, H⟩ := H
    replace H : ((impl_EndOutside.f t190 t191).bind fun t194 => ((impl_EndOk.f t190 t191).bind fun t195 => ((spec_EndInside.f t190 t191).bind fun t196 => (if (t193 != t196) = true then (laws_FnEndOk.j0 k t193 t194 t195 true t190 t191) else ((spec_EndOutside.f t190 t191).bind fun t197 => (if (t194 != t197) = true then (laws_FnEndOk.j0 k t193 t194 t195 true t190 t191) else ((spec_EndOk.f t190 t191).bind fun t198 => (if (t195 != t198) = true then (laws_FnEndOk.j0 k t193 t194 t195 true t190 t191) else (if t193 = true then (laws_FnEndOk.j0 k t193 t194 t195 t194 t190 t191) else (laws_FnEndOk.j0 k t193 t194 t195 false t190 t191)))))))))) = some r := H
    have A4 := Aside0.mk A40
    clear A40
    replace H := Option.bind_eq_some_iff.mp H
    obtain ⟨t194, A50, H⟩ := H
    replace H : ((impl_EndOk.f t190 t191).bind fun t195 => ((spec_EndInside.f t190 t191).bind fun t196 => (if (t193 != t196) = true then (laws_FnEndOk.j0 k t193 t194 t195 true t190 t191) else ((spec_EndOutside.f t190 t191).bind fun t197 => (if (t194 != t197) = true then (laws_FnEndOk.j0 k t193 t194 t195 true t190 t191) else ((spec_EndOk.f t190 t191).bind fun t198 => (if (t195 != t198) = true then (laws_FnEndOk.j0 k t193 t194 t195 true t190 t191) else (if t193 = true then (laws_FnEndOk.j0 k t193 t194 t195 t194 t190 t191) else (laws_FnEndOk.j0 k t193 t194 t195 false t190 t191))))))))) = some r := H
    have A5 := Aside0.mk A50
    clear A50
    replace H := Option.bind_eq_some_iff.mp H
    obtain ⟨t195, A60, H⟩ := H
    replace H : ((spec_EndInside.f t190 t191).bind fun t196 => (if (t193 != t196) = true then (laws_FnEndOk.j0 k t193 t194 t195 true t190 t191) else ((spec_EndOutside.f t190 t191).bind fun t197 => (if (t194 != t197) = true then (laws_FnEndOk.j0 k t193 t194 t195 true t190 t191) else ((spec_EndOk.f t190 t191).bind fun t198 => (if (t195 != t198) = true then (laws_FnEndOk.j0 k t193 t194 t195 true t190 t191) else (if t193 = true then (laws_FnEndOk.j0 k t193 t194 t195 t194 t190 t191) else (laws_FnEndOk.j0 k t193 t194 t195 false t190 t191)))))))) = some r := H
    have A6 := Aside0.mk A60
    clear A60
    have HC7 := Aside0.mk H
    clear H
    go_enter Try.func12, Try.ntmps12
    go_upto_region 7 with (first | ((with_reducible refine gate_callee (f := 36) rfl ?_); refine goesL_ (some 12) rfl rfl Try.func36 (by kernel_rfl) rfl #[.slice A0 l0.length c0] rfl (by (try simp only [List.map_toArray, List.map_cons, List.map_nil]); first | done | rfl | (simp only [List.length_drop, List.length_take]; rfl)) ?_; (with_reducible refine (spec_DrawEndOk.calls k _ _ l0 t190 t191 _ ?side1 ?side2 A3.out).mono ?_); (case side1 => repeat (first | exact HR0.out | (with_reducible refine Kd.C_alloc ?_ _) | (with_reducible refine Kd.C_drewN ?_ _) | (with_reducible refine Kd.C_drew ?_))); (case side2 => exact HC0.out); rintro e w8 ⟨rfl, hb⟩; refine ⟨_, rfl, ?_⟩; have n0_ := Aside0.mk (below_step (by repeat (first | (with_reducible first | exact HB.out | apply below_alloc | apply pw_below_drewN | apply below_drew1) | exact HB.out)) hb); clear HB; have HB := n0_; clear n0_; (try clear hb); (try clear hb2); (try clear hk); (try clear hi)) | ((with_reducible refine gate_dst (N := 3) rfl ?_); refine box_event ?hg (N := 3) ?hd (cs := #[.int .i64 0, .int .i64 0]) (t := 26) ?hr ?_; (case hd => rfl); (case hg => rfl); (case hr => first | (go_simp; done) | (go_simp; rfl)); intro gb192 hg w9 hbox hb; have n0_ := Aside0.mk (below_step (by repeat (first | (with_reducible first | exact HB.out | apply below_alloc | apply pw_below_drewN | apply below_drew1) | exact HB.out)) hb); have n1_ := Aside0.mk (hbox); have n2_ := Aside0.mk ((by rw [hg]; exact (below_size (by repeat (first | (with_reducible first | exact HB.out | apply below_alloc | apply pw_below_drewN | apply below_drew1) | exact HB.out))) : w.heap.size ≤ gb192)); have n3_ := Aside0.mk ((by rw [hg]; exact (below_size (by repeat (first | (with_reducible first | exact HB.out | apply below_alloc | apply pw_below_drewN | apply below_drew1) | exact HB.out))) : w.heap.size ≤ gb192)); clear HB; have HB := n0_; have BK192 := n1_; have GW192 := n2_; have GE192 := n3_; clear n0_ n1_ n2_ n3_; clear hb hbox hg; have hcz10_0 : w9.cell? ⟨gb192, 0, none⟩ = some (.int .i64 0) := (blk_cell BK192.out 0).trans rfl; have hcz10_1 : w9.cell? ⟨gb192, 1, none⟩ = some (.int .i64 0) := (blk_cell BK192.out 1).trans rfl; have hfz10_0 := blk_frozen BK192.out 0; have hfz10_1 := blk_frozen BK192.out 1) | ((with_reducible refine gate_callee (f := 16) rfl ?_); refine goesL_ (some 14) rfl rfl Try.func16 (by kernel_rfl) rfl #[.agg #[.int .i64 t190, .int .i64 t191]] rfl (by (try simp only [List.map_toArray, List.map_cons, List.map_nil]); first | done | rfl | (simp only [List.length_drop, List.length_take]; rfl)) ?_; (with_reducible refine (impl_EndInside.calls t190 t191 t193 _ A4.out).mono ?_); rintro e w11 ⟨rfl, hb⟩; refine ⟨_, rfl, ?_⟩; have n0_ := Aside0.mk (blk_below (g := gb192) (o := .cells #[.int .i64 t190, .int .i64 t191] 26 (0, 0)) (by (with_reducible repeat (first | refine blk_drewN ?_ _ | refine blk_drew ?_ | refine blk_alloc ?_ _)); refine blk_put (cs := #[.int .i64 t190, .int .i64 0]) ?_ 1 _ rfl; (with_reducible repeat (first | refine blk_drewN ?_ _ | refine blk_drew ?_ | refine blk_alloc ?_ _)); refine blk_put (cs := #[.int .i64 0, .int .i64 0]) ?_ 0 _ rfl; (with_reducible repeat (first | refine blk_drewN ?_ _ | refine blk_drew ?_ | refine blk_alloc ?_ _)); exact BK192.out) hb); have n1_ := Aside0.mk (below_step (by repeat (first | (with_reducible first | exact HB.out | apply below_alloc | apply pw_below_drewN | apply below_drew1 | refine below_set ?_ GE192.out) | exact HB.out)) hb); clear BK192; clear HB; have BK192 := n0_; have HB := n1_; clear n0_ n1_; (try clear hb); (try clear hb2); (try clear hk); (try clear hi); have hcz12_0 : w11.cell? ⟨gb192, 0, none⟩ = some (.int .i64 t190) := (blk_cell BK192.out 0).trans rfl; have hcz12_1 : w11.cell? ⟨gb192, 1, none⟩ = some (.int .i64 t191) := (blk_cell BK192.out 1).trans rfl; have hfz12_0 := blk_frozen BK192.out 0; have hfz12_1 := blk_frozen BK192.out 1) | ((with_reducible refine gate_callee (f := 18) rfl ?_); refine goesL_ (some 16) rfl rfl Try.func18 (by kernel_rfl) rfl #[.agg #[.int .i64 t190, .int .i64 t191]] rfl (by (try simp only [List.map_toArray, List.map_cons, List.map_nil]); first | done | rfl | (simp only [List.length_drop, List.length_take]; rfl)) ?_; (with_reducible refine (impl_EndOutside.calls t190 t191 t194 _ A5.out).mono ?_); rintro e w13 ⟨rfl, hb⟩; refine ⟨_, rfl, ?_⟩; have n0_ := Aside0.mk (blk_below (g := gb192) (o := .cells #[.int .i64 t190, .int .i64 t191] 26 (0, 0)) (by (with_reducible repeat (first | refine blk_drewN ?_ _ | refine blk_drew ?_ | refine blk_alloc ?_ _)); exact BK192.out) hb); have n1_ := Aside0.mk (below_step (by repeat (first | (with_reducible first | exact HB.out | apply below_alloc | apply pw_below_drewN | apply below_drew1 | refine below_set ?_ GE192.out) | exact HB.out)) hb); clear BK192; clear HB; have BK192 := n0_; have HB := n1_; clear n0_ n1_; (try clear hb); (try clear hb2); (try clear hk); (try clear hi); have hcz14_0 : w13.cell? ⟨gb192, 0, none⟩ = some (.int .i64 t190) := (blk_cell BK192.out 0).trans rfl; have hcz14_1 : w13.cell? ⟨gb192, 1, none⟩ = some (.int .i64 t191) := (blk_cell BK192.out 1).trans rfl; have hfz14_0 := blk_frozen BK192.out 0; have hfz14_1 := blk_frozen BK192.out 1) | ((with_reducible refine gate_callee (f := 25) rfl ?_); refine goesL_ (some 18) rfl rfl Try.func25 (by kernel_rfl) rfl #[.agg #[.int .i64 t190, .int .i64 t191]] rfl (by (try simp only [List.map_toArray, List.map_cons, List.map_nil]); first | done | rfl | (simp only [List.length_drop, List.length_take]; rfl)) ?_; (with_reducible refine (impl_EndOk.calls t190 t191 t195 _ A6.out).mono ?_); rintro e w15 ⟨rfl, hb⟩; refine ⟨_, rfl, ?_⟩; have n0_ := Aside0.mk (blk_below (g := gb192) (o := .cells #[.int .i64 t190, .int .i64 t191] 26 (0, 0)) (by (with_reducible repeat (first | refine blk_drewN ?_ _ | refine blk_drew ?_ | refine blk_alloc ?_ _)); exact BK192.out) hb); have n1_ := Aside0.mk (below_step (by repeat (first | (with_reducible first | exact HB.out | apply below_alloc | apply pw_below_drewN | apply below_drew1 | refine below_set ?_ GE192.out) | exact HB.out)) hb); clear BK192; clear HB; have BK192 := n0_; have HB := n1_; clear n0_ n1_; (try clear hb); (try clear hb2); (try clear hk); (try clear hi)))
    (try simp only [Act.put, List.setIfInBounds_toArray, List.set_cons_zero, List.set_cons_succ])
    go_cut [40] (fun v40 wc => ∃ (kq : Nat) (x40_6 : Bool), v40 = .bool x40_6 ∧ Aside0 (laws_FnEndOk.j0 kq t193 t194 t195 x40_6 t190 t191 = some r) ∧ Aside0 (kq ≤ k) ∧ Aside0 (wc.heap[gb192]? = some (.cells #[.int .i64 t190, .int .i64 t191] 26 (0, 0))) ∧ Aside0 (Below w.heap.size w wc))
    case first =>
      have H := HC7.out
      clear HC7
      replace H := Option.bind_eq_some_iff.mp H
      obtain ⟨t196, A160, H⟩ := H
      replace H : (if (t193 != t196) = true then (laws_FnEndOk.j0 k t193 t194 t195 true t190 t191) else ((spec_EndOutside.f t190 t191).bind fun t197 => (if (t194 != t197) = true then (laws_FnEndOk.j0 k t193 t194 t195 true t190 t191) else ((spec_EndOk.f t190 t191).bind fun t198 => (if (t195 != t198) = true then (laws_FnEndOk.j0 k t193 t194 t195 true t190 t191) else (if t193 = true then (laws_FnEndOk.j0 k t193 t194 t195 t194 t190 t191) else (laws_FnEndOk.j0 k t193 t194 t195 false t190 t191))))))) = some r := H
      have A16 := Aside0.mk A160
      clear A160
      by_cases c17 : (t193 != t196) = true
      · rw [if_pos c17] at H
        have c17b0 : (t193 != t196) = true := c17
        (try (have c17b1 : decide (t193 = t196) = false := by simpa using c17))
        (try (have c17b2 : (t193 == t196) = false := by simpa using c17))
        (try (have c17b3 : ¬ (t193 = t196) := by simpa using c17))
        clear c17
        (first | rw [c17b0] | (simp only [i64_w, i32_w]; rw [c17b0]) | skip)
        have H' := Aside0.mk H
        clear H
        have hcz18_0 : w15.cell? ⟨gb192, 0, none⟩ = some (.int .i64 t190) := (blk_cell BK192.out 0).trans rfl
        have hcz18_1 : w15.cell? ⟨gb192, 1, none⟩ = some (.int .i64 t191) := (blk_cell BK192.out 1).trans rfl
        have hfz18_0 := blk_frozen BK192.out 0
        have hfz18_1 := blk_frozen BK192.out 1
        go_wp2_with (first | ((with_reducible refine gate_callee (f := 14) rfl ?_); refine goesL_ (some 21) rfl rfl Try.func14 (by kernel_rfl) rfl #[.agg #[.int .i64 t190, .int .i64 t191]] rfl (by (try simp only [List.map_toArray, List.map_cons, List.map_nil]); first | done | rfl | (simp only [List.length_drop, List.length_take]; rfl)) ?_; (with_reducible refine (spec_EndInside.calls t190 t191 t196 _ A16.out).mono ?_); rintro e w19 ⟨rfl, hb⟩; refine ⟨_, rfl, ?_⟩; have n0_ := Aside0.mk (blk_below (g := gb192) (o := .cells #[.int .i64 t190, .int .i64 t191] 26 (0, 0)) (by (with_reducible repeat (first | refine blk_drewN ?_ _ | refine blk_drew ?_ | refine blk_alloc ?_ _)); exact BK192.out) hb); have n1_ := Aside0.mk (below_step (by repeat (first | (with_reducible first | exact HB.out | apply below_alloc | apply pw_below_drewN | apply below_drew1 | refine below_set ?_ GE192.out) | exact HB.out)) hb); clear BK192; clear HB; have BK192 := n0_; have HB := n1_; clear n0_ n1_; (try clear hb); (try clear hb2); (try clear hk); (try clear hi)))
        go_meet
        case rel => exact ⟨_, (true), (by first | rfl | (simp; done) | (simp [*]; done)), H', ⟨by first | omega | exact Nat.le_refl _⟩, ⟨by (with_reducible repeat (first | refine blk_drewN ?_ _ | refine blk_drew ?_ | refine blk_alloc ?_ _)); exact BK192.out⟩, ⟨by repeat (first | (with_reducible first | exact HB.out | apply below_alloc | apply pw_below_drewN | apply below_drew1 | refine below_set ?_ GE192.out) | exact HB.out)⟩⟩
      · rw [if_neg c17] at H
        have c17b0 : (t193 != t196) = false := by simpa using c17
        (try (have c17b1 : decide (t193 = t196) = true := by simpa using c17))
        (try (have c17b2 : (t193 == t196) = true := by simpa using c17))
        clear c17
        (first | rw [c17b0] | (simp only [i64_w, i32_w]; rw [c17b0]) | skip)
        replace H := Option.bind_eq_some_iff.mp H
        obtain ⟨t197, A200, H⟩ := H
        replace H : (if (t194 != t197) = true then (laws_FnEndOk.j0 k t193 t194 t195 true t190 t191) else ((spec_EndOk.f t190 t191).bind fun t198 => (if (t195 != t198) = true then (laws_FnEndOk.j0 k t193 t194 t195 true t190 t191) else (if t193 = true then (laws_FnEndOk.j0 k t193 t194 t195 t194 t190 t191) else (laws_FnEndOk.j0 k t193 t194 t195 false t190 t191))))) = some r := H
        have A20 := Aside0.mk A200
        clear A200
        by_cases c21 : (t194 != t197) = true
        · rw [if_pos c21] at H
          have c21b0 : (t194 != t197) = true := c21
          (try (have c21b1 : decide (t194 = t197) = false := by simpa using c21))
          (try (have c21b2 : (t194 == t197) = false := by simpa using c21))
          (try (have c21b3 : ¬ (t194 = t197) := by simpa using c21))
          clear c21
          have H' := Aside0.mk H
          clear H
          have hcz22_0 : w15.cell? ⟨gb192, 0, none⟩ = some (.int .i64 t190) := (blk_cell BK192.out 0).trans rfl
          have hcz22_1 : w15.cell? ⟨gb192, 1, none⟩ = some (.int .i64 t191) := (blk_cell BK192.out 1).trans rfl
          have hfz22_0 := blk_frozen BK192.out 0
          have hfz22_1 := blk_frozen BK192.out 1
          go_wp2_with (first | ((with_reducible refine gate_callee (f := 14) rfl ?_); refine goesL_ (some 21) rfl rfl Try.func14 (by kernel_rfl) rfl #[.agg #[.int .i64 t190, .int .i64 t191]] rfl (by (try simp only [List.map_toArray, List.map_cons, List.map_nil]); first | done | rfl | (simp only [List.length_drop, List.length_take]; rfl)) ?_; (with_reducible refine (spec_EndInside.calls t190 t191 t196 _ A16.out).mono ?_); rintro e w23 ⟨rfl, hb⟩; refine ⟨_, rfl, ?_⟩; have n0_ := Aside0.mk (blk_below (g := gb192) (o := .cells #[.int .i64 t190, .int .i64 t191] 26 (0, 0)) (by (with_reducible repeat (first | refine blk_drewN ?_ _ | refine blk_drew ?_ | refine blk_alloc ?_ _)); exact BK192.out) hb); have n1_ := Aside0.mk (below_step (by repeat (first | (with_reducible first | exact HB.out | apply below_alloc | apply pw_below_drewN | apply below_drew1 | refine below_set ?_ GE192.out) | exact HB.out)) hb); clear BK192; clear HB; have BK192 := n0_; have HB := n1_; clear n0_ n1_; (try clear hb); (try clear hb2); (try clear hk); (try clear hi); have hcz24_0 : w23.cell? ⟨gb192, 0, none⟩ = some (.int .i64 t190) := (blk_cell BK192.out 0).trans rfl; have hcz24_1 : w23.cell? ⟨gb192, 1, none⟩ = some (.int .i64 t191) := (blk_cell BK192.out 1).trans rfl; have hfz24_0 := blk_frozen BK192.out 0; have hfz24_1 := blk_frozen BK192.out 1) | (go_at_call 17; (with_reducible refine (spec_EndOutside.calls t190 t191 t197 _ A20.out).mono ?_); rintro e w25 ⟨rfl, hb⟩; have n0_ := Aside0.mk (blk_below (g := gb192) (o := .cells #[.int .i64 t190, .int .i64 t191] 26 (0, 0)) (by (with_reducible repeat (first | refine blk_drewN ?_ _ | refine blk_drew ?_ | refine blk_alloc ?_ _)); exact BK192.out) hb); have n1_ := Aside0.mk (below_step (by repeat (first | (with_reducible first | exact HB.out | apply below_alloc | apply pw_below_drewN | apply below_drew1 | refine below_set ?_ GE192.out) | exact HB.out)) hb); clear BK192; clear HB; have BK192 := n0_; have HB := n1_; clear n0_ n1_; (try clear hb); (try clear hb2); (try clear hk); (try clear hi)))
          go_meet
          case rel => exact ⟨_, (true), (by first | rfl | (simp; done) | (simp [*]; done)), H', ⟨by first | omega | exact Nat.le_refl _⟩, ⟨by (with_reducible repeat (first | refine blk_drewN ?_ _ | refine blk_drew ?_ | refine blk_alloc ?_ _)); exact BK192.out⟩, ⟨by repeat (first | (with_reducible first | exact HB.out | apply below_alloc | apply pw_below_drewN | apply below_drew1 | refine below_set ?_ GE192.out) | exact HB.out)⟩⟩
        · rw [if_neg c21] at H
          have c21b0 : (t194 != t197) = false := by simpa using c21
          (try (have c21b1 : decide (t194 = t197) = true := by simpa using c21))
          (try (have c21b2 : (t194 == t197) = true := by simpa using c21))
          clear c21
          replace H := Option.bind_eq_some_iff.mp H
          obtain ⟨t198, A260, H⟩ := H
          replace H : (if (t195 != t198) = true then (laws_FnEndOk.j0 k t193 t194 t195 true t190 t191) else (if t193 = true then (laws_FnEndOk.j0 k t193 t194 t195 t194 t190 t191) else (laws_FnEndOk.j0 k t193 t194 t195 false t190 t191))) = some r := H
          have A26 := Aside0.mk A260
          clear A260
          by_cases c27 : (t195 != t198) = true
          · rw [if_pos c27] at H
            have c27b0 : (t195 != t198) = true := c27
            (try (have c27b1 : decide (t195 = t198) = false := by simpa using c27))
            (try (have c27b2 : (t195 == t198) = false := by simpa using c27))
            (try (have c27b3 : ¬ (t195 = t198) := by simpa using c27))
            clear c27
            have H' := Aside0.mk H
            clear H
            have hcz28_0 : w15.cell? ⟨gb192, 0, none⟩ = some (.int .i64 t190) := (blk_cell BK192.out 0).trans rfl
            have hcz28_1 : w15.cell? ⟨gb192, 1, none⟩ = some (.int .i64 t191) := (blk_cell BK192.out 1).trans rfl
            have hfz28_0 := blk_frozen BK192.out 0
            have hfz28_1 := blk_frozen BK192.out 1
            go_wp2_with (first | ((with_reducible refine gate_callee (f := 14) rfl ?_); refine goesL_ (some 21) rfl rfl Try.func14 (by kernel_rfl) rfl #[.agg #[.int .i64 t190, .int .i64 t191]] rfl (by (try simp only [List.map_toArray, List.map_cons, List.map_nil]); first | done | rfl | (simp only [List.length_drop, List.length_take]; rfl)) ?_; (with_reducible refine (spec_EndInside.calls t190 t191 t196 _ A16.out).mono ?_); rintro e w29 ⟨rfl, hb⟩; refine ⟨_, rfl, ?_⟩; have n0_ := Aside0.mk (blk_below (g := gb192) (o := .cells #[.int .i64 t190, .int .i64 t191] 26 (0, 0)) (by (with_reducible repeat (first | refine blk_drewN ?_ _ | refine blk_drew ?_ | refine blk_alloc ?_ _)); exact BK192.out) hb); have n1_ := Aside0.mk (below_step (by repeat (first | (with_reducible first | exact HB.out | apply below_alloc | apply pw_below_drewN | apply below_drew1 | refine below_set ?_ GE192.out) | exact HB.out)) hb); clear BK192; clear HB; have BK192 := n0_; have HB := n1_; clear n0_ n1_; (try clear hb); (try clear hb2); (try clear hk); (try clear hi); have hcz30_0 : w29.cell? ⟨gb192, 0, none⟩ = some (.int .i64 t190) := (blk_cell BK192.out 0).trans rfl; have hcz30_1 : w29.cell? ⟨gb192, 1, none⟩ = some (.int .i64 t191) := (blk_cell BK192.out 1).trans rfl; have hfz30_0 := blk_frozen BK192.out 0; have hfz30_1 := blk_frozen BK192.out 1) | (go_at_call 17; (with_reducible refine (spec_EndOutside.calls t190 t191 t197 _ A20.out).mono ?_); rintro e w31 ⟨rfl, hb⟩; have n0_ := Aside0.mk (blk_below (g := gb192) (o := .cells #[.int .i64 t190, .int .i64 t191] 26 (0, 0)) (by (with_reducible repeat (first | refine blk_drewN ?_ _ | refine blk_drew ?_ | refine blk_alloc ?_ _)); exact BK192.out) hb); have n1_ := Aside0.mk (below_step (by repeat (first | (with_reducible first | exact HB.out | apply below_alloc | apply pw_below_drewN | apply below_drew1 | refine below_set ?_ GE192.out) | exact HB.out)) hb); clear BK192; clear HB; have BK192 := n0_; have HB := n1_; clear n0_ n1_; (try clear hb); (try clear hb2); (try clear hk); (try clear hi); have hcz32_0 : w31.cell? ⟨gb192, 0, none⟩ = some (.int .i64 t190) := (blk_cell BK192.out 0).trans rfl; have hcz32_1 : w31.cell? ⟨gb192, 1, none⟩ = some (.int .i64 t191) := (blk_cell BK192.out 1).trans rfl; have hfz32_0 := blk_frozen BK192.out 0; have hfz32_1 := blk_frozen BK192.out 1) | (go_at_call 24; (with_reducible refine (spec_EndOk.calls t190 t191 t198 _ A26.out).mono ?_); rintro e w33 ⟨rfl, hb⟩; have n0_ := Aside0.mk (blk_below (g := gb192) (o := .cells #[.int .i64 t190, .int .i64 t191] 26 (0, 0)) (by (with_reducible repeat (first | refine blk_drewN ?_ _ | refine blk_drew ?_ | refine blk_alloc ?_ _)); exact BK192.out) hb); have n1_ := Aside0.mk (below_step (by repeat (first | (with_reducible first | exact HB.out | apply below_alloc | apply pw_below_drewN | apply below_drew1 | refine below_set ?_ GE192.out) | exact HB.out)) hb); clear BK192; clear HB; have BK192 := n0_; have HB := n1_; clear n0_ n1_; (try clear hb); (try clear hb2); (try clear hk); (try clear hi)))
            go_meet
            case rel => exact ⟨_, (true), (by first | rfl | (simp; done) | (simp [*]; done)), H', ⟨by first | omega | exact Nat.le_refl _⟩, ⟨by (with_reducible repeat (first | refine blk_drewN ?_ _ | refine blk_drew ?_ | refine blk_alloc ?_ _)); exact BK192.out⟩, ⟨by repeat (first | (with_reducible first | exact HB.out | apply below_alloc | apply pw_below_drewN | apply below_drew1 | refine below_set ?_ GE192.out) | exact HB.out)⟩⟩
          · rw [if_neg c27] at H
            have c27b0 : (t195 != t198) = false := by simpa using c27
            (try (have c27b1 : decide (t195 = t198) = true := by simpa using c27))
            (try (have c27b2 : (t195 == t198) = true := by simpa using c27))
            clear c27
            by_cases c34 : t193 = true
            · subst c34
              have H1 : (laws_FnEndOk.j0 k true t194 t195 t194 t190 t191) = some r := by rw [if_pos rfl] at H; exact H
              clear H
              have H := H1
              clear H1
              have H' := Aside0.mk H
              clear H
              have hcz35_0 : w15.cell? ⟨gb192, 0, none⟩ = some (.int .i64 t190) := (blk_cell BK192.out 0).trans rfl
              have hcz35_1 : w15.cell? ⟨gb192, 1, none⟩ = some (.int .i64 t191) := (blk_cell BK192.out 1).trans rfl
              have hfz35_0 := blk_frozen BK192.out 0
              have hfz35_1 := blk_frozen BK192.out 1
              go_wp2_with (first | ((with_reducible refine gate_callee (f := 14) rfl ?_); refine goesL_ (some 21) rfl rfl Try.func14 (by kernel_rfl) rfl #[.agg #[.int .i64 t190, .int .i64 t191]] rfl (by (try simp only [List.map_toArray, List.map_cons, List.map_nil]); first | done | rfl | (simp only [List.length_drop, List.length_take]; rfl)) ?_; (with_reducible refine (spec_EndInside.calls t190 t191 t196 _ A16.out).mono ?_); rintro e w36 ⟨rfl, hb⟩; refine ⟨_, rfl, ?_⟩; have n0_ := Aside0.mk (blk_below (g := gb192) (o := .cells #[.int .i64 t190, .int .i64 t191] 26 (0, 0)) (by (with_reducible repeat (first | refine blk_drewN ?_ _ | refine blk_drew ?_ | refine blk_alloc ?_ _)); exact BK192.out) hb); have n1_ := Aside0.mk (below_step (by repeat (first | (with_reducible first | exact HB.out | apply below_alloc | apply pw_below_drewN | apply below_drew1 | refine below_set ?_ GE192.out) | exact HB.out)) hb); clear BK192; clear HB; have BK192 := n0_; have HB := n1_; clear n0_ n1_; (try clear hb); (try clear hb2); (try clear hk); (try clear hi); have hcz37_0 : w36.cell? ⟨gb192, 0, none⟩ = some (.int .i64 t190) := (blk_cell BK192.out 0).trans rfl; have hcz37_1 : w36.cell? ⟨gb192, 1, none⟩ = some (.int .i64 t191) := (blk_cell BK192.out 1).trans rfl; have hfz37_0 := blk_frozen BK192.out 0; have hfz37_1 := blk_frozen BK192.out 1) | (go_at_call 17; (with_reducible refine (spec_EndOutside.calls t190 t191 t197 _ A20.out).mono ?_); rintro e w38 ⟨rfl, hb⟩; have n0_ := Aside0.mk (blk_below (g := gb192) (o := .cells #[.int .i64 t190, .int .i64 t191] 26 (0, 0)) (by (with_reducible repeat (first | refine blk_drewN ?_ _ | refine blk_drew ?_ | refine blk_alloc ?_ _)); exact BK192.out) hb); have n1_ := Aside0.mk (below_step (by repeat (first | (with_reducible first | exact HB.out | apply below_alloc | apply pw_below_drewN | apply below_drew1 | refine below_set ?_ GE192.out) | exact HB.out)) hb); clear BK192; clear HB; have BK192 := n0_; have HB := n1_; clear n0_ n1_; (try clear hb); (try clear hb2); (try clear hk); (try clear hi); have hcz39_0 : w38.cell? ⟨gb192, 0, none⟩ = some (.int .i64 t190) := (blk_cell BK192.out 0).trans rfl; have hcz39_1 : w38.cell? ⟨gb192, 1, none⟩ = some (.int .i64 t191) := (blk_cell BK192.out 1).trans rfl; have hfz39_0 := blk_frozen BK192.out 0; have hfz39_1 := blk_frozen BK192.out 1) | (go_at_call 24; (with_reducible refine (spec_EndOk.calls t190 t191 t198 _ A26.out).mono ?_); rintro e w40 ⟨rfl, hb⟩; have n0_ := Aside0.mk (blk_below (g := gb192) (o := .cells #[.int .i64 t190, .int .i64 t191] 26 (0, 0)) (by (with_reducible repeat (first | refine blk_drewN ?_ _ | refine blk_drew ?_ | refine blk_alloc ?_ _)); exact BK192.out) hb); have n1_ := Aside0.mk (below_step (by repeat (first | (with_reducible first | exact HB.out | apply below_alloc | apply pw_below_drewN | apply below_drew1 | refine below_set ?_ GE192.out) | exact HB.out)) hb); clear BK192; clear HB; have BK192 := n0_; have HB := n1_; clear n0_ n1_; (try clear hb); (try clear hb2); (try clear hk); (try clear hi)))
              go_meet
              case rel => exact ⟨_, (t194), (by first | rfl | (simp; done) | (simp [*]; done)), H', ⟨by first | omega | exact Nat.le_refl _⟩, ⟨by (with_reducible repeat (first | refine blk_drewN ?_ _ | refine blk_drew ?_ | refine blk_alloc ?_ _)); exact BK192.out⟩, ⟨by repeat (first | (with_reducible first | exact HB.out | apply below_alloc | apply pw_below_drewN | apply below_drew1 | refine below_set ?_ GE192.out) | exact HB.out)⟩⟩
            · replace c34 := Bool.eq_false_iff.mpr c34
              subst c34
              have H1 : (laws_FnEndOk.j0 k false t194 t195 false t190 t191) = some r := by rw [if_neg (show ¬ (false = true) by decide)] at H; exact H
              clear H
              have H := H1
              clear H1
              have H' := Aside0.mk H
              clear H
              have hcz41_0 : w15.cell? ⟨gb192, 0, none⟩ = some (.int .i64 t190) := (blk_cell BK192.out 0).trans rfl
              have hcz41_1 : w15.cell? ⟨gb192, 1, none⟩ = some (.int .i64 t191) := (blk_cell BK192.out 1).trans rfl
              have hfz41_0 := blk_frozen BK192.out 0
              have hfz41_1 := blk_frozen BK192.out 1
              go_wp2_with (first | ((with_reducible refine gate_callee (f := 14) rfl ?_); refine goesL_ (some 21) rfl rfl Try.func14 (by kernel_rfl) rfl #[.agg #[.int .i64 t190, .int .i64 t191]] rfl (by (try simp only [List.map_toArray, List.map_cons, List.map_nil]); first | done | rfl | (simp only [List.length_drop, List.length_take]; rfl)) ?_; (with_reducible refine (spec_EndInside.calls t190 t191 t196 _ A16.out).mono ?_); rintro e w42 ⟨rfl, hb⟩; refine ⟨_, rfl, ?_⟩; have n0_ := Aside0.mk (blk_below (g := gb192) (o := .cells #[.int .i64 t190, .int .i64 t191] 26 (0, 0)) (by (with_reducible repeat (first | refine blk_drewN ?_ _ | refine blk_drew ?_ | refine blk_alloc ?_ _)); exact BK192.out) hb); have n1_ := Aside0.mk (below_step (by repeat (first | (with_reducible first | exact HB.out | apply below_alloc | apply pw_below_drewN | apply below_drew1 | refine below_set ?_ GE192.out) | exact HB.out)) hb); clear BK192; clear HB; have BK192 := n0_; have HB := n1_; clear n0_ n1_; (try clear hb); (try clear hb2); (try clear hk); (try clear hi); have hcz43_0 : w42.cell? ⟨gb192, 0, none⟩ = some (.int .i64 t190) := (blk_cell BK192.out 0).trans rfl; have hcz43_1 : w42.cell? ⟨gb192, 1, none⟩ = some (.int .i64 t191) := (blk_cell BK192.out 1).trans rfl; have hfz43_0 := blk_frozen BK192.out 0; have hfz43_1 := blk_frozen BK192.out 1) | (go_at_call 17; (with_reducible refine (spec_EndOutside.calls t190 t191 t197 _ A20.out).mono ?_); rintro e w44 ⟨rfl, hb⟩; have n0_ := Aside0.mk (blk_below (g := gb192) (o := .cells #[.int .i64 t190, .int .i64 t191] 26 (0, 0)) (by (with_reducible repeat (first | refine blk_drewN ?_ _ | refine blk_drew ?_ | refine blk_alloc ?_ _)); exact BK192.out) hb); have n1_ := Aside0.mk (below_step (by repeat (first | (with_reducible first | exact HB.out | apply below_alloc | apply pw_below_drewN | apply below_drew1 | refine below_set ?_ GE192.out) | exact HB.out)) hb); clear BK192; clear HB; have BK192 := n0_; have HB := n1_; clear n0_ n1_; (try clear hb); (try clear hb2); (try clear hk); (try clear hi); have hcz45_0 : w44.cell? ⟨gb192, 0, none⟩ = some (.int .i64 t190) := (blk_cell BK192.out 0).trans rfl; have hcz45_1 : w44.cell? ⟨gb192, 1, none⟩ = some (.int .i64 t191) := (blk_cell BK192.out 1).trans rfl; have hfz45_0 := blk_frozen BK192.out 0; have hfz45_1 := blk_frozen BK192.out 1) | (go_at_call 24; (with_reducible refine (spec_EndOk.calls t190 t191 t198 _ A26.out).mono ?_); rintro e w46 ⟨rfl, hb⟩; have n0_ := Aside0.mk (blk_below (g := gb192) (o := .cells #[.int .i64 t190, .int .i64 t191] 26 (0, 0)) (by (with_reducible repeat (first | refine blk_drewN ?_ _ | refine blk_drew ?_ | refine blk_alloc ?_ _)); exact BK192.out) hb); have n1_ := Aside0.mk (below_step (by repeat (first | (with_reducible first | exact HB.out | apply below_alloc | apply pw_below_drewN | apply below_drew1 | refine below_set ?_ GE192.out) | exact HB.out)) hb); clear BK192; clear HB; have BK192 := n0_; have HB := n1_; clear n0_ n1_; (try clear hb); (try clear hb2); (try clear hk); (try clear hi)))
              go_meet
              case rel => exact ⟨_, (false), (by first | rfl | (simp; done) | (simp [*]; done)), H', ⟨by first | omega | exact Nat.le_refl _⟩, ⟨by (with_reducible repeat (first | refine blk_drewN ?_ _ | refine blk_drew ?_ | refine blk_alloc ?_ _)); exact BK192.out⟩, ⟨by repeat (first | (with_reducible first | exact HB.out | apply below_alloc | apply pw_below_drewN | apply below_drew1 | refine below_set ?_ GE192.out) | exact HB.out)⟩⟩
    case rest =>
      clear HC7
      try clear c1
      try clear c2
      try clear c2b0
      try clear c2b1
      try clear p2
      try clear c3
      try clear c12
      try clear c14
      try clear c16
      try clear c17
      try clear c17b0
      try clear c17b1
      try clear c17b2
      try clear c18
      try clear c21
      try clear c21b0
      try clear c21b1
      try clear c21b2
      try clear c25
      try clear c27
      try clear c27b0
      try clear c27b1
      try clear c27b2
      try clear c34
      try clear c36
      try clear hcz10_0
      try clear hcz10_1
      try clear hcz12_0
      try clear hcz12_1
      try clear hcz14_0
      try clear hcz14_1
      try clear hcz18_0
      try clear hcz18_1
      try clear hcz22_0
      try clear hcz22_1
      try clear hcz24_0
      try clear hcz24_1
      try clear hcz28_0
      try clear hcz28_1
      try clear hcz30_0
      try clear hcz30_1
      try clear hcz32_0
      try clear hcz32_1
      try clear hcz35_0
      try clear hcz35_1
      try clear hcz37_0
      try clear hcz37_1
      try clear hcz39_0
      try clear hcz39_1
      try clear hcz41_0
      try clear hcz41_1
      try clear hcz43_0
      try clear hcz43_1
      try clear hcz45_0
      try clear hcz45_1
      try clear hfz10_0
      try clear hfz10_1
      try clear hfz12_0
      try clear hfz12_1
      try clear hfz14_0
      try clear hfz14_1
      try clear hfz18_0
      try clear hfz18_1
      try clear hfz22_0
      try clear hfz22_1
      try clear hfz24_0
      try clear hfz24_1
      try clear hfz28_0
      try clear hfz28_1
      try clear hfz30_0
      try clear hfz30_1
      try clear hfz32_0
      try clear hfz32_1
      try clear hfz35_0
      try clear hfz35_1
      try clear hfz37_0
      try clear hfz37_1
      try clear hfz39_0
      try clear hfz39_1
      try clear hfz41_0
      try clear hfz41_1
      try clear hfz43_0
      try clear hfz43_1
      try clear hfz45_0
      try clear hfz45_1
      obtain ⟨kq, x40_6, rfl, HA, HJ6, BK192, HB⟩ := hcut
      cases kq with
      | zero => exact absurd HA.out (by simp [laws_FnEndOk.j0])
      | succ kj6 =>
        have H := HA.out
        clear HA
        simp only [laws_FnEndOk.j0] at H
        by_cases c47 : x40_6 = true
        · subst c47
          have H1 : (some false) = some r := by rw [if_pos rfl] at H; exact H
          clear H
          have H := H1
          clear H1
          obtain rfl := Option.some.inj H
          go_wp2
          go_ret
          exact ⟨by first | rfl | (simp [errW_none, errW_some] <;> rfl) | (simp [*, errW_none, errW_some] <;> rfl), by repeat (first | (with_reducible first | exact HB.out | apply below_alloc | apply pw_below_drewN | apply below_drew1 | refine below_set ?_ GE192.out) | exact HB.out)⟩
        · replace c47 := Bool.eq_false_iff.mpr c47
          subst c47
          have H1 : (if t190 = 50 then (if t191 ≥ 1 then (if t193 = true then (if (t195 == true) = true then (if t191 ≤ 999 then (some false) else ((laws_haOk.f kj6).bind fun t199 => (some t199))) else (some false)) else (if t194 = true then (if (t195 == true) = true then (if t191 ≤ 999 then (some false) else ((laws_haOk.f kj6).bind fun t200 => (some t200))) else (some false)) else (if (t195 == (decide (t191 ≤ 999))) = true then (if t191 ≤ 999 then ((laws_haOk.f kj6).bind fun t201 => (some t201)) else ((laws_haOk.f kj6).bind fun t202 => (some t202))) else (some false)))) else (if t193 = true then (if (t195 == true) = true then ((laws_haOk.f kj6).bind fun t203 => (some t203)) else (some false)) else (if t194 = true then (if (t195 == true) = true then ((laws_haOk.f kj6).bind fun t204 => (some t204)) else (some false)) else (if (t195 == false) = true then ((laws_haOk.f kj6).bind fun t205 => (some t205)) else (some false))))) else (if t193 = true then (if (t195 == true) = true then ((laws_haOk.f kj6).bind fun t206 => (some t206)) else (some false)) else (if t194 = true then (if (t195 == true) = true then ((laws_haOk.f kj6).bind fun t207 => (some t207)) else (some false)) else (if (t195 == false) = true then ((laws_haOk.f kj6).bind fun t208 => (some t208)) else (some false))))) = some r := by rw [if_neg (show ¬ (false = true) by decide)] at H; exact H
          clear H
          have H := H1
          clear H1
          by_cases c48 : t190 = 50
          · rw [if_pos c48] at H
            have c48b0 : (t190 == 50) = true := beq_iff_eq.mpr c48
            have c48b1 : (t190 != 50) = false := bne_eq_false_iff_eq.mpr c48
            clear c48
            by_cases c49 : t191 ≥ 1
            · rw [if_pos c49] at H
              have c49b0 : decide (1 ≤ t191) = true := decide_eq_true c49
              clear c49
              by_cases c50 : t193 = true
              · subst c50
                have H1 : (if (t195 == true) = true then (if t191 ≤ 999 then (some false) else ((laws_haOk.f kj6).bind fun t199 => (some t199))) else (some false)) = some r := by rw [if_pos rfl] at H; exact H
                clear H
                have H := H1
                clear H1
                by_cases c51 : (t195 == true) = true
                · rw [if_pos c51] at H
                  have c51b0 : (t195 == true) = true := c51
                  (try (have c51b1 : decide (t195 = true) = true := by simpa using c51))
                  (try (have c51b2 : (t195 == true) = true := by simpa using c51))
                  clear c51
                  by_cases c52 : t191 ≤ 999
                  · rw [if_pos c52] at H
                    have c52b0 : decide (t191 ≤ 999) = true := decide_eq_true c52
                    clear c52
                    obtain rfl := Option.some.inj H
                    have hcz53_0 : wc.cell? ⟨gb192, 0, none⟩ = some (.int .i64 t190) := (blk_cell BK192.out 0).trans rfl
                    have hcz53_1 : wc.cell? ⟨gb192, 1, none⟩ = some (.int .i64 t191) := (blk_cell BK192.out 1).trans rfl
                    have hfz53_0 := blk_frozen BK192.out 0
                    have hfz53_1 := blk_frozen BK192.out 1
                    go_wp2
                    go_ret
                    exact ⟨by first | rfl | (simp [errW_none, errW_some] <;> rfl) | (simp [*, errW_none, errW_some] <;> rfl), by repeat (first | (with_reducible first | exact HB.out | apply below_alloc | apply pw_below_drewN | apply below_drew1 | refine below_set ?_ GE192.out) | exact HB.out)⟩
                  · rw [if_neg c52] at H
                    have c52b0 : decide (t191 ≤ 999) = false := decide_eq_false c52
                    clear c52
                    replace H := Option.bind_eq_some_iff.mp H
                    obtain ⟨t199, A540, H⟩ := H
                    replace H : (some t199) = some r := H
                    have A54 := Aside0.mk A540
                    clear A540
                    obtain rfl := Option.some.inj H
                    have hcz55_0 : wc.cell? ⟨gb192, 0, none⟩ = some (.int .i64 t190) := (blk_cell BK192.out 0).trans rfl
                    have hcz55_1 : wc.cell? ⟨gb192, 1, none⟩ = some (.int .i64 t191) := (blk_cell BK192.out 1).trans rfl
                    have hfz55_0 := blk_frozen BK192.out 0
                    have hfz55_1 := blk_frozen BK192.out 1
                    go_wp2_with (first | (go_at_call 37; (with_reducible refine (laws_haOk.calls kj6  t199 _ A54.out).mono ?_); rintro e w56 ⟨rfl, hb⟩; have n0_ := Aside0.mk (blk_below (g := gb192) (o := .cells #[.int .i64 t190, .int .i64 t191] 26 (0, 0)) (by (with_reducible repeat (first | refine blk_drewN ?_ _ | refine blk_drew ?_ | refine blk_alloc ?_ _)); exact BK192.out) hb); have n1_ := Aside0.mk (below_step (by repeat (first | (with_reducible first | exact HB.out | apply below_alloc | apply pw_below_drewN | apply below_drew1 | refine below_set ?_ GE192.out) | exact HB.out)) hb); clear BK192; clear HB; have BK192 := n0_; have HB := n1_; clear n0_ n1_; (try clear hb); (try clear hb2); (try clear hk); (try clear hi)))
                    go_ret
                    exact ⟨by first | rfl | (simp [errW_none, errW_some] <;> rfl) | (simp [*, errW_none, errW_some] <;> rfl), by repeat (first | (with_reducible first | exact HB.out | apply below_alloc | apply pw_below_drewN | apply below_drew1 | refine below_set ?_ GE192.out) | exact HB.out)⟩
                · rw [if_neg c51] at H
                  have c51b0 : (t195 == true) = false := by simpa using c51
                  (try (have c51b1 : decide (t195 = true) = false := by simpa using c51))
                  (try (have c51b2 : (t195 == true) = false := by simpa using c51))
                  (try (have c51b3 : ¬ (t195 = true) := by simpa using c51))
                  clear c51
                  obtain rfl := Option.some.inj H
                  have hcz57_0 : wc.cell? ⟨gb192, 0, none⟩ = some (.int .i64 t190) := (blk_cell BK192.out 0).trans rfl
                  have hcz57_1 : wc.cell? ⟨gb192, 1, none⟩ = some (.int .i64 t191) := (blk_cell BK192.out 1).trans rfl
                  have hfz57_0 := blk_frozen BK192.out 0
                  have hfz57_1 := blk_frozen BK192.out 1
                  go_wp2
                  go_ret
                  exact ⟨by first | rfl | (simp [errW_none, errW_some] <;> rfl) | (simp [*, errW_none, errW_some] <;> rfl), by repeat (first | (with_reducible first | exact HB.out | apply below_alloc | apply pw_below_drewN | apply below_drew1 | refine below_set ?_ GE192.out) | exact HB.out)⟩
              · replace c50 := Bool.eq_false_iff.mpr c50
                subst c50
                have H1 : (if t194 = true then (if (t195 == true) = true then (if t191 ≤ 999 then (some false) else ((laws_haOk.f kj6).bind fun t200 => (some t200))) else (some false)) else (if (t195 == (decide (t191 ≤ 999))) = true then (if t191 ≤ 999 then ((laws_haOk.f kj6).bind fun t201 => (some t201)) else ((laws_haOk.f kj6).bind fun t202 => (some t202))) else (some false))) = some r := by rw [if_neg (show ¬ (false = true) by decide)] at H; exact H
                clear H
                have H := H1
                clear H1
                by_cases c58 : t194 = true
                · subst c58
                  have H1 : (if (t195 == true) = true then (if t191 ≤ 999 then (some false) else ((laws_haOk.f kj6).bind fun t200 => (some t200))) else (some false)) = some r := by rw [if_pos rfl] at H; exact H
                  clear H
                  have H := H1
                  clear H1
                  by_cases c59 : (t195 == true) = true
                  · rw [if_pos c59] at H
                    have c59b0 : (t195 == true) = true := c59
                    (try (have c59b1 : decide (t195 = true) = true := by simpa using c59))
                    (try (have c59b2 : (t195 == true) = true := by simpa using c59))
                    clear c59
                    by_cases c60 : t191 ≤ 999
                    · rw [if_pos c60] at H
                      have c60b0 : decide (t191 ≤ 999) = true := decide_eq_true c60
                      clear c60
                      obtain rfl := Option.some.inj H
                      have hcz61_0 : wc.cell? ⟨gb192, 0, none⟩ = some (.int .i64 t190) := (blk_cell BK192.out 0).trans rfl
                      have hcz61_1 : wc.cell? ⟨gb192, 1, none⟩ = some (.int .i64 t191) := (blk_cell BK192.out 1).trans rfl
                      have hfz61_0 := blk_frozen BK192.out 0
                      have hfz61_1 := blk_frozen BK192.out 1
                      go_wp2
                      go_ret
                      exact ⟨by first | rfl | (simp [errW_none, errW_some] <;> rfl) | (simp [*, errW_none, errW_some] <;> rfl), by repeat (first | (with_reducible first | exact HB.out | apply below_alloc | apply pw_below_drewN | apply below_drew1 | refine below_set ?_ GE192.out) | exact HB.out)⟩
                    · rw [if_neg c60] at H
                      have c60b0 : decide (t191 ≤ 999) = false := decide_eq_false c60
                      clear c60
                      replace H := Option.bind_eq_some_iff.mp H
                      obtain ⟨t200, A620, H⟩ := H
                      replace H : (some t200) = some r := H
                      have A62 := Aside0.mk A620
                      clear A620
                      obtain rfl := Option.some.inj H
                      have hcz63_0 : wc.cell? ⟨gb192, 0, none⟩ = some (.int .i64 t190) := (blk_cell BK192.out 0).trans rfl
                      have hcz63_1 : wc.cell? ⟨gb192, 1, none⟩ = some (.int .i64 t191) := (blk_cell BK192.out 1).trans rfl
                      have hfz63_0 := blk_frozen BK192.out 0
                      have hfz63_1 := blk_frozen BK192.out 1
                      go_wp2_with (first | (go_at_call 37; (with_reducible refine (laws_haOk.calls kj6  t200 _ A62.out).mono ?_); rintro e w64 ⟨rfl, hb⟩; have n0_ := Aside0.mk (blk_below (g := gb192) (o := .cells #[.int .i64 t190, .int .i64 t191] 26 (0, 0)) (by (with_reducible repeat (first | refine blk_drewN ?_ _ | refine blk_drew ?_ | refine blk_alloc ?_ _)); exact BK192.out) hb); have n1_ := Aside0.mk (below_step (by repeat (first | (with_reducible first | exact HB.out | apply below_alloc | apply pw_below_drewN | apply below_drew1 | refine below_set ?_ GE192.out) | exact HB.out)) hb); clear BK192; clear HB; have BK192 := n0_; have HB := n1_; clear n0_ n1_; (try clear hb); (try clear hb2); (try clear hk); (try clear hi)))
                      go_ret
                      exact ⟨by first | rfl | (simp [errW_none, errW_some] <;> rfl) | (simp [*, errW_none, errW_some] <;> rfl), by repeat (first | (with_reducible first | exact HB.out | apply below_alloc | apply pw_below_drewN | apply below_drew1 | refine below_set ?_ GE192.out) | exact HB.out)⟩
                  · rw [if_neg c59] at H
                    have c59b0 : (t195 == true) = false := by simpa using c59
                    (try (have c59b1 : decide (t195 = true) = false := by simpa using c59))
                    (try (have c59b2 : (t195 == true) = false := by simpa using c59))
                    (try (have c59b3 : ¬ (t195 = true) := by simpa using c59))
                    clear c59
                    obtain rfl := Option.some.inj H
                    have hcz65_0 : wc.cell? ⟨gb192, 0, none⟩ = some (.int .i64 t190) := (blk_cell BK192.out 0).trans rfl
                    have hcz65_1 : wc.cell? ⟨gb192, 1, none⟩ = some (.int .i64 t191) := (blk_cell BK192.out 1).trans rfl
                    have hfz65_0 := blk_frozen BK192.out 0
                    have hfz65_1 := blk_frozen BK192.out 1
                    go_wp2
                    go_ret
                    exact ⟨by first | rfl | (simp [errW_none, errW_some] <;> rfl) | (simp [*, errW_none, errW_some] <;> rfl), by repeat (first | (with_reducible first | exact HB.out | apply below_alloc | apply pw_below_drewN | apply below_drew1 | refine below_set ?_ GE192.out) | exact HB.out)⟩
                · replace c58 := Bool.eq_false_iff.mpr c58
                  subst c58
                  have H1 : (if (t195 == (decide (t191 ≤ 999))) = true then (if t191 ≤ 999 then ((laws_haOk.f kj6).bind fun t201 => (some t201)) else ((laws_haOk.f kj6).bind fun t202 => (some t202))) else (some false)) = some r := by rw [if_neg (show ¬ (false = true) by decide)] at H; exact H
                  clear H
                  have H := H1
                  clear H1
                  by_cases c66 : (t195 == (decide (t191 ≤ 999))) = true
                  · rw [if_pos c66] at H
                    have c66b0 : (t195 == (decide (t191 ≤ 999))) = true := c66
                    (try (have c66b1 : decide (t195 = (decide (t191 ≤ 999))) = true := by simpa using c66))
                    (try (have c66b2 : (t195 == (decide (t191 ≤ 999))) = true := by simpa using c66))
                    clear c66
                    by_cases c67 : t191 ≤ 999
                    · rw [if_pos c67] at H
                      have c67b9 : t195 = true := by have h_ := c66b0; simpa [c67] using h_
                      have c67b0 : decide (t191 ≤ 999) = true := decide_eq_true c67
                      clear c67
                      replace H := Option.bind_eq_some_iff.mp H
                      obtain ⟨t201, A680, H⟩ := H
                      replace H : (some t201) = some r := H
                      have A68 := Aside0.mk A680
                      clear A680
                      obtain rfl := Option.some.inj H
                      have hcz69_0 : wc.cell? ⟨gb192, 0, none⟩ = some (.int .i64 t190) := (blk_cell BK192.out 0).trans rfl
                      have hcz69_1 : wc.cell? ⟨gb192, 1, none⟩ = some (.int .i64 t191) := (blk_cell BK192.out 1).trans rfl
                      have hfz69_0 := blk_frozen BK192.out 0
                      have hfz69_1 := blk_frozen BK192.out 1
                      go_wp2_with (first | (go_at_call 37; (with_reducible refine (laws_haOk.calls kj6  t201 _ A68.out).mono ?_); rintro e w70 ⟨rfl, hb⟩; have n0_ := Aside0.mk (blk_below (g := gb192) (o := .cells #[.int .i64 t190, .int .i64 t191] 26 (0, 0)) (by (with_reducible repeat (first | refine blk_drewN ?_ _ | refine blk_drew ?_ | refine blk_alloc ?_ _)); exact BK192.out) hb); have n1_ := Aside0.mk (below_step (by repeat (first | (with_reducible first | exact HB.out | apply below_alloc | apply pw_below_drewN | apply below_drew1 | refine below_set ?_ GE192.out) | exact HB.out)) hb); clear BK192; clear HB; have BK192 := n0_; have HB := n1_; clear n0_ n1_; (try clear hb); (try clear hb2); (try clear hk); (try clear hi)))
                      go_ret
                      exact ⟨by first | rfl | (simp [errW_none, errW_some] <;> rfl) | (simp [*, errW_none, errW_some] <;> rfl), by repeat (first | (with_reducible first | exact HB.out | apply below_alloc | apply pw_below_drewN | apply below_drew1 | refine below_set ?_ GE192.out) | exact HB.out)⟩
                    · rw [if_neg c67] at H
                      have c67b9 : t195 = false := by have h_ := c66b0; simpa [c67] using h_
                      have c67b0 : decide (t191 ≤ 999) = false := decide_eq_false c67
                      clear c67
                      replace H := Option.bind_eq_some_iff.mp H
                      obtain ⟨t202, A710, H⟩ := H
                      replace H : (some t202) = some r := H
                      have A71 := Aside0.mk A710
                      clear A710
                      obtain rfl := Option.some.inj H
                      have hcz72_0 : wc.cell? ⟨gb192, 0, none⟩ = some (.int .i64 t190) := (blk_cell BK192.out 0).trans rfl
                      have hcz72_1 : wc.cell? ⟨gb192, 1, none⟩ = some (.int .i64 t191) := (blk_cell BK192.out 1).trans rfl
                      have hfz72_0 := blk_frozen BK192.out 0
                      have hfz72_1 := blk_frozen BK192.out 1
                      go_wp2_with (first | (go_at_call 37; (with_reducible refine (laws_haOk.calls kj6  t202 _ A71.out).mono ?_); rintro e w73 ⟨rfl, hb⟩; have n0_ := Aside0.mk (blk_below (g := gb192) (o := .cells #[.int .i64 t190, .int .i64 t191] 26 (0, 0)) (by (with_reducible repeat (first | refine blk_drewN ?_ _ | refine blk_drew ?_ | refine blk_alloc ?_ _)); exact BK192.out) hb); have n1_ := Aside0.mk (below_step (by repeat (first | (with_reducible first | exact HB.out | apply below_alloc | apply pw_below_drewN | apply below_drew1 | refine below_set ?_ GE192.out) | exact HB.out)) hb); clear BK192; clear HB; have BK192 := n0_; have HB := n1_; clear n0_ n1_; (try clear hb); (try clear hb2); (try clear hk); (try clear hi)))
                      go_ret
                      exact ⟨by first | rfl | (simp [errW_none, errW_some] <;> rfl) | (simp [*, errW_none, errW_some] <;> rfl), by repeat (first | (with_reducible first | exact HB.out | apply below_alloc | apply pw_below_drewN | apply below_drew1 | refine below_set ?_ GE192.out) | exact HB.out)⟩
                  · rw [if_neg c66] at H
                    have c66b0 : (t195 == (decide (t191 ≤ 999))) = false := by simpa using c66
                    (try (have c66b1 : decide (t195 = (decide (t191 ≤ 999))) = false := by simpa using c66))
                    (try (have c66b2 : (t195 == (decide (t191 ≤ 999))) = false := by simpa using c66))
                    (try (have c66b3 : ¬ (t195 = (decide (t191 ≤ 999))) := by simpa using c66))
                    clear c66
                    obtain rfl := Option.some.inj H
                    have hcz74_0 : wc.cell? ⟨gb192, 0, none⟩ = some (.int .i64 t190) := (blk_cell BK192.out 0).trans rfl
                    have hcz74_1 : wc.cell? ⟨gb192, 1, none⟩ = some (.int .i64 t191) := (blk_cell BK192.out 1).trans rfl
                    have hfz74_0 := blk_frozen BK192.out 0
                    have hfz74_1 := blk_frozen BK192.out 1
                    go_wp2
                    go_ret
                    exact ⟨by first | rfl | (simp [errW_none, errW_some] <;> rfl) | (simp [*, errW_none, errW_some] <;> rfl), by repeat (first | (with_reducible first | exact HB.out | apply below_alloc | apply pw_below_drewN | apply below_drew1 | refine below_set ?_ GE192.out) | exact HB.out)⟩
            · rw [if_neg c49] at H
              have c49b0 : decide (1 ≤ t191) = false := decide_eq_false c49
              clear c49
              by_cases c75 : t193 = true
              · subst c75
                have H1 : (if (t195 == true) = true then ((laws_haOk.f kj6).bind fun t203 => (some t203)) else (some false)) = some r := by rw [if_pos rfl] at H; exact H
                clear H
                have H := H1
                clear H1
                by_cases c76 : (t195 == true) = true
                · rw [if_pos c76] at H
                  have c76b0 : (t195 == true) = true := c76
                  (try (have c76b1 : decide (t195 = true) = true := by simpa using c76))
                  (try (have c76b2 : (t195 == true) = true := by simpa using c76))
                  clear c76
                  replace H := Option.bind_eq_some_iff.mp H
                  obtain ⟨t203, A770, H⟩ := H
                  replace H : (some t203) = some r := H
                  have A77 := Aside0.mk A770
                  clear A770
                  obtain rfl := Option.some.inj H
                  have hcz78_0 : wc.cell? ⟨gb192, 0, none⟩ = some (.int .i64 t190) := (blk_cell BK192.out 0).trans rfl
                  have hcz78_1 : wc.cell? ⟨gb192, 1, none⟩ = some (.int .i64 t191) := (blk_cell BK192.out 1).trans rfl
                  have hfz78_0 := blk_frozen BK192.out 0
                  have hfz78_1 := blk_frozen BK192.out 1
                  go_wp2_with (first | (go_at_call 37; (with_reducible refine (laws_haOk.calls kj6  t203 _ A77.out).mono ?_); rintro e w79 ⟨rfl, hb⟩; have n0_ := Aside0.mk (blk_below (g := gb192) (o := .cells #[.int .i64 t190, .int .i64 t191] 26 (0, 0)) (by (with_reducible repeat (first | refine blk_drewN ?_ _ | refine blk_drew ?_ | refine blk_alloc ?_ _)); exact BK192.out) hb); have n1_ := Aside0.mk (below_step (by repeat (first | (with_reducible first | exact HB.out | apply below_alloc | apply pw_below_drewN | apply below_drew1 | refine below_set ?_ GE192.out) | exact HB.out)) hb); clear BK192; clear HB; have BK192 := n0_; have HB := n1_; clear n0_ n1_; (try clear hb); (try clear hb2); (try clear hk); (try clear hi)))
                  go_ret
                  exact ⟨by first | rfl | (simp [errW_none, errW_some] <;> rfl) | (simp [*, errW_none, errW_some] <;> rfl), by repeat (first | (with_reducible first | exact HB.out | apply below_alloc | apply pw_below_drewN | apply below_drew1 | refine below_set ?_ GE192.out) | exact HB.out)⟩
                · rw [if_neg c76] at H
                  have c76b0 : (t195 == true) = false := by simpa using c76
                  (try (have c76b1 : decide (t195 = true) = false := by simpa using c76))
                  (try (have c76b2 : (t195 == true) = false := by simpa using c76))
                  (try (have c76b3 : ¬ (t195 = true) := by simpa using c76))
                  clear c76
                  obtain rfl := Option.some.inj H
                  have hcz80_0 : wc.cell? ⟨gb192, 0, none⟩ = some (.int .i64 t190) := (blk_cell BK192.out 0).trans rfl
                  have hcz80_1 : wc.cell? ⟨gb192, 1, none⟩ = some (.int .i64 t191) := (blk_cell BK192.out 1).trans rfl
                  have hfz80_0 := blk_frozen BK192.out 0
                  have hfz80_1 := blk_frozen BK192.out 1
                  go_wp2
                  go_ret
                  exact ⟨by first | rfl | (simp [errW_none, errW_some] <;> rfl) | (simp [*, errW_none, errW_some] <;> rfl), by repeat (first | (with_reducible first | exact HB.out | apply below_alloc | apply pw_below_drewN | apply below_drew1 | refine below_set ?_ GE192.out) | exact HB.out)⟩
              · replace c75 := Bool.eq_false_iff.mpr c75
                subst c75
                have H1 : (if t194 = true then (if (t195 == true) = true then ((laws_haOk.f kj6).bind fun t204 => (some t204)) else (some false)) else (if (t195 == false) = true then ((laws_haOk.f kj6).bind fun t205 => (some t205)) else (some false))) = some r := by rw [if_neg (show ¬ (false = true) by decide)] at H; exact H
                clear H
                have H := H1
                clear H1
                by_cases c81 : t194 = true
                · subst c81
                  have H1 : (if (t195 == true) = true then ((laws_haOk.f kj6).bind fun t204 => (some t204)) else (some false)) = some r := by rw [if_pos rfl] at H; exact H
                  clear H
                  have H := H1
                  clear H1
                  by_cases c82 : (t195 == true) = true
                  · rw [if_pos c82] at H
                    have c82b0 : (t195 == true) = true := c82
                    (try (have c82b1 : decide (t195 = true) = true := by simpa using c82))
                    (try (have c82b2 : (t195 == true) = true := by simpa using c82))
                    clear c82
                    replace H := Option.bind_eq_some_iff.mp H
                    obtain ⟨t204, A830, H⟩ := H
                    replace H : (some t204) = some r := H
                    have A83 := Aside0.mk A830
                    clear A830
                    obtain rfl := Option.some.inj H
                    have hcz84_0 : wc.cell? ⟨gb192, 0, none⟩ = some (.int .i64 t190) := (blk_cell BK192.out 0).trans rfl
                    have hcz84_1 : wc.cell? ⟨gb192, 1, none⟩ = some (.int .i64 t191) := (blk_cell BK192.out 1).trans rfl
                    have hfz84_0 := blk_frozen BK192.out 0
                    have hfz84_1 := blk_frozen BK192.out 1
                    go_wp2_with (first | (go_at_call 37; (with_reducible refine (laws_haOk.calls kj6  t204 _ A83.out).mono ?_); rintro e w85 ⟨rfl, hb⟩; have n0_ := Aside0.mk (blk_below (g := gb192) (o := .cells #[.int .i64 t190, .int .i64 t191] 26 (0, 0)) (by (with_reducible repeat (first | refine blk_drewN ?_ _ | refine blk_drew ?_ | refine blk_alloc ?_ _)); exact BK192.out) hb); have n1_ := Aside0.mk (below_step (by repeat (first | (with_reducible first | exact HB.out | apply below_alloc | apply pw_below_drewN | apply below_drew1 | refine below_set ?_ GE192.out) | exact HB.out)) hb); clear BK192; clear HB; have BK192 := n0_; have HB := n1_; clear n0_ n1_; (try clear hb); (try clear hb2); (try clear hk); (try clear hi)))
                    go_ret
                    exact ⟨by first | rfl | (simp [errW_none, errW_some] <;> rfl) | (simp [*, errW_none, errW_some] <;> rfl), by repeat (first | (with_reducible first | exact HB.out | apply below_alloc | apply pw_below_drewN | apply below_drew1 | refine below_set ?_ GE192.out) | exact HB.out)⟩
                  · rw [if_neg c82] at H
                    have c82b0 : (t195 == true) = false := by simpa using c82
                    (try (have c82b1 : decide (t195 = true) = false := by simpa using c82))
                    (try (have c82b2 : (t195 == true) = false := by simpa using c82))
                    (try (have c82b3 : ¬ (t195 = true) := by simpa using c82))
                    clear c82
                    obtain rfl := Option.some.inj H
                    have hcz86_0 : wc.cell? ⟨gb192, 0, none⟩ = some (.int .i64 t190) := (blk_cell BK192.out 0).trans rfl
                    have hcz86_1 : wc.cell? ⟨gb192, 1, none⟩ = some (.int .i64 t191) := (blk_cell BK192.out 1).trans rfl
                    have hfz86_0 := blk_frozen BK192.out 0
                    have hfz86_1 := blk_frozen BK192.out 1
                    go_wp2
                    go_ret
                    exact ⟨by first | rfl | (simp [errW_none, errW_some] <;> rfl) | (simp [*, errW_none, errW_some] <;> rfl), by repeat (first | (with_reducible first | exact HB.out | apply below_alloc | apply pw_below_drewN | apply below_drew1 | refine below_set ?_ GE192.out) | exact HB.out)⟩
                · replace c81 := Bool.eq_false_iff.mpr c81
                  subst c81
                  have H1 : (if (t195 == false) = true then ((laws_haOk.f kj6).bind fun t205 => (some t205)) else (some false)) = some r := by rw [if_neg (show ¬ (false = true) by decide)] at H; exact H
                  clear H
                  have H := H1
                  clear H1
                  by_cases c87 : (t195 == false) = true
                  · rw [if_pos c87] at H
                    have c87b0 : (t195 == false) = true := c87
                    (try (have c87b1 : decide (t195 = false) = true := by simpa using c87))
                    (try (have c87b2 : (t195 == false) = true := by simpa using c87))
                    clear c87
                    replace H := Option.bind_eq_some_iff.mp H
                    obtain ⟨t205, A880, H⟩ := H
                    replace H : (some t205) = some r := H
                    have A88 := Aside0.mk A880
                    clear A880
                    obtain rfl := Option.some.inj H
                    have hcz89_0 : wc.cell? ⟨gb192, 0, none⟩ = some (.int .i64 t190) := (blk_cell BK192.out 0).trans rfl
                    have hcz89_1 : wc.cell? ⟨gb192, 1, none⟩ = some (.int .i64 t191) := (blk_cell BK192.out 1).trans rfl
                    have hfz89_0 := blk_frozen BK192.out 0
                    have hfz89_1 := blk_frozen BK192.out 1
                    go_wp2_with (first | (go_at_call 37; (with_reducible refine (laws_haOk.calls kj6  t205 _ A88.out).mono ?_); rintro e w90 ⟨rfl, hb⟩; have n0_ := Aside0.mk (blk_below (g := gb192) (o := .cells #[.int .i64 t190, .int .i64 t191] 26 (0, 0)) (by (with_reducible repeat (first | refine blk_drewN ?_ _ | refine blk_drew ?_ | refine blk_alloc ?_ _)); exact BK192.out) hb); have n1_ := Aside0.mk (below_step (by repeat (first | (with_reducible first | exact HB.out | apply below_alloc | apply pw_below_drewN | apply below_drew1 | refine below_set ?_ GE192.out) | exact HB.out)) hb); clear BK192; clear HB; have BK192 := n0_; have HB := n1_; clear n0_ n1_; (try clear hb); (try clear hb2); (try clear hk); (try clear hi)))
                    go_ret
                    exact ⟨by first | rfl | (simp [errW_none, errW_some] <;> rfl) | (simp [*, errW_none, errW_some] <;> rfl), by repeat (first | (with_reducible first | exact HB.out | apply below_alloc | apply pw_below_drewN | apply below_drew1 | refine below_set ?_ GE192.out) | exact HB.out)⟩
                  · rw [if_neg c87] at H
                    have c87b0 : (t195 == false) = false := by simpa using c87
                    (try (have c87b1 : decide (t195 = false) = false := by simpa using c87))
                    (try (have c87b2 : (t195 == false) = false := by simpa using c87))
                    (try (have c87b3 : ¬ (t195 = false) := by simpa using c87))
                    clear c87
                    obtain rfl := Option.some.inj H
                    have hcz91_0 : wc.cell? ⟨gb192, 0, none⟩ = some (.int .i64 t190) := (blk_cell BK192.out 0).trans rfl
                    have hcz91_1 : wc.cell? ⟨gb192, 1, none⟩ = some (.int .i64 t191) := (blk_cell BK192.out 1).trans rfl
                    have hfz91_0 := blk_frozen BK192.out 0
                    have hfz91_1 := blk_frozen BK192.out 1
                    go_wp2
                    go_ret
                    exact ⟨by first | rfl | (simp [errW_none, errW_some] <;> rfl) | (simp [*, errW_none, errW_some] <;> rfl), by repeat (first | (with_reducible first | exact HB.out | apply below_alloc | apply pw_below_drewN | apply below_drew1 | refine below_set ?_ GE192.out) | exact HB.out)⟩
          · rw [if_neg c48] at H
            have c48b0 : (t190 == 50) = false := beq_eq_false_iff_ne.mpr c48
            have c48b1 : (t190 != 50) = true := bne_iff_ne.mpr c48
            by_cases c92 : t193 = true
            · subst c92
              have H1 : (if (t195 == true) = true then ((laws_haOk.f kj6).bind fun t206 => (some t206)) else (some false)) = some r := by rw [if_pos rfl] at H; exact H
              clear H
              have H := H1
              clear H1
              by_cases c93 : (t195 == true) = true
              · rw [if_pos c93] at H
                have c93b0 : (t195 == true) = true := c93
                (try (have c93b1 : decide (t195 = true) = true := by simpa using c93))
                (try (have c93b2 : (t195 == true) = true := by simpa using c93))
                clear c93
                replace H := Option.bind_eq_some_iff.mp H
                obtain ⟨t206, A940, H⟩ := H
                replace H : (some t206) = some r := H
                have A94 := Aside0.mk A940
                clear A940
                obtain rfl := Option.some.inj H
                have hcz95_0 : wc.cell? ⟨gb192, 0, none⟩ = some (.int .i64 t190) := (blk_cell BK192.out 0).trans rfl
                have hcz95_1 : wc.cell? ⟨gb192, 1, none⟩ = some (.int .i64 t191) := (blk_cell BK192.out 1).trans rfl
                have hfz95_0 := blk_frozen BK192.out 0
                have hfz95_1 := blk_frozen BK192.out 1
                go_wp2_with (first | (go_at_call 37; (with_reducible refine (laws_haOk.calls kj6  t206 _ A94.out).mono ?_); rintro e w96 ⟨rfl, hb⟩; have n0_ := Aside0.mk (blk_below (g := gb192) (o := .cells #[.int .i64 t190, .int .i64 t191] 26 (0, 0)) (by (with_reducible repeat (first | refine blk_drewN ?_ _ | refine blk_drew ?_ | refine blk_alloc ?_ _)); exact BK192.out) hb); have n1_ := Aside0.mk (below_step (by repeat (first | (with_reducible first | exact HB.out | apply below_alloc | apply pw_below_drewN | apply below_drew1 | refine below_set ?_ GE192.out) | exact HB.out)) hb); clear BK192; clear HB; have BK192 := n0_; have HB := n1_; clear n0_ n1_; (try clear hb); (try clear hb2); (try clear hk); (try clear hi)))
                go_ret
                exact ⟨by first | rfl | (simp [errW_none, errW_some] <;> rfl) | (simp [*, errW_none, errW_some] <;> rfl), by repeat (first | (with_reducible first | exact HB.out | apply below_alloc | apply pw_below_drewN | apply below_drew1 | refine below_set ?_ GE192.out) | exact HB.out)⟩
              · rw [if_neg c93] at H
                have c93b0 : (t195 == true) = false := by simpa using c93
                (try (have c93b1 : decide (t195 = true) = false := by simpa using c93))
                (try (have c93b2 : (t195 == true) = false := by simpa using c93))
                (try (have c93b3 : ¬ (t195 = true) := by simpa using c93))
                clear c93
                obtain rfl := Option.some.inj H
                have hcz97_0 : wc.cell? ⟨gb192, 0, none⟩ = some (.int .i64 t190) := (blk_cell BK192.out 0).trans rfl
                have hcz97_1 : wc.cell? ⟨gb192, 1, none⟩ = some (.int .i64 t191) := (blk_cell BK192.out 1).trans rfl
                have hfz97_0 := blk_frozen BK192.out 0
                have hfz97_1 := blk_frozen BK192.out 1
                go_wp2
                go_ret
                exact ⟨by first | rfl | (simp [errW_none, errW_some] <;> rfl) | (simp [*, errW_none, errW_some] <;> rfl), by repeat (first | (with_reducible first | exact HB.out | apply below_alloc | apply pw_below_drewN | apply below_drew1 | refine below_set ?_ GE192.out) | exact HB.out)⟩
            · replace c92 := Bool.eq_false_iff.mpr c92
              subst c92
              have H1 : (if t194 = true then (if (t195 == true) = true then ((laws_haOk.f kj6).bind fun t207 => (some t207)) else (some false)) else (if (t195 == false) = true then ((laws_haOk.f kj6).bind fun t208 => (some t208)) else (some false))) = some r := by rw [if_neg (show ¬ (false = true) by decide)] at H; exact H
              clear H
              have H := H1
              clear H1
              by_cases c98 : t194 = true
              · subst c98
                have H1 : (if (t195 == true) = true then ((laws_haOk.f kj6).bind fun t207 => (some t207)) else (some false)) = some r := by rw [if_pos rfl] at H; exact H
                clear H
                have H := H1
                clear H1
                by_cases c99 : (t195 == true) = true
                · rw [if_pos c99] at H
                  have c99b0 : (t195 == true) = true := c99
                  (try (have c99b1 : decide (t195 = true) = true := by simpa using c99))
                  (try (have c99b2 : (t195 == true) = true := by simpa using c99))
                  clear c99
                  replace H := Option.bind_eq_some_iff.mp H
                  obtain ⟨t207, A1000, H⟩ := H
                  replace H : (some t207) = some r := H
                  have A100 := Aside0.mk A1000
                  clear A1000
                  obtain rfl := Option.some.inj H
                  have hcz101_0 : wc.cell? ⟨gb192, 0, none⟩ = some (.int .i64 t190) := (blk_cell BK192.out 0).trans rfl
                  have hcz101_1 : wc.cell? ⟨gb192, 1, none⟩ = some (.int .i64 t191) := (blk_cell BK192.out 1).trans rfl
                  have hfz101_0 := blk_frozen BK192.out 0
                  have hfz101_1 := blk_frozen BK192.out 1
                  go_wp2_with (first | (go_at_call 37; (with_reducible refine (laws_haOk.calls kj6  t207 _ A100.out).mono ?_); rintro e w102 ⟨rfl, hb⟩; have n0_ := Aside0.mk (blk_below (g := gb192) (o := .cells #[.int .i64 t190, .int .i64 t191] 26 (0, 0)) (by (with_reducible repeat (first | refine blk_drewN ?_ _ | refine blk_drew ?_ | refine blk_alloc ?_ _)); exact BK192.out) hb); have n1_ := Aside0.mk (below_step (by repeat (first | (with_reducible first | exact HB.out | apply below_alloc | apply pw_below_drewN | apply below_drew1 | refine below_set ?_ GE192.out) | exact HB.out)) hb); clear BK192; clear HB; have BK192 := n0_; have HB := n1_; clear n0_ n1_; (try clear hb); (try clear hb2); (try clear hk); (try clear hi)))
                  go_ret
                  exact ⟨by first | rfl | (simp [errW_none, errW_some] <;> rfl) | (simp [*, errW_none, errW_some] <;> rfl), by repeat (first | (with_reducible first | exact HB.out | apply below_alloc | apply pw_below_drewN | apply below_drew1 | refine below_set ?_ GE192.out) | exact HB.out)⟩
                · rw [if_neg c99] at H
                  have c99b0 : (t195 == true) = false := by simpa using c99
                  (try (have c99b1 : decide (t195 = true) = false := by simpa using c99))
                  (try (have c99b2 : (t195 == true) = false := by simpa using c99))
                  (try (have c99b3 : ¬ (t195 = true) := by simpa using c99))
                  clear c99
                  obtain rfl := Option.some.inj H
                  have hcz103_0 : wc.cell? ⟨gb192, 0, none⟩ = some (.int .i64 t190) := (blk_cell BK192.out 0).trans rfl
                  have hcz103_1 : wc.cell? ⟨gb192, 1, none⟩ = some (.int .i64 t191) := (blk_cell BK192.out 1).trans rfl
                  have hfz103_0 := blk_frozen BK192.out 0
                  have hfz103_1 := blk_frozen BK192.out 1
                  go_wp2
                  go_ret
                  exact ⟨by first | rfl | (simp [errW_none, errW_some] <;> rfl) | (simp [*, errW_none, errW_some] <;> rfl), by repeat (first | (with_reducible first | exact HB.out | apply below_alloc | apply pw_below_drewN | apply below_drew1 | refine below_set ?_ GE192.out) | exact HB.out)⟩
              · replace c98 := Bool.eq_false_iff.mpr c98
                subst c98
                have H1 : (if (t195 == false) = true then ((laws_haOk.f kj6).bind fun t208 => (some t208)) else (some false)) = some r := by rw [if_neg (show ¬ (false = true) by decide)] at H; exact H
                clear H
                have H := H1
                clear H1
                by_cases c104 : (t195 == false) = true
                · rw [if_pos c104] at H
                  have c104b0 : (t195 == false) = true := c104
                  (try (have c104b1 : decide (t195 = false) = true := by simpa using c104))
                  (try (have c104b2 : (t195 == false) = true := by simpa using c104))
                  clear c104
                  replace H := Option.bind_eq_some_iff.mp H
                  obtain ⟨t208, A1050, H⟩ := H
                  replace H : (some t208) = some r := H
                  have A105 := Aside0.mk A1050
                  clear A1050
                  obtain rfl := Option.some.inj H
                  have hcz106_0 : wc.cell? ⟨gb192, 0, none⟩ = some (.int .i64 t190) := (blk_cell BK192.out 0).trans rfl
                  have hcz106_1 : wc.cell? ⟨gb192, 1, none⟩ = some (.int .i64 t191) := (blk_cell BK192.out 1).trans rfl
                  have hfz106_0 := blk_frozen BK192.out 0
                  have hfz106_1 := blk_frozen BK192.out 1
                  go_wp2_with (first | (go_at_call 37; (with_reducible refine (laws_haOk.calls kj6  t208 _ A105.out).mono ?_); rintro e w107 ⟨rfl, hb⟩; have n0_ := Aside0.mk (blk_below (g := gb192) (o := .cells #[.int .i64 t190, .int .i64 t191] 26 (0, 0)) (by (with_reducible repeat (first | refine blk_drewN ?_ _ | refine blk_drew ?_ | refine blk_alloc ?_ _)); exact BK192.out) hb); have n1_ := Aside0.mk (below_step (by repeat (first | (with_reducible first | exact HB.out | apply below_alloc | apply pw_below_drewN | apply below_drew1 | refine below_set ?_ GE192.out) | exact HB.out)) hb); clear BK192; clear HB; have BK192 := n0_; have HB := n1_; clear n0_ n1_; (try clear hb); (try clear hb2); (try clear hk); (try clear hi)))
                  go_ret
                  exact ⟨by first | rfl | (simp [errW_none, errW_some] <;> rfl) | (simp [*, errW_none, errW_some] <;> rfl), by repeat (first | (with_reducible first | exact HB.out | apply below_alloc | apply pw_below_drewN | apply below_drew1 | refine below_set ?_ GE192.out) | exact HB.out)⟩
                · rw [if_neg c104] at H
                  have c104b0 : (t195 == false) = false := by simpa using c104
                  (try (have c104b1 : decide (t195 = false) = false := by simpa using c104))
                  (try (have c104b2 : (t195 == false) = false := by simpa using c104))
                  (try (have c104b3 : ¬ (t195 = false) := by simpa using c104))
                  clear c104
                  obtain rfl := Option.some.inj H
                  have hcz108_0 : wc.cell? ⟨gb192, 0, none⟩ = some (.int .i64 t190) := (blk_cell BK192.out 0).trans rfl
                  have hcz108_1 : wc.cell? ⟨gb192, 1, none⟩ = some (.int .i64 t191) := (blk_cell BK192.out 1).trans rfl
                  have hfz108_0 := blk_frozen BK192.out 0
                  have hfz108_1 := blk_frozen BK192.out 1
                  go_wp2
                  go_ret
                  exact ⟨by first | rfl | (simp [errW_none, errW_some] <;> rfl) | (simp [*, errW_none, errW_some] <;> rfl), by repeat (first | (with_reducible first | exact HB.out | apply below_alloc | apply pw_below_drewN | apply below_drew1 | refine below_set ?_ GE192.out) | exact HB.out)⟩

/-- THE ONE PURE STATEMENT of laws_FnEndOk: yours. -/
def laws_FnEndOk.Pure : Prop := ∀ (l0 : List Int), l0.length ≤ maxLen → l0.length * 1 ≤ 140737488351232 → (∀ x ∈ l0, (Lit.int .u8 x).wf = true) → ∃ k, laws_FnEndOk.f k l0 = some true
theorem laws_FnEndOk.walk (P : laws_FnEndOk.Pure) (a0 : Option Addr) (len0 cap0 : Nat) (z0 : List Int) (w : World) (w0 : (a0 = none ∧ len0 = 0 ∧ cap0 = 0 ∧ z0 = []) ∨ ∃ x, a0 = some x ∧ len0 ≤ cap0 ∧ cap0 ≤ maxLen ∧ z0.length = cap0 ∧ (∀ i, i < z0.length → w.cell? (x.add i) = some (.int .u8 (z0.getD i 0))) ∧ ∀ n ∈ z0, (Lit.int .u8 n).wf = true) (y0 : len0 * 1 ≤ 140737488351232) :
    Calls Try.prog 12 #[.slice a0 len0 cap0] w fun e w' => e = .returned (.bool true) ∧ Below w.heap.size w w' := by
  obtain ⟨l0, rfl, hr0, hm0, hw0, hc0⟩ := ReadsInt.ofRowC w0
  obtain ⟨k, h⟩ := P l0 hm0 y0 hw0
  refine (laws_FnEndOk.calls k _ _ l0 true w (Kd.C_of_reads (d := (0 : Int)) (h1 := fun _ => rfl) hr0) hc0 h).mono ?_
  rintro e w' ⟨rfl, hd⟩
  exact ⟨rfl, hd⟩

end Go.Proofs.Ytndfmhcfeojahaa.QFnEndOk
