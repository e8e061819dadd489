-- Laid by a program of this repo (wip/tools/sprint.py): print.py's functions and walks; the contracts named 'BY HAND' are proved by hand.
import Derived.Test.YtdfoelhpeeanlaaQFnSegAddx0
import Derived.Test.YtdfoelhpeeanlaaQFnSegAddx1
import Derived.Test.YtdfoelhpeeanlaaQFnSegAddx3
namespace Go.Proofs.Ytdfoelhpeeanlaa.QFnSegAdd
open Go.RowKit Go.Proofs.YtdfoelhpeeanlaaW.PrintWords Go.Proofs.YtdfoelhpeeanlaaW.PrintLast Go.Proofs.YtdfoelhpeeanlaaW.PrintMore
attribute [local go_sem] max2_int min2_int max_two min_two max_three min_three max_four min_four   -- for this text's walks alone
set_option linter.unusedVariables false
set_option linter.unusedSimpArgs false

/-! ### laws_FnSegAdd: function 5 -/
mutual
def laws_FnSegAdd.j0 : Nat → ByteArray → ByteArray → Bool → Int → Int → Int → Int → Int → Int → ByteArray → Option (Bool)
  | 0, _, _, _, _, _, _, _, _, _, _ => none
  | k + 1, x3, x5, x35, x295000, x295001, x295002, x295003, x295004, x295005, x295006 => if x35 = true then (some false) else (if x295004 < 0 then (laws_FnSegAdd.j1 k x3 x5 (wrap64 (x295004 + (x295006.size : Int))) true x295000 x295001 x295002 x295003 x295004 x295005 x295006) else (if x295004 > (x3.size : Int) then (laws_FnSegAdd.j1 k x3 x5 (wrap64 (x295004 + (x295006.size : Int))) true x295000 x295001 x295002 x295003 x295004 x295005 x295006) else (laws_FnSegAdd.j1 k x3 x5 (wrap64 (x295004 + (x295006.size : Int))) (decide ((wrap64 (x295004 + (x295006.size : Int))) ≤ (x3.size : Int))) x295000 x295001 x295002 x295003 x295004 x295005 x295006)))
def laws_FnSegAdd.j1 : Nat → ByteArray → ByteArray → Int → Bool → Int → Int → Int → Int → Int → Int → ByteArray → Option (Bool)
  | 0, _, _, _, _, _, _, _, _, _, _, _ => none
  | k + 1, x3, x5, x6, x57, x295000, x295001, x295002, x295003, x295004, x295005, x295006 => if x57 = true then (if x5.toList = x3.toList then ((laws_haOk.f).bind fun t299 => (some t299)) else (some false)) else (if (x5.size : Int) = x6 then (if 0 ≤ x295004 then (if x295004 ≤ (x5.size : Int) then (if (x5.extract (x295004 : Int).toNat x5.size).toList = ([] : List UInt8) then (some false) else (if 0 ≤ (x3.size : Int) then (if (x3.size : Int) ≤ (x5.size : Int) then (if 0 ≤ (wrap64 ((x3.size : Int) - x295004)) then (if (wrap64 ((x3.size : Int) - x295004)) ≤ (x295006.size : Int) then ((laws_haStarts.f (x5.extract ((x3.size : Int) : Int).toNat x5.size) (x295006.extract ((wrap64 ((x3.size : Int) - x295004)) : Int).toNat x295006.size)).bind fun t300 => (some t300)) else (none)) else (none)) else (none)) else (none))) else (none)) else (none)) else (some false))
end
def laws_FnSegAdd.f (k : Nat) (l0 : List Int) : Option (Bool) := if (l0.length : Int) > 1048576 then (some true) else ((spec_DrawSegAdd.f k l0).bind fun bt286 => ((impl_SegAdd.f bt286.1 bt286.2.1 bt286.2.2.1 bt286.2.2.2.1 bt286.2.2.2.2.1 bt286.2.2.2.2.2.1 bt286.2.2.2.2.2.2.1 bt286.2.2.2.2.2.2.2).bind fun t295 => ((spec_SegAdd.f bt286.1 bt286.2.1 bt286.2.2.1 bt286.2.2.2.1 bt286.2.2.2.2.1 bt286.2.2.2.2.2.1 bt286.2.2.2.2.2.2.1 bt286.2.2.2.2.2.2.2).bind fun t296 => (if t295.toList = t296.toList then ((laws_haStarts.f t295 bt286.1).bind fun t297 => (if t297 = true then ((impl_SegAdd.f t295 bt286.2.1 bt286.2.2.1 bt286.2.2.2.1 bt286.2.2.2.2.1 bt286.2.2.2.2.2.1 bt286.2.2.2.2.2.2.1 bt286.2.2.2.2.2.2.2).bind fun t298 => (laws_FnSegAdd.j0 k bt286.1 t295 (t298.toList != t295.toList) bt286.2.1 bt286.2.2.1 bt286.2.2.2.1 bt286.2.2.2.2.1 bt286.2.2.2.2.2.1 bt286.2.2.2.2.2.2.1 bt286.2.2.2.2.2.2.2)) else (laws_FnSegAdd.j0 k bt286.1 t295 true bt286.2.1 bt286.2.2.1 bt286.2.2.2.1 bt286.2.2.2.2.1 bt286.2.2.2.2.2.1 bt286.2.2.2.2.2.2.1 bt286.2.2.2.2.2.2.2))) else (laws_FnSegAdd.j0 k bt286.1 t295 true bt286.2.1 bt286.2.2.1 bt286.2.2.2.1 bt286.2.2.2.2.1 bt286.2.2.2.2.2.1 bt286.2.2.2.2.2.2.1 bt286.2.2.2.2.2.2.2)))))
theorem laws_FnSegAdd.mono_l : ∀ k, (∀ y0 y1 y2 y3 y4 y5 y6 y7 y8 y9, LeO (laws_FnSegAdd.j0 k y0 y1 y2 y3 y4 y5 y6 y7 y8 y9) (laws_FnSegAdd.j0 (k + 1) y0 y1 y2 y3 y4 y5 y6 y7 y8 y9)) ∧ (∀ y0 y1 y2 y3 y4 y5 y6 y7 y8 y9 y10, LeO (laws_FnSegAdd.j1 k y0 y1 y2 y3 y4 y5 y6 y7 y8 y9 y10) (laws_FnSegAdd.j1 (k + 1) y0 y1 y2 y3 y4 y5 y6 y7 y8 y9 y10))
  | 0 => ⟨fun _ _ _ _ _ _ _ _ _ _ r h => by simp [laws_FnSegAdd.j0] at h, fun _ _ _ _ _ _ _ _ _ _ _ r h => by simp [laws_FnSegAdd.j1] at h⟩
  | k + 1 => by
    obtain ⟨ih0, ih1⟩ := laws_FnSegAdd.mono_l k
    refine ⟨?_, ?_⟩
    · intro y0 y1 y2 y3 y4 y5 y6 y7 y8 y9
      unfold laws_FnSegAdd.j0
      repeat' first
      | (with_reducible exact ih0 _ _ _ _ _ _ _ _ _ _)
      | (with_reducible exact ih1 _ _ _ _ _ _ _ _ _ _ _)
      | (with_reducible exact spec_DrawSegAdd.mono _ _)
      | (with_reducible exact LeO.refl _)
      | (with_reducible exact LeO.none _)
      | (with_reducible refine LeO.ite ?_ ?_)
      | (with_reducible refine LeO.bind ?_ (fun _ => ?_))
      | exact ih0 _ _ _ _ _ _ _ _ _ _
      | exact ih1 _ _ _ _ _ _ _ _ _ _ _
      | exact spec_DrawSegAdd.mono _ _
      | exact LeO.none _
      | refine LeO.ite ?_ ?_
      | refine LeO.bind ?_ (fun _ => ?_)
    · intro y0 y1 y2 y3 y4 y5 y6 y7 y8 y9 y10
      unfold laws_FnSegAdd.j1
      repeat' first
      | (with_reducible exact ih0 _ _ _ _ _ _ _ _ _ _)
      | (with_reducible exact ih1 _ _ _ _ _ _ _ _ _ _ _)
      | (with_reducible exact spec_DrawSegAdd.mono _ _)
      | (with_reducible exact LeO.refl _)
      | (with_reducible exact LeO.none _)
      | (with_reducible refine LeO.ite ?_ ?_)
      | (with_reducible refine LeO.bind ?_ (fun _ => ?_))
      | exact ih0 _ _ _ _ _ _ _ _ _ _
      | exact ih1 _ _ _ _ _ _ _ _ _ _ _
      | exact spec_DrawSegAdd.mono _ _
      | exact LeO.none _
      | refine LeO.ite ?_ ?_
      | refine LeO.bind ?_ (fun _ => ?_)
theorem laws_FnSegAdd.mono : ∀ a0 k, LeO (laws_FnSegAdd.f k a0) (laws_FnSegAdd.f (k + 1) a0) := by
  intro a0 k
  obtain ⟨ih0, ih1⟩ := laws_FnSegAdd.mono_l k
  unfold laws_FnSegAdd.f
  repeat' first
      | (with_reducible exact ih0 _ _ _ _ _ _ _ _ _ _)
      | (with_reducible exact ih1 _ _ _ _ _ _ _ _ _ _ _)
      | (with_reducible exact spec_DrawSegAdd.mono _ _)
      | (with_reducible exact LeO.refl _)
      | (with_reducible exact LeO.none _)
      | (with_reducible refine LeO.ite ?_ ?_)
      | (with_reducible refine LeO.bind ?_ (fun _ => ?_))
      | exact ih0 _ _ _ _ _ _ _ _ _ _
      | exact ih1 _ _ _ _ _ _ _ _ _ _ _
      | exact spec_DrawSegAdd.mono _ _
      | exact LeO.none _
      | refine LeO.ite ?_ ?_
      | refine LeO.bind ?_ (fun _ => ?_)
set_option maxHeartbeats 8000000 in
set_option maxRecDepth 100000 in
theorem laws_FnSegAdd.calls (k : Nat) (A0 : Option Addr) (c0 : Nat) (l0 : List Int) (r : Bool) (w : World) (hr0 : Kd.C (Kd.int .u8) w A0 l0.length l0) (hc0 : l0.length ≤ c0) (h : laws_FnSegAdd.f k l0 = some r) :
    Calls Try.prog 5 #[.slice A0 l0.length c0] w fun e w' => e = .returned (.bool r) ∧ Below w.heap.size w w' := by
  have hu31 := Try.underlying31
  have HR0 := Aside0.mk hr0
  have HC0 := Aside0.mk hc0
  clear hr0 hc0
  have HB := Aside0.mk (Below.refl w.heap.size w)
  have H : (if (l0.length : Int) > 1048576 then (some true) else ((spec_DrawSegAdd.f k l0).bind fun bt286 => ((impl_SegAdd.f bt286.1 bt286.2.1 bt286.2.2.1 bt286.2.2.2.1 bt286.2.2.2.2.1 bt286.2.2.2.2.2.1 bt286.2.2.2.2.2.2.1 bt286.2.2.2.2.2.2.2).bind fun t295 => ((spec_SegAdd.f bt286.1 bt286.2.1 bt286.2.2.1 bt286.2.2.2.1 bt286.2.2.2.2.1 bt286.2.2.2.2.2.1 bt286.2.2.2.2.2.2.1 bt286.2.2.2.2.2.2.2).bind fun t296 => (if t295.toList = t296.toList then ((laws_haStarts.f t295 bt286.1).bind fun t297 => (if t297 = true then ((impl_SegAdd.f t295 bt286.2.1 bt286.2.2.1 bt286.2.2.2.1 bt286.2.2.2.2.1 bt286.2.2.2.2.2.1 bt286.2.2.2.2.2.2.1 bt286.2.2.2.2.2.2.2).bind fun t298 => (laws_FnSegAdd.j0 k bt286.1 t295 (t298.toList != t295.toList) bt286.2.1 bt286.2.2.1 bt286.2.2.2.1 bt286.2.2.2.2.1 bt286.2.2.2.2.2.1 bt286.2.2.2.2.2.2.1 bt286.2.2.2.2.2.2.2)) else (laws_FnSegAdd.j0 k bt286.1 t295 true bt286.2.1 bt286.2.2.1 bt286.2.2.2.1 bt286.2.2.2.2.1 bt286.2.2.2.2.2.1 bt286.2.2.2.2.2.2.1 bt286.2.2.2.2.2.2.2))) else (laws_FnSegAdd.j0 k bt286.1 t295 true bt286.2.1 bt286.2.2.1 bt286.2.2.2.1 bt286.2.2.2.2.1 bt286.2.2.2.2.2.1 bt286.2.2.2.2.2.2.1 bt286.2.2.2.2.2.2.2)))))) = some r := h
  clear h
  by_cases c2 : (l0.length : Int) > 1048576
  · rw [if_pos c2] at H
    have c2b0 : decide (1048576 < (l0.length : Int)) = true := decide_eq_true c2
    have c2b1 : decide (1048576 < l0.length) = true := decide_eq_true (by omega)
    clear c2
    obtain rfl := Option.some.inj H
    go_enter Try.func5, Try.ntmps5
    go_wp2
    repeat (go_quiet (fail); try go_wp2)
    go_ret
    exact ⟨by first | rfl | (simp [errW_none, errW_some] <;> rfl) | (simp [*, errW_none, errW_some] <;> rfl), by repeat (first | (with_reducible first | exact HB.out | apply below_alloc | apply pw_below_drewN | apply below_drew1) | exact HB.out)⟩
  · rw [if_neg c2] at H
    have c2b0 : decide (1048576 < (l0.length : Int)) = false := decide_eq_false c2
    have c2b1 : decide (1048576 < l0.length) = false := decide_eq_false (by omega)
    clear c2
    replace H := Option.bind_eq_some_iff.mp H
    obtain ⟨⟨t286, t287, t288, t289, t290, t291, t292, t293⟩, A30, H⟩ := H
    replace H : ((impl_SegAdd.f t286 t287 t288 t289 t290 t291 t292 t293).bind fun t295 => ((spec_SegAdd.f t286 t287 t288 t289 t290 t291 t292 t293).bind fun t296 => (if t295.toList = t296.toList then ((laws_haStarts.f t295 t286).bind fun t297 => (if t297 = true then ((impl_SegAdd.f t295 t287 t288 t289 t290 t291 t292 t293).bind fun t298 => (laws_FnSegAdd.j0 k t286 t295 (t298.toList != t295.toList) t287 t288 t289 t290 t291 t292 t293)) else (laws_FnSegAdd.j0 k t286 t295 true t287 t288 t289 t290 t291 t292 t293))) else (laws_FnSegAdd.j0 k t286 t295 true t287 t288 t289 t290 t291 t292 t293)))) = some r := H
    have A3 := Aside0.mk A30
    clear A30
    replace H := Option.bind_eq_some_iff.mp H
    obtain ⟨t295, A40, H⟩ := H
    replace H : ((spec_SegAdd.f t286 t287 t288 t289 t290 t291 t292 t293).bind fun t296 => (if t295.toList = t296.toList then ((laws_haStarts.f t295 t286).bind fun t297 => (if t297 = true then ((impl_SegAdd.f t295 t287 t288 t289 t290 t291 t292 t293).bind fun t298 => (laws_FnSegAdd.j0 k t286 t295 (t298.toList != t295.toList) t287 t288 t289 t290 t291 t292 t293)) else (laws_FnSegAdd.j0 k t286 t295 true t287 t288 t289 t290 t291 t292 t293))) else (laws_FnSegAdd.j0 k t286 t295 true t287 t288 t289 t290 t291 t292 t293))) = some r := H
    have A4 := Aside0.mk A40
    clear A40
    have HC5 := Aside0.mk H
    clear H
    go_enter Try.func5, Try.ntmps5
    go_upto_region 5 with (first | (go_at_call 22; (with_reducible refine (spec_DrawSegAdd.calls k _ _ l0 t286 t287 t288 t289 t290 t291 t292 t293 _ ?side1 ?side2 A3.out).mono ?_); (case side1 => repeat (first | exact HR0.out | (with_reducible refine Kd.C_alloc ?_ _) | (with_reducible refine Kd.C_drewN ?_ _) | (with_reducible refine Kd.C_drew ?_))); (case side2 => exact HC0.out); rintro e w6 ⟨rfl, hb⟩; have n0_ := Aside0.mk (below_step (by repeat (first | (with_reducible first | exact HB.out | apply below_alloc | apply pw_below_drewN | apply below_drew1) | exact HB.out)) hb); clear HB; have HB := n0_; clear n0_; (try clear hb); (try clear hb2); (try clear hk); (try clear hi)) | ((with_reducible refine gate_dst (N := 4) rfl ?_); (try (refine gate_guard (by rfl) ?_; dsimp only)); refine box_event ?hg (N := 4) ?hd (cs := #[.int .i64 0, .int .i64 0, .int .i64 0, .int .i64 0, .int .i64 0, .int .i64 0, .string (⟨#[]⟩ : ByteArray)]) (t := 31) ?hr ?_; (case hd => rfl); (case hg => rfl); (case hr => first | (go_simp; done) | (go_simp; rfl)); intro gb294 hg w7 hbox hb; have n0_ := Aside0.mk (below_step (by repeat (first | (with_reducible first | exact HB.out | apply below_alloc | apply pw_below_drewN | apply below_drew1) | exact HB.out)) hb); have n1_ := Aside0.mk (hbox); have n2_ := Aside0.mk ((by rw [hg]; exact (below_size (by repeat (first | (with_reducible first | exact HB.out | apply below_alloc | apply pw_below_drewN | apply below_drew1) | exact HB.out))) : w.heap.size ≤ gb294)); have n3_ := Aside0.mk ((by rw [hg]; exact (below_size (by repeat (first | (with_reducible first | exact HB.out | apply below_alloc | apply pw_below_drewN | apply below_drew1) | exact HB.out))) : w.heap.size ≤ gb294)); clear HB; have HB := n0_; have BK294 := n1_; have GW294 := n2_; have GE294 := n3_; clear n0_ n1_ n2_ n3_; clear hb hbox hg; have hcz8_0 : w7.cell? ⟨gb294, 0, none⟩ = some (.int .i64 0) := (blk_cell BK294.out 0).trans rfl; have hcz8_1 : w7.cell? ⟨gb294, 1, none⟩ = some (.int .i64 0) := (blk_cell BK294.out 1).trans rfl; have hcz8_2 : w7.cell? ⟨gb294, 2, none⟩ = some (.int .i64 0) := (blk_cell BK294.out 2).trans rfl; have hcz8_3 : w7.cell? ⟨gb294, 3, none⟩ = some (.int .i64 0) := (blk_cell BK294.out 3).trans rfl; have hcz8_4 : w7.cell? ⟨gb294, 4, none⟩ = some (.int .i64 0) := (blk_cell BK294.out 4).trans rfl; have hcz8_5 : w7.cell? ⟨gb294, 5, none⟩ = some (.int .i64 0) := (blk_cell BK294.out 5).trans rfl; have hcz8_6 : w7.cell? ⟨gb294, 6, none⟩ = some (.string (⟨#[]⟩ : ByteArray)) := (blk_cell BK294.out 6).trans rfl; have hfz8_0 := blk_frozen BK294.out 0; have hfz8_1 := blk_frozen BK294.out 1; have hfz8_2 := blk_frozen BK294.out 2; have hfz8_3 := blk_frozen BK294.out 3; have hfz8_4 := blk_frozen BK294.out 4; have hfz8_5 := blk_frozen BK294.out 5; have hfz8_6 := blk_frozen BK294.out 6) | (go_at_call 23; (with_reducible refine (impl_SegAdd.calls t286 t287 t288 t289 t290 t291 t292 t293 t295 _ A4.out).mono ?_); rintro e w9 ⟨rfl, hb⟩; have n0_ := Aside0.mk (blk_below (g := gb294) (o := .cells #[.int .i64 t287, .int .i64 t288, .int .i64 t289, .int .i64 t290, .int .i64 t291, .int .i64 t292, .string t293] 31 (0, 0)) (by (with_reducible repeat (first | refine blk_drewN ?_ _ | refine blk_drew ?_ | refine blk_alloc ?_ _)); refine blk_put (cs := #[.int .i64 t287, .int .i64 t288, .int .i64 t289, .int .i64 t290, .int .i64 t291, .int .i64 t292, .string (⟨#[]⟩ : ByteArray)]) ?_ 6 _ rfl; (with_reducible repeat (first | refine blk_drewN ?_ _ | refine blk_drew ?_ | refine blk_alloc ?_ _)); refine blk_put (cs := #[.int .i64 t287, .int .i64 t288, .int .i64 t289, .int .i64 t290, .int .i64 t291, .int .i64 0, .string (⟨#[]⟩ : ByteArray)]) ?_ 5 _ rfl; (with_reducible repeat (first | refine blk_drewN ?_ _ | refine blk_drew ?_ | refine blk_alloc ?_ _)); refine blk_put (cs := #[.int .i64 t287, .int .i64 t288, .int .i64 t289, .int .i64 t290, .int .i64 0, .int .i64 0, .string (⟨#[]⟩ : ByteArray)]) ?_ 4 _ rfl; (with_reducible repeat (first | refine blk_drewN ?_ _ | refine blk_drew ?_ | refine blk_alloc ?_ _)); refine blk_put (cs := #[.int .i64 t287, .int .i64 t288, .int .i64 t289, .int .i64 0, .int .i64 0, .int .i64 0, .string (⟨#[]⟩ : ByteArray)]) ?_ 3 _ rfl; (with_reducible repeat (first | refine blk_drewN ?_ _ | refine blk_drew ?_ | refine blk_alloc ?_ _)); refine blk_put (cs := #[.int .i64 t287, .int .i64 t288, .int .i64 0, .int .i64 0, .int .i64 0, .int .i64 0, .string (⟨#[]⟩ : ByteArray)]) ?_ 2 _ rfl; (with_reducible repeat (first | refine blk_drewN ?_ _ | refine blk_drew ?_ | refine blk_alloc ?_ _)); refine blk_put (cs := #[.int .i64 t287, .int .i64 0, .int .i64 0, .int .i64 0, .int .i64 0, .int .i64 0, .string (⟨#[]⟩ : ByteArray)]) ?_ 1 _ rfl; (with_reducible repeat (first | refine blk_drewN ?_ _ | refine blk_drew ?_ | refine blk_alloc ?_ _)); refine blk_put (cs := #[.int .i64 0, .int .i64 0, .int .i64 0, .int .i64 0, .int .i64 0, .int .i64 0, .string (⟨#[]⟩ : ByteArray)]) ?_ 0 _ rfl; (with_reducible repeat (first | refine blk_drewN ?_ _ | refine blk_drew ?_ | refine blk_alloc ?_ _)); exact BK294.out) hb); have n1_ := Aside0.mk (below_step (by repeat (first | (with_reducible first | exact HB.out | apply below_alloc | apply pw_below_drewN | apply below_drew1 | refine below_set ?_ GE294.out) | exact HB.out)) hb); clear BK294; clear HB; have BK294 := n0_; have HB := n1_; clear n0_ n1_; (try clear hb); (try clear hb2); (try clear hk); (try clear hi)))
    repeat (go_quiet (first | (go_at_call 22; (with_reducible refine (spec_DrawSegAdd.calls k _ _ l0 t286 t287 t288 t289 t290 t291 t292 t293 _ ?side1 ?side2 A3.out).mono ?_); (case side1 => repeat (first | exact HR0.out | (with_reducible refine Kd.C_alloc ?_ _) | (with_reducible refine Kd.C_drewN ?_ _) | (with_reducible refine Kd.C_drew ?_))); (case side2 => exact HC0.out); rintro e w6 ⟨rfl, hb⟩; have n0_ := Aside0.mk (below_step (by repeat (first | (with_reducible first | exact HB.out | apply below_alloc | apply pw_below_drewN | apply below_drew1) | exact HB.out)) hb); clear HB; have HB := n0_; clear n0_; (try clear hb); (try clear hb2); (try clear hk); (try clear hi)) | ((with_reducible refine gate_dst (N := 4) rfl ?_); (try (refine gate_guard (by rfl) ?_; dsimp only)); refine box_event ?hg (N := 4) ?hd (cs := #[.int .i64 0, .int .i64 0, .int .i64 0, .int .i64 0, .int .i64 0, .int .i64 0, .string (⟨#[]⟩ : ByteArray)]) (t := 31) ?hr ?_; (case hd => rfl); (case hg => rfl); (case hr => first | (go_simp; done) | (go_simp; rfl)); intro gb294 hg w7 hbox hb; have n0_ := Aside0.mk (below_step (by repeat (first | (with_reducible first | exact HB.out | apply below_alloc | apply pw_below_drewN | apply below_drew1) | exact HB.out)) hb); have n1_ := Aside0.mk (hbox); have n2_ := Aside0.mk ((by rw [hg]; exact (below_size (by repeat (first | (with_reducible first | exact HB.out | apply below_alloc | apply pw_below_drewN | apply below_drew1) | exact HB.out))) : w.heap.size ≤ gb294)); have n3_ := Aside0.mk ((by rw [hg]; exact (below_size (by repeat (first | (with_reducible first | exact HB.out | apply below_alloc | apply pw_below_drewN | apply below_drew1) | exact HB.out))) : w.heap.size ≤ gb294)); clear HB; have HB := n0_; have BK294 := n1_; have GW294 := n2_; have GE294 := n3_; clear n0_ n1_ n2_ n3_; clear hb hbox hg; have hcz8_0 : w7.cell? ⟨gb294, 0, none⟩ = some (.int .i64 0) := (blk_cell BK294.out 0).trans rfl; have hcz8_1 : w7.cell? ⟨gb294, 1, none⟩ = some (.int .i64 0) := (blk_cell BK294.out 1).trans rfl; have hcz8_2 : w7.cell? ⟨gb294, 2, none⟩ = some (.int .i64 0) := (blk_cell BK294.out 2).trans rfl; have hcz8_3 : w7.cell? ⟨gb294, 3, none⟩ = some (.int .i64 0) := (blk_cell BK294.out 3).trans rfl; have hcz8_4 : w7.cell? ⟨gb294, 4, none⟩ = some (.int .i64 0) := (blk_cell BK294.out 4).trans rfl; have hcz8_5 : w7.cell? ⟨gb294, 5, none⟩ = some (.int .i64 0) := (blk_cell BK294.out 5).trans rfl; have hcz8_6 : w7.cell? ⟨gb294, 6, none⟩ = some (.string (⟨#[]⟩ : ByteArray)) := (blk_cell BK294.out 6).trans rfl; have hfz8_0 := blk_frozen BK294.out 0; have hfz8_1 := blk_frozen BK294.out 1; have hfz8_2 := blk_frozen BK294.out 2; have hfz8_3 := blk_frozen BK294.out 3; have hfz8_4 := blk_frozen BK294.out 4; have hfz8_5 := blk_frozen BK294.out 5; have hfz8_6 := blk_frozen BK294.out 6) | (go_at_call 23; (with_reducible refine (impl_SegAdd.calls t286 t287 t288 t289 t290 t291 t292 t293 t295 _ A4.out).mono ?_); rintro e w9 ⟨rfl, hb⟩; have n0_ := Aside0.mk (blk_below (g := gb294) (o := .cells #[.int .i64 t287, .int .i64 t288, .int .i64 t289, .int .i64 t290, .int .i64 t291, .int .i64 t292, .string t293] 31 (0, 0)) (by (with_reducible repeat (first | refine blk_drewN ?_ _ | refine blk_drew ?_ | refine blk_alloc ?_ _)); refine blk_put (cs := #[.int .i64 t287, .int .i64 t288, .int .i64 t289, .int .i64 t290, .int .i64 t291, .int .i64 t292, .string (⟨#[]⟩ : ByteArray)]) ?_ 6 _ rfl; (with_reducible repeat (first | refine blk_drewN ?_ _ | refine blk_drew ?_ | refine blk_alloc ?_ _)); refine blk_put (cs := #[.int .i64 t287, .int .i64 t288, .int .i64 t289, .int .i64 t290, .int .i64 t291, .int .i64 0, .string (⟨#[]⟩ : ByteArray)]) ?_ 5 _ rfl; (with_reducible repeat (first | refine blk_drewN ?_ _ | refine blk_drew ?_ | refine blk_alloc ?_ _)); refine blk_put (cs := #[.int .i64 t287, .int .i64 t288, .int .i64 t289, .int .i64 t290, .int .i64 0, .int .i64 0, .string (⟨#[]⟩ : ByteArray)]) ?_ 4 _ rfl; (with_reducible repeat (first | refine blk_drewN ?_ _ | refine blk_drew ?_ | refine blk_alloc ?_ _)); refine blk_put (cs := #[.int .i64 t287, .int .i64 t288, .int .i64 t289, .int .i64 0, .int .i64 0, .int .i64 0, .string (⟨#[]⟩ : ByteArray)]) ?_ 3 _ rfl; (with_reducible repeat (first | refine blk_drewN ?_ _ | refine blk_drew ?_ | refine blk_alloc ?_ _)); refine blk_put (cs := #[.int .i64 t287, .int .i64 t288, .int .i64 0, .int .i64 0, .int .i64 0, .int .i64 0, .string (⟨#[]⟩ : ByteArray)]) ?_ 2 _ rfl; (with_reducible repeat (first | refine blk_drewN ?_ _ | refine blk_drew ?_ | refine blk_alloc ?_ _)); refine blk_put (cs := #[.int .i64 t287, .int .i64 0, .int .i64 0, .int .i64 0, .int .i64 0, .int .i64 0, .string (⟨#[]⟩ : ByteArray)]) ?_ 1 _ rfl; (with_reducible repeat (first | refine blk_drewN ?_ _ | refine blk_drew ?_ | refine blk_alloc ?_ _)); refine blk_put (cs := #[.int .i64 0, .int .i64 0, .int .i64 0, .int .i64 0, .int .i64 0, .int .i64 0, .string (⟨#[]⟩ : ByteArray)]) ?_ 0 _ rfl; (with_reducible repeat (first | refine blk_drewN ?_ _ | refine blk_drew ?_ | refine blk_alloc ?_ _)); exact BK294.out) hb); have n1_ := Aside0.mk (below_step (by repeat (first | (with_reducible first | exact HB.out | apply below_alloc | apply pw_below_drewN | apply below_drew1 | refine below_set ?_ GE294.out) | exact HB.out)) hb); clear BK294; clear HB; have BK294 := n0_; have HB := n1_; clear n0_ n1_; (try clear hb); (try clear hb2); (try clear hk); (try clear hi))); go_upto_region 5 with (first | (go_at_call 22; (with_reducible refine (spec_DrawSegAdd.calls k _ _ l0 t286 t287 t288 t289 t290 t291 t292 t293 _ ?side1 ?side2 A3.out).mono ?_); (case side1 => repeat (first | exact HR0.out | (with_reducible refine Kd.C_alloc ?_ _) | (with_reducible refine Kd.C_drewN ?_ _) | (with_reducible refine Kd.C_drew ?_))); (case side2 => exact HC0.out); rintro e w6 ⟨rfl, hb⟩; have n0_ := Aside0.mk (below_step (by repeat (first | (with_reducible first | exact HB.out | apply below_alloc | apply pw_below_drewN | apply below_drew1) | exact HB.out)) hb); clear HB; have HB := n0_; clear n0_; (try clear hb); (try clear hb2); (try clear hk); (try clear hi)) | ((with_reducible refine gate_dst (N := 4) rfl ?_); (try (refine gate_guard (by rfl) ?_; dsimp only)); refine box_event ?hg (N := 4) ?hd (cs := #[.int .i64 0, .int .i64 0, .int .i64 0, .int .i64 0, .int .i64 0, .int .i64 0, .string (⟨#[]⟩ : ByteArray)]) (t := 31) ?hr ?_; (case hd => rfl); (case hg => rfl); (case hr => first | (go_simp; done) | (go_simp; rfl)); intro gb294 hg w7 hbox hb; have n0_ := Aside0.mk (below_step (by repeat (first | (with_reducible first | exact HB.out | apply below_alloc | apply pw_below_drewN | apply below_drew1) | exact HB.out)) hb); have n1_ := Aside0.mk (hbox); have n2_ := Aside0.mk ((by rw [hg]; exact (below_size (by repeat (first | (with_reducible first | exact HB.out | apply below_alloc | apply pw_below_drewN | apply below_drew1) | exact HB.out))) : w.heap.size ≤ gb294)); have n3_ := Aside0.mk ((by rw [hg]; exact (below_size (by repeat (first | (with_reducible first | exact HB.out | apply below_alloc | apply pw_below_drewN | apply below_drew1) | exact HB.out))) : w.heap.size ≤ gb294)); clear HB; have HB := n0_; have BK294 := n1_; have GW294 := n2_; have GE294 := n3_; clear n0_ n1_ n2_ n3_; clear hb hbox hg; have hcz8_0 : w7.cell? ⟨gb294, 0, none⟩ = some (.int .i64 0) := (blk_cell BK294.out 0).trans rfl; have hcz8_1 : w7.cell? ⟨gb294, 1, none⟩ = some (.int .i64 0) := (blk_cell BK294.out 1).trans rfl; have hcz8_2 : w7.cell? ⟨gb294, 2, none⟩ = some (.int .i64 0) := (blk_cell BK294.out 2).trans rfl; have hcz8_3 : w7.cell? ⟨gb294, 3, none⟩ = some (.int .i64 0) := (blk_cell BK294.out 3).trans rfl; have hcz8_4 : w7.cell? ⟨gb294, 4, none⟩ = some (.int .i64 0) := (blk_cell BK294.out 4).trans rfl; have hcz8_5 : w7.cell? ⟨gb294, 5, none⟩ = some (.int .i64 0) := (blk_cell BK294.out 5).trans rfl; have hcz8_6 : w7.cell? ⟨gb294, 6, none⟩ = some (.string (⟨#[]⟩ : ByteArray)) := (blk_cell BK294.out 6).trans rfl; have hfz8_0 := blk_frozen BK294.out 0; have hfz8_1 := blk_frozen BK294.out 1; have hfz8_2 := blk_frozen BK294.out 2; have hfz8_3 := blk_frozen BK294.out 3; have hfz8_4 := blk_frozen BK294.out 4; have hfz8_5 := blk_frozen BK294.out 5; have hfz8_6 := blk_frozen BK294.out 6) | (go_at_call 23; (with_reducible refine (impl_SegAdd.calls t286 t287 t288 t289 t290 t291 t292 t293 t295 _ A4.out).mono ?_); rintro e w9 ⟨rfl, hb⟩; have n0_ := Aside0.mk (blk_below (g := gb294) (o := .cells #[.int .i64 t287, .int .i64 t288, .int .i64 t289, .int .i64 t290, .int .i64 t291, .int .i64 t292, .string t293] 31 (0, 0)) (by (with_reducible repeat (first | refine blk_drewN ?_ _ | refine blk_drew ?_ | refine blk_alloc ?_ _)); refine blk_put (cs := #[.int .i64 t287, .int .i64 t288, .int .i64 t289, .int .i64 t290, .int .i64 t291, .int .i64 t292, .string (⟨#[]⟩ : ByteArray)]) ?_ 6 _ rfl; (with_reducible repeat (first | refine blk_drewN ?_ _ | refine blk_drew ?_ | refine blk_alloc ?_ _)); refine blk_put (cs := #[.int .i64 t287, .int .i64 t288, .int .i64 t289, .int .i64 t290, .int .i64 t291, .int .i64 0, .string (⟨#[]⟩ : ByteArray)]) ?_ 5 _ rfl; (with_reducible repeat (first | refine blk_drewN ?_ _ | refine blk_drew ?_ | refine blk_alloc ?_ _)); refine blk_put (cs := #[.int .i64 t287, .int .i64 t288, .int .i64 t289, .int .i64 t290, .int .i64 0, .int .i64 0, .string (⟨#[]⟩ : ByteArray)]) ?_ 4 _ rfl; (with_reducible repeat (first | refine blk_drewN ?_ _ | refine blk_drew ?_ | refine blk_alloc ?_ _)); refine blk_put (cs := #[.int .i64 t287, .int .i64 t288, .int .i64 t289, .int .i64 0, .int .i64 0, .int .i64 0, .string (⟨#[]⟩ : ByteArray)]) ?_ 3 _ rfl; (with_reducible repeat (first | refine blk_drewN ?_ _ | refine blk_drew ?_ | refine blk_alloc ?_ _)); refine blk_put (cs := #[.int .i64 t287, .int .i64 t288, .int .i64 0, .int .i64 0, .int .i64 0, .int .i64 0, .string (⟨#[]⟩ : ByteArray)]) ?_ 2 _ rfl; (with_reducible repeat (first | refine blk_drewN ?_ _ | refine blk_drew ?_ | refine blk_alloc ?_ _)); refine blk_put (cs := #[.int .i64 t287, .int .i64 0, .int .i64 0, .int .i64 0, .int .i64 0, .int .i64 0, .string (⟨#[]⟩ : ByteArray)]) ?_ 1 _ rfl; (with_reducible repeat (first | refine blk_drewN ?_ _ | refine blk_drew ?_ | refine blk_alloc ?_ _)); refine blk_put (cs := #[.int .i64 0, .int .i64 0, .int .i64 0, .int .i64 0, .int .i64 0, .int .i64 0, .string (⟨#[]⟩ : ByteArray)]) ?_ 0 _ rfl; (with_reducible repeat (first | refine blk_drewN ?_ _ | refine blk_drew ?_ | refine blk_alloc ?_ _)); exact BK294.out) hb); have n1_ := Aside0.mk (below_step (by repeat (first | (with_reducible first | exact HB.out | apply below_alloc | apply pw_below_drewN | apply below_drew1 | refine below_set ?_ GE294.out) | exact HB.out)) hb); clear BK294; clear HB; have BK294 := n0_; have HB := n1_; clear n0_ n1_; (try clear hb); (try clear hb2); (try clear hk); (try clear hi))))
    (try simp only [Act.put, List.setIfInBounds_toArray, List.set_cons_zero, List.set_cons_succ])
    go_cut [35] (fun v35 wc => ∃ (kq : Nat) (x35_4 : Bool), v35 = .bool x35_4 ∧ Aside0 (laws_FnSegAdd.j0 kq t286 t295 x35_4 t287 t288 t289 t290 t291 t292 t293 = some r) ∧ Aside0 (kq ≤ k) ∧ Aside0 (wc.heap[gb294]? = some (.cells #[.int .i64 t287, .int .i64 t288, .int .i64 t289, .int .i64 t290, .int .i64 t291, .int .i64 t292, .string t293] 31 (0, 0))) ∧ Aside0 (Below w.heap.size w wc))
    case first =>
      have H := HC5.out
      clear HC5
      replace H := Option.bind_eq_some_iff.mp H
      obtain ⟨t296, A100, H⟩ := H
      replace H : (if t295.toList = t296.toList then ((laws_haStarts.f t295 t286).bind fun t297 => (if t297 = true then ((impl_SegAdd.f t295 t287 t288 t289 t290 t291 t292 t293).bind fun t298 => (laws_FnSegAdd.j0 k t286 t295 (t298.toList != t295.toList) t287 t288 t289 t290 t291 t292 t293)) else (laws_FnSegAdd.j0 k t286 t295 true t287 t288 t289 t290 t291 t292 t293))) else (laws_FnSegAdd.j0 k t286 t295 true t287 t288 t289 t290 t291 t292 t293)) = some r := H
      have A10 := Aside0.mk A100
      clear A100
      by_cases c11 : t295.toList = t296.toList
      · rw [if_pos c11] at H
        have c11b0 : (t295.toList == t296.toList) = true := beq_iff_eq.mpr c11
        have c11b1 : (t295.toList != t296.toList) = false := bne_eq_false_iff_eq.mpr c11
        clear c11
        (first | rw [c11b0] | (simp only [i64_w, i32_w]; rw [c11b0]) | skip)
        replace H := Option.bind_eq_some_iff.mp H
        obtain ⟨t297, A120, H⟩ := H
        replace H : (if t297 = true then ((impl_SegAdd.f t295 t287 t288 t289 t290 t291 t292 t293).bind fun t298 => (laws_FnSegAdd.j0 k t286 t295 (t298.toList != t295.toList) t287 t288 t289 t290 t291 t292 t293)) else (laws_FnSegAdd.j0 k t286 t295 true t287 t288 t289 t290 t291 t292 t293)) = some r := H
        have A12 := Aside0.mk A120
        clear A120
        by_cases c13 : t297 = true
        · subst c13
          have H1 : ((impl_SegAdd.f t295 t287 t288 t289 t290 t291 t292 t293).bind fun t298 => (laws_FnSegAdd.j0 k t286 t295 (t298.toList != t295.toList) t287 t288 t289 t290 t291 t292 t293)) = some r := by rw [if_pos rfl] at H; exact H
          clear H
          have H := H1
          clear H1
          replace H := Option.bind_eq_some_iff.mp H
          obtain ⟨t298, A140, H⟩ := H
          replace H : (laws_FnSegAdd.j0 k t286 t295 (t298.toList != t295.toList) t287 t288 t289 t290 t291 t292 t293) = some r := H
          have A14 := Aside0.mk A140
          clear A140
          have H' := Aside0.mk H
          clear H
          have hcz15_0 : w9.cell? ⟨gb294, 0, none⟩ = some (.int .i64 t287) := (blk_cell BK294.out 0).trans rfl
          have hcz15_1 : w9.cell? ⟨gb294, 1, none⟩ = some (.int .i64 t288) := (blk_cell BK294.out 1).trans rfl
          have hcz15_2 : w9.cell? ⟨gb294, 2, none⟩ = some (.int .i64 t289) := (blk_cell BK294.out 2).trans rfl
          have hcz15_3 : w9.cell? ⟨gb294, 3, none⟩ = some (.int .i64 t290) := (blk_cell BK294.out 3).trans rfl
          have hcz15_4 : w9.cell? ⟨gb294, 4, none⟩ = some (.int .i64 t291) := (blk_cell BK294.out 4).trans rfl
          have hcz15_5 : w9.cell? ⟨gb294, 5, none⟩ = some (.int .i64 t292) := (blk_cell BK294.out 5).trans rfl
          have hcz15_6 : w9.cell? ⟨gb294, 6, none⟩ = some (.string t293) := (blk_cell BK294.out 6).trans rfl
          have hfz15_0 := blk_frozen BK294.out 0
          have hfz15_1 := blk_frozen BK294.out 1
          have hfz15_2 := blk_frozen BK294.out 2
          have hfz15_3 := blk_frozen BK294.out 3
          have hfz15_4 := blk_frozen BK294.out 4
          have hfz15_5 := blk_frozen BK294.out 5
          have hfz15_6 := blk_frozen BK294.out 6
          go_wp2_with (first | (go_at_call 24; (with_reducible refine (spec_SegAdd.calls t286 t287 t288 t289 t290 t291 t292 t293 t296 _ A10.out).mono ?_); rintro e w16 ⟨rfl, hb⟩; have n0_ := Aside0.mk (blk_below (g := gb294) (o := .cells #[.int .i64 t287, .int .i64 t288, .int .i64 t289, .int .i64 t290, .int .i64 t291, .int .i64 t292, .string t293] 31 (0, 0)) (by (with_reducible repeat (first | refine blk_drewN ?_ _ | refine blk_drew ?_ | refine blk_alloc ?_ _)); exact BK294.out) hb); have n1_ := Aside0.mk (below_step (by repeat (first | (with_reducible first | exact HB.out | apply below_alloc | apply pw_below_drewN | apply below_drew1 | refine below_set ?_ GE294.out) | exact HB.out)) hb); clear BK294; clear HB; have BK294 := n0_; have HB := n1_; clear n0_ n1_; (try clear hb); (try clear hb2); (try clear hk); (try clear hi)) | (go_at_call 25; (with_reducible refine (laws_haStarts.calls t295 t286 true _ A12.out).mono ?_); rintro e w' ⟨rfl, ⟨nd, rfl⟩⟩; (try first | exact ⟨rfl, _, World.drewN_drewN _ _ _⟩ | exact ⟨rfl, _, Eq.trans (World.drewN_drewN _ _ _) (congrArg (World.drewN _) (Nat.add_assoc _ _ _))⟩); have hcz17_0 : w16.cell? ⟨gb294, 0, none⟩ = some (.int .i64 t287) := (blk_cell BK294.out 0).trans rfl; have hcz17_1 : w16.cell? ⟨gb294, 1, none⟩ = some (.int .i64 t288) := (blk_cell BK294.out 1).trans rfl; have hcz17_2 : w16.cell? ⟨gb294, 2, none⟩ = some (.int .i64 t289) := (blk_cell BK294.out 2).trans rfl; have hcz17_3 : w16.cell? ⟨gb294, 3, none⟩ = some (.int .i64 t290) := (blk_cell BK294.out 3).trans rfl; have hcz17_4 : w16.cell? ⟨gb294, 4, none⟩ = some (.int .i64 t291) := (blk_cell BK294.out 4).trans rfl; have hcz17_5 : w16.cell? ⟨gb294, 5, none⟩ = some (.int .i64 t292) := (blk_cell BK294.out 5).trans rfl; have hcz17_6 : w16.cell? ⟨gb294, 6, none⟩ = some (.string t293) := (blk_cell BK294.out 6).trans rfl; have hfz17_0 := blk_frozen BK294.out 0; have hfz17_1 := blk_frozen BK294.out 1; have hfz17_2 := blk_frozen BK294.out 2; have hfz17_3 := blk_frozen BK294.out 3; have hfz17_4 := blk_frozen BK294.out 4; have hfz17_5 := blk_frozen BK294.out 5; have hfz17_6 := blk_frozen BK294.out 6) | (go_at_call 23; (with_reducible refine (impl_SegAdd.calls t295 t287 t288 t289 t290 t291 t292 t293 t298 _ A14.out).mono ?_); rintro e w18 ⟨rfl, hb⟩; have n0_ := Aside0.mk (blk_below (g := gb294) (o := .cells #[.int .i64 t287, .int .i64 t288, .int .i64 t289, .int .i64 t290, .int .i64 t291, .int .i64 t292, .string t293] 31 (0, 0)) (by (with_reducible repeat (first | refine blk_drewN ?_ _ | refine blk_drew ?_ | refine blk_alloc ?_ _)); exact BK294.out) hb); have n1_ := Aside0.mk (below_step (by repeat (first | (with_reducible first | exact HB.out | apply below_alloc | apply pw_below_drewN | apply below_drew1 | refine below_set ?_ GE294.out) | exact HB.out)) hb); clear BK294; clear HB; have BK294 := n0_; have HB := n1_; clear n0_ n1_; (try clear hb); (try clear hb2); (try clear hk); (try clear hi)))
          repeat (go_quiet (first | (go_at_call 24; (with_reducible refine (spec_SegAdd.calls t286 t287 t288 t289 t290 t291 t292 t293 t296 _ A10.out).mono ?_); rintro e w16 ⟨rfl, hb⟩; have n0_ := Aside0.mk (blk_below (g := gb294) (o := .cells #[.int .i64 t287, .int .i64 t288, .int .i64 t289, .int .i64 t290, .int .i64 t291, .int .i64 t292, .string t293] 31 (0, 0)) (by (with_reducible repeat (first | refine blk_drewN ?_ _ | refine blk_drew ?_ | refine blk_alloc ?_ _)); exact BK294.out) hb); have n1_ := Aside0.mk (below_step (by repeat (first | (with_reducible first | exact HB.out | apply below_alloc | apply pw_below_drewN | apply below_drew1 | refine below_set ?_ GE294.out) | exact HB.out)) hb); clear BK294; clear HB; have BK294 := n0_; have HB := n1_; clear n0_ n1_; (try clear hb); (try clear hb2); (try clear hk); (try clear hi)) | (go_at_call 25; (with_reducible refine (laws_haStarts.calls t295 t286 true _ A12.out).mono ?_); rintro e w' ⟨rfl, ⟨nd, rfl⟩⟩; (try first | exact ⟨rfl, _, World.drewN_drewN _ _ _⟩ | exact ⟨rfl, _, Eq.trans (World.drewN_drewN _ _ _) (congrArg (World.drewN _) (Nat.add_assoc _ _ _))⟩); have hcz17_0 : w16.cell? ⟨gb294, 0, none⟩ = some (.int .i64 t287) := (blk_cell BK294.out 0).trans rfl; have hcz17_1 : w16.cell? ⟨gb294, 1, none⟩ = some (.int .i64 t288) := (blk_cell BK294.out 1).trans rfl; have hcz17_2 : w16.cell? ⟨gb294, 2, none⟩ = some (.int .i64 t289) := (blk_cell BK294.out 2).trans rfl; have hcz17_3 : w16.cell? ⟨gb294, 3, none⟩ = some (.int .i64 t290) := (blk_cell BK294.out 3).trans rfl; have hcz17_4 : w16.cell? ⟨gb294, 4, none⟩ = some (.int .i64 t291) := (blk_cell BK294.out 4).trans rfl; have hcz17_5 : w16.cell? ⟨gb294, 5, none⟩ = some (.int .i64 t292) := (blk_cell BK294.out 5).trans rfl; have hcz17_6 : w16.cell? ⟨gb294, 6, none⟩ = some (.string t293) := (blk_cell BK294.out 6).trans rfl; have hfz17_0 := blk_frozen BK294.out 0; have hfz17_1 := blk_frozen BK294.out 1; have hfz17_2 := blk_frozen BK294.out 2; have hfz17_3 := blk_frozen BK294.out 3; have hfz17_4 := blk_frozen BK294.out 4; have hfz17_5 := blk_frozen BK294.out 5; have hfz17_6 := blk_frozen BK294.out 6) | (go_at_call 23; (with_reducible refine (impl_SegAdd.calls t295 t287 t288 t289 t290 t291 t292 t293 t298 _ A14.out).mono ?_); rintro e w18 ⟨rfl, hb⟩; have n0_ := Aside0.mk (blk_below (g := gb294) (o := .cells #[.int .i64 t287, .int .i64 t288, .int .i64 t289, .int .i64 t290, .int .i64 t291, .int .i64 t292, .string t293] 31 (0, 0)) (by (with_reducible repeat (first | refine blk_drewN ?_ _ | refine blk_drew ?_ | refine blk_alloc ?_ _)); exact BK294.out) hb); have n1_ := Aside0.mk (below_step (by repeat (first | (with_reducible first | exact HB.out | apply below_alloc | apply pw_below_drewN | apply below_drew1 | refine below_set ?_ GE294.out) | exact HB.out)) hb); clear BK294; clear HB; have BK294 := n0_; have HB := n1_; clear n0_ n1_; (try clear hb); (try clear hb2); (try clear hk); (try clear hi))); try go_wp2_with (first | (go_at_call 24; (with_reducible refine (spec_SegAdd.calls t286 t287 t288 t289 t290 t291 t292 t293 t296 _ A10.out).mono ?_); rintro e w16 ⟨rfl, hb⟩; have n0_ := Aside0.mk (blk_below (g := gb294) (o := .cells #[.int .i64 t287, .int .i64 t288, .int .i64 t289, .int .i64 t290, .int .i64 t291, .int .i64 t292, .string t293] 31 (0, 0)) (by (with_reducible repeat (first | refine blk_drewN ?_ _ | refine blk_drew ?_ | refine blk_alloc ?_ _)); exact BK294.out) hb); have n1_ := Aside0.mk (below_step (by repeat (first | (with_reducible first | exact HB.out | apply below_alloc | apply pw_below_drewN | apply below_drew1 | refine below_set ?_ GE294.out) | exact HB.out)) hb); clear BK294; clear HB; have BK294 := n0_; have HB := n1_; clear n0_ n1_; (try clear hb); (try clear hb2); (try clear hk); (try clear hi)) | (go_at_call 25; (with_reducible refine (laws_haStarts.calls t295 t286 true _ A12.out).mono ?_); rintro e w' ⟨rfl, ⟨nd, rfl⟩⟩; (try first | exact ⟨rfl, _, World.drewN_drewN _ _ _⟩ | exact ⟨rfl, _, Eq.trans (World.drewN_drewN _ _ _) (congrArg (World.drewN _) (Nat.add_assoc _ _ _))⟩); have hcz17_0 : w16.cell? ⟨gb294, 0, none⟩ = some (.int .i64 t287) := (blk_cell BK294.out 0).trans rfl; have hcz17_1 : w16.cell? ⟨gb294, 1, none⟩ = some (.int .i64 t288) := (blk_cell BK294.out 1).trans rfl; have hcz17_2 : w16.cell? ⟨gb294, 2, none⟩ = some (.int .i64 t289) := (blk_cell BK294.out 2).trans rfl; have hcz17_3 : w16.cell? ⟨gb294, 3, none⟩ = some (.int .i64 t290) := (blk_cell BK294.out 3).trans rfl; have hcz17_4 : w16.cell? ⟨gb294, 4, none⟩ = some (.int .i64 t291) := (blk_cell BK294.out 4).trans rfl; have hcz17_5 : w16.cell? ⟨gb294, 5, none⟩ = some (.int .i64 t292) := (blk_cell BK294.out 5).trans rfl; have hcz17_6 : w16.cell? ⟨gb294, 6, none⟩ = some (.string t293) := (blk_cell BK294.out 6).trans rfl; have hfz17_0 := blk_frozen BK294.out 0; have hfz17_1 := blk_frozen BK294.out 1; have hfz17_2 := blk_frozen BK294.out 2; have hfz17_3 := blk_frozen BK294.out 3; have hfz17_4 := blk_frozen BK294.out 4; have hfz17_5 := blk_frozen BK294.out 5; have hfz17_6 := blk_frozen BK294.out 6) | (go_at_call 23; (with_reducible refine (impl_SegAdd.calls t295 t287 t288 t289 t290 t291 t292 t293 t298 _ A14.out).mono ?_); rintro e w18 ⟨rfl, hb⟩; have n0_ := Aside0.mk (blk_below (g := gb294) (o := .cells #[.int .i64 t287, .int .i64 t288, .int .i64 t289, .int .i64 t290, .int .i64 t291, .int .i64 t292, .string t293] 31 (0, 0)) (by (with_reducible repeat (first | refine blk_drewN ?_ _ | refine blk_drew ?_ | refine blk_alloc ?_ _)); exact BK294.out) hb); have n1_ := Aside0.mk (below_step (by repeat (first | (with_reducible first | exact HB.out | apply below_alloc | apply pw_below_drewN | apply below_drew1 | refine below_set ?_ GE294.out) | exact HB.out)) hb); clear BK294; clear HB; have BK294 := n0_; have HB := n1_; clear n0_ n1_; (try clear hb); (try clear hb2); (try clear hk); (try clear hi))))
          go_meet
          case rel => exact ⟨_, ((t298.toList != t295.toList)), (by first | rfl | (simp; done) | (simp [*]; done)), H', ⟨by first | omega | exact Nat.le_refl _⟩, ⟨by (with_reducible repeat (first | refine blk_drewN ?_ _ | refine blk_drew ?_ | refine blk_alloc ?_ _)); exact BK294.out⟩, ⟨by repeat (first | (with_reducible first | exact HB.out | apply below_alloc | apply pw_below_drewN | apply below_drew1 | refine below_set ?_ GE294.out) | exact HB.out)⟩⟩
        · replace c13 := Bool.eq_false_iff.mpr c13
          subst c13
          have H1 : (laws_FnSegAdd.j0 k t286 t295 true t287 t288 t289 t290 t291 t292 t293) = some r := by rw [if_neg (show ¬ (false = true) by decide)] at H; exact H
          clear H
          have H := H1
          clear H1
          have H' := Aside0.mk H
          clear H
          have hcz19_0 : w9.cell? ⟨gb294, 0, none⟩ = some (.int .i64 t287) := (blk_cell BK294.out 0).trans rfl
          have hcz19_1 : w9.cell? ⟨gb294, 1, none⟩ = some (.int .i64 t288) := (blk_cell BK294.out 1).trans rfl
          have hcz19_2 : w9.cell? ⟨gb294, 2, none⟩ = some (.int .i64 t289) := (blk_cell BK294.out 2).trans rfl
          have hcz19_3 : w9.cell? ⟨gb294, 3, none⟩ = some (.int .i64 t290) := (blk_cell BK294.out 3).trans rfl
          have hcz19_4 : w9.cell? ⟨gb294, 4, none⟩ = some (.int .i64 t291) := (blk_cell BK294.out 4).trans rfl
          have hcz19_5 : w9.cell? ⟨gb294, 5, none⟩ = some (.int .i64 t292) := (blk_cell BK294.out 5).trans rfl
          have hcz19_6 : w9.cell? ⟨gb294, 6, none⟩ = some (.string t293) := (blk_cell BK294.out 6).trans rfl
          have hfz19_0 := blk_frozen BK294.out 0
          have hfz19_1 := blk_frozen BK294.out 1
          have hfz19_2 := blk_frozen BK294.out 2
          have hfz19_3 := blk_frozen BK294.out 3
          have hfz19_4 := blk_frozen BK294.out 4
          have hfz19_5 := blk_frozen BK294.out 5
          have hfz19_6 := blk_frozen BK294.out 6
          go_wp2_with (first | (go_at_call 24; (with_reducible refine (spec_SegAdd.calls t286 t287 t288 t289 t290 t291 t292 t293 t296 _ A10.out).mono ?_); rintro e w20 ⟨rfl, hb⟩; have n0_ := Aside0.mk (blk_below (g := gb294) (o := .cells #[.int .i64 t287, .int .i64 t288, .int .i64 t289, .int .i64 t290, .int .i64 t291, .int .i64 t292, .string t293] 31 (0, 0)) (by (with_reducible repeat (first | refine blk_drewN ?_ _ | refine blk_drew ?_ | refine blk_alloc ?_ _)); exact BK294.out) hb); have n1_ := Aside0.mk (below_step (by repeat (first | (with_reducible first | exact HB.out | apply below_alloc | apply pw_below_drewN | apply below_drew1 | refine below_set ?_ GE294.out) | exact HB.out)) hb); clear BK294; clear HB; have BK294 := n0_; have HB := n1_; clear n0_ n1_; (try clear hb); (try clear hb2); (try clear hk); (try clear hi)) | (go_at_call 25; (with_reducible refine (laws_haStarts.calls t295 t286 false _ A12.out).mono ?_); rintro e w' ⟨rfl, ⟨nd, rfl⟩⟩; (try first | exact ⟨rfl, _, World.drewN_drewN _ _ _⟩ | exact ⟨rfl, _, Eq.trans (World.drewN_drewN _ _ _) (congrArg (World.drewN _) (Nat.add_assoc _ _ _))⟩)))
          repeat (go_quiet (first | (go_at_call 24; (with_reducible refine (spec_SegAdd.calls t286 t287 t288 t289 t290 t291 t292 t293 t296 _ A10.out).mono ?_); rintro e w20 ⟨rfl, hb⟩; have n0_ := Aside0.mk (blk_below (g := gb294) (o := .cells #[.int .i64 t287, .int .i64 t288, .int .i64 t289, .int .i64 t290, .int .i64 t291, .int .i64 t292, .string t293] 31 (0, 0)) (by (with_reducible repeat (first | refine blk_drewN ?_ _ | refine blk_drew ?_ | refine blk_alloc ?_ _)); exact BK294.out) hb); have n1_ := Aside0.mk (below_step (by repeat (first | (with_reducible first | exact HB.out | apply below_alloc | apply pw_below_drewN | apply below_drew1 | refine below_set ?_ GE294.out) | exact HB.out)) hb); clear BK294; clear HB; have BK294 := n0_; have HB := n1_; clear n0_ n1_; (try clear hb); (try clear hb2); (try clear hk); (try clear hi)) | (go_at_call 25; (with_reducible refine (laws_haStarts.calls t295 t286 false _ A12.out).mono ?_); rintro e w' ⟨rfl, ⟨nd, rfl⟩⟩; (try first | exact ⟨rfl, _, World.drewN_drewN _ _ _⟩ | exact ⟨rfl, _, Eq.trans (World.drewN_drewN _ _ _) (congrArg (World.drewN _) (Nat.add_assoc _ _ _))⟩))); try go_wp2_with (first | (go_at_call 24; (with_reducible refine (spec_SegAdd.calls t286 t287 t288 t289 t290 t291 t292 t293 t296 _ A10.out).mono ?_); rintro e w20 ⟨rfl, hb⟩; have n0_ := Aside0.mk (blk_below (g := gb294) (o := .cells #[.int .i64 t287, .int .i64 t288, .int .i64 t289, .int .i64 t290, .int .i64 t291, .int .i64 t292, .string t293] 31 (0, 0)) (by (with_reducible repeat (first | refine blk_drewN ?_ _ | refine blk_drew ?_ | refine blk_alloc ?_ _)); exact BK294.out) hb); have n1_ := Aside0.mk (below_step (by repeat (first | (with_reducible first | exact HB.out | apply below_alloc | apply pw_below_drewN | apply below_drew1 | refine below_set ?_ GE294.out) | exact HB.out)) hb); clear BK294; clear HB; have BK294 := n0_; have HB := n1_; clear n0_ n1_; (try clear hb); (try clear hb2); (try clear hk); (try clear hi)) | (go_at_call 25; (with_reducible refine (laws_haStarts.calls t295 t286 false _ A12.out).mono ?_); rintro e w' ⟨rfl, ⟨nd, rfl⟩⟩; (try first | exact ⟨rfl, _, World.drewN_drewN _ _ _⟩ | exact ⟨rfl, _, Eq.trans (World.drewN_drewN _ _ _) (congrArg (World.drewN _) (Nat.add_assoc _ _ _))⟩))))
          go_meet
          case rel => exact ⟨_, (true), (by first | rfl | (simp; done) | (simp [*]; done)), H', ⟨by first | omega | exact Nat.le_refl _⟩, ⟨by (with_reducible repeat (first | refine blk_drewN ?_ _ | refine blk_drew ?_ | refine blk_alloc ?_ _)); exact BK294.out⟩, ⟨by repeat (first | (with_reducible first | exact HB.out | apply below_alloc | apply pw_below_drewN | apply below_drew1 | refine below_set ?_ GE294.out) | exact HB.out)⟩⟩
      · rw [if_neg c11] at H
        have c11b0 : (t295.toList == t296.toList) = false := beq_eq_false_iff_ne.mpr c11
        have c11b1 : (t295.toList != t296.toList) = true := bne_iff_ne.mpr c11
        (first | rw [c11b0] | (simp only [i64_w, i32_w]; rw [c11b0]) | skip)
        have H' := Aside0.mk H
        clear H
        have hcz21_0 : w9.cell? ⟨gb294, 0, none⟩ = some (.int .i64 t287) := (blk_cell BK294.out 0).trans rfl
        have hcz21_1 : w9.cell? ⟨gb294, 1, none⟩ = some (.int .i64 t288) := (blk_cell BK294.out 1).trans rfl
        have hcz21_2 : w9.cell? ⟨gb294, 2, none⟩ = some (.int .i64 t289) := (blk_cell BK294.out 2).trans rfl
        have hcz21_3 : w9.cell? ⟨gb294, 3, none⟩ = some (.int .i64 t290) := (blk_cell BK294.out 3).trans rfl
        have hcz21_4 : w9.cell? ⟨gb294, 4, none⟩ = some (.int .i64 t291) := (blk_cell BK294.out 4).trans rfl
        have hcz21_5 : w9.cell? ⟨gb294, 5, none⟩ = some (.int .i64 t292) := (blk_cell BK294.out 5).trans rfl
        have hcz21_6 : w9.cell? ⟨gb294, 6, none⟩ = some (.string t293) := (blk_cell BK294.out 6).trans rfl
        have hfz21_0 := blk_frozen BK294.out 0
        have hfz21_1 := blk_frozen BK294.out 1
        have hfz21_2 := blk_frozen BK294.out 2
        have hfz21_3 := blk_frozen BK294.out 3
        have hfz21_4 := blk_frozen BK294.out 4
        have hfz21_5 := blk_frozen BK294.out 5
        have hfz21_6 := blk_frozen BK294.out 6
        go_wp2_with (first | (go_at_call 24; (with_reducible refine (spec_SegAdd.calls t286 t287 t288 t289 t290 t291 t292 t293 t296 _ A10.out).mono ?_); rintro e w22 ⟨rfl, hb⟩; have n0_ := Aside0.mk (blk_below (g := gb294) (o := .cells #[.int .i64 t287, .int .i64 t288, .int .i64 t289, .int .i64 t290, .int .i64 t291, .int .i64 t292, .string t293] 31 (0, 0)) (by (with_reducible repeat (first | refine blk_drewN ?_ _ | refine blk_drew ?_ | refine blk_alloc ?_ _)); exact BK294.out) hb); have n1_ := Aside0.mk (below_step (by repeat (first | (with_reducible first | exact HB.out | apply below_alloc | apply pw_below_drewN | apply below_drew1 | refine below_set ?_ GE294.out) | exact HB.out)) hb); clear BK294; clear HB; have BK294 := n0_; have HB := n1_; clear n0_ n1_; (try clear hb); (try clear hb2); (try clear hk); (try clear hi)))
        repeat (go_quiet (first | (go_at_call 24; (with_reducible refine (spec_SegAdd.calls t286 t287 t288 t289 t290 t291 t292 t293 t296 _ A10.out).mono ?_); rintro e w22 ⟨rfl, hb⟩; have n0_ := Aside0.mk (blk_below (g := gb294) (o := .cells #[.int .i64 t287, .int .i64 t288, .int .i64 t289, .int .i64 t290, .int .i64 t291, .int .i64 t292, .string t293] 31 (0, 0)) (by (with_reducible repeat (first | refine blk_drewN ?_ _ | refine blk_drew ?_ | refine blk_alloc ?_ _)); exact BK294.out) hb); have n1_ := Aside0.mk (below_step (by repeat (first | (with_reducible first | exact HB.out | apply below_alloc | apply pw_below_drewN | apply below_drew1 | refine below_set ?_ GE294.out) | exact HB.out)) hb); clear BK294; clear HB; have BK294 := n0_; have HB := n1_; clear n0_ n1_; (try clear hb); (try clear hb2); (try clear hk); (try clear hi))); try go_wp2_with (first | (go_at_call 24; (with_reducible refine (spec_SegAdd.calls t286 t287 t288 t289 t290 t291 t292 t293 t296 _ A10.out).mono ?_); rintro e w22 ⟨rfl, hb⟩; have n0_ := Aside0.mk (blk_below (g := gb294) (o := .cells #[.int .i64 t287, .int .i64 t288, .int .i64 t289, .int .i64 t290, .int .i64 t291, .int .i64 t292, .string t293] 31 (0, 0)) (by (with_reducible repeat (first | refine blk_drewN ?_ _ | refine blk_drew ?_ | refine blk_alloc ?_ _)); exact BK294.out) hb); have n1_ := Aside0.mk (below_step (by repeat (first | (with_reducible first | exact HB.out | apply below_alloc | apply pw_below_drewN | apply below_drew1 | refine below_set ?_ GE294.out) | exact HB.out)) hb); clear BK294; clear HB; have BK294 := n0_; have HB := n1_; clear n0_ n1_; (try clear hb); (try clear hb2); (try clear hk); (try clear hi))))
        go_meet
        case rel => exact ⟨_, (true), (by first | rfl | (simp; done) | (simp [*]; done)), H', ⟨by first | omega | exact Nat.le_refl _⟩, ⟨by (with_reducible repeat (first | refine blk_drewN ?_ _ | refine blk_drew ?_ | refine blk_alloc ?_ _)); exact BK294.out⟩, ⟨by repeat (first | (with_reducible first | exact HB.out | apply below_alloc | apply pw_below_drewN | apply below_drew1 | refine below_set ?_ GE294.out) | exact HB.out)⟩⟩
    case rest =>
      clear HC5
      try clear c1
      try clear c2
      try clear c2b0
      try clear c2b1
      try clear p2
      try clear c5
      try clear c11
      try clear c11b0
      try clear c11b1
      try clear c13
      try clear hcz15_0
      try clear hcz15_1
      try clear hcz15_2
      try clear hcz15_3
      try clear hcz15_4
      try clear hcz15_5
      try clear hcz15_6
      try clear hcz17_0
      try clear hcz17_1
      try clear hcz17_2
      try clear hcz17_3
      try clear hcz17_4
      try clear hcz17_5
      try clear hcz17_6
      try clear hcz19_0
      try clear hcz19_1
      try clear hcz19_2
      try clear hcz19_3
      try clear hcz19_4
      try clear hcz19_5
      try clear hcz19_6
      try clear hcz21_0
      try clear hcz21_1
      try clear hcz21_2
      try clear hcz21_3
      try clear hcz21_4
      try clear hcz21_5
      try clear hcz21_6
      try clear hcz8_0
      try clear hcz8_1
      try clear hcz8_2
      try clear hcz8_3
      try clear hcz8_4
      try clear hcz8_5
      try clear hcz8_6
      try clear hfz15_0
      try clear hfz15_1
      try clear hfz15_2
      try clear hfz15_3
      try clear hfz15_4
      try clear hfz15_5
      try clear hfz15_6
      try clear hfz17_0
      try clear hfz17_1
      try clear hfz17_2
      try clear hfz17_3
      try clear hfz17_4
      try clear hfz17_5
      try clear hfz17_6
      try clear hfz19_0
      try clear hfz19_1
      try clear hfz19_2
      try clear hfz19_3
      try clear hfz19_4
      try clear hfz19_5
      try clear hfz19_6
      try clear hfz21_0
      try clear hfz21_1
      try clear hfz21_2
      try clear hfz21_3
      try clear hfz21_4
      try clear hfz21_5
      try clear hfz21_6
      try clear hfz8_0
      try clear hfz8_1
      try clear hfz8_2
      try clear hfz8_3
      try clear hfz8_4
      try clear hfz8_5
      try clear hfz8_6
      obtain ⟨kq, x35_4, rfl, HA, HJ4, BK294, HB⟩ := hcut
      cases kq with
      | zero => exact absurd HA.out (by simp [laws_FnSegAdd.j0])
      | succ kj4 =>
        have H := HA.out
        clear HA
        simp only [laws_FnSegAdd.j0] at H
        by_cases c23 : x35_4 = true
        · subst c23
          have H1 : (some false) = some r := by rw [if_pos rfl] at H; exact H
          clear H
          have H := H1
          clear H1
          obtain rfl := Option.some.inj H
          go_wp2
          repeat (go_quiet (fail); try go_wp2)
          go_ret
          exact ⟨by first | rfl | (simp [errW_none, errW_some] <;> rfl) | (simp [*, errW_none, errW_some] <;> rfl), by repeat (first | (with_reducible first | exact HB.out | apply below_alloc | apply pw_below_drewN | apply below_drew1 | refine below_set ?_ GE294.out) | exact HB.out)⟩
        · replace c23 := Bool.eq_false_iff.mpr c23
          subst c23
          have H1 : (if t291 < 0 then (laws_FnSegAdd.j1 kj4 t286 t295 (wrap64 (t291 + (t293.size : Int))) true t287 t288 t289 t290 t291 t292 t293) else (if t291 > (t286.size : Int) then (laws_FnSegAdd.j1 kj4 t286 t295 (wrap64 (t291 + (t293.size : Int))) true t287 t288 t289 t290 t291 t292 t293) else (laws_FnSegAdd.j1 kj4 t286 t295 (wrap64 (t291 + (t293.size : Int))) (decide ((wrap64 (t291 + (t293.size : Int))) ≤ (t286.size : Int))) t287 t288 t289 t290 t291 t292 t293))) = some r := by rw [if_neg (show ¬ (false = true) by decide)] at H; exact H
          clear H
          have H := H1
          clear H1
          have HC24 := Aside0.mk H
          clear H
          have hcz25_0 : wc.cell? ⟨gb294, 0, none⟩ = some (.int .i64 t287) := (blk_cell BK294.out 0).trans rfl
          have hcz25_1 : wc.cell? ⟨gb294, 1, none⟩ = some (.int .i64 t288) := (blk_cell BK294.out 1).trans rfl
          have hcz25_2 : wc.cell? ⟨gb294, 2, none⟩ = some (.int .i64 t289) := (blk_cell BK294.out 2).trans rfl
          have hcz25_3 : wc.cell? ⟨gb294, 3, none⟩ = some (.int .i64 t290) := (blk_cell BK294.out 3).trans rfl
          have hcz25_4 : wc.cell? ⟨gb294, 4, none⟩ = some (.int .i64 t291) := (blk_cell BK294.out 4).trans rfl
          have hcz25_5 : wc.cell? ⟨gb294, 5, none⟩ = some (.int .i64 t292) := (blk_cell BK294.out 5).trans rfl
          have hcz25_6 : wc.cell? ⟨gb294, 6, none⟩ = some (.string t293) := (blk_cell BK294.out 6).trans rfl
          have hfz25_0 := blk_frozen BK294.out 0
          have hfz25_1 := blk_frozen BK294.out 1
          have hfz25_2 := blk_frozen BK294.out 2
          have hfz25_3 := blk_frozen BK294.out 3
          have hfz25_4 := blk_frozen BK294.out 4
          have hfz25_5 := blk_frozen BK294.out 5
          have hfz25_6 := blk_frozen BK294.out 6
          go_upto_region 8 with (fail)
          repeat (go_quiet (fail); go_upto_region 8 with (fail))
          go_cut [57] (fun v57 wc => ∃ (kq : Nat) (x57_23 : Bool), v57 = .bool x57_23 ∧ Aside0 (laws_FnSegAdd.j1 kq t286 t295 (wrap64 (t291 + (t293.size : Int))) x57_23 t287 t288 t289 t290 t291 t292 t293 = some r) ∧ Aside0 (kq ≤ kj4) ∧ Aside0 (wc.heap[gb294]? = some (.cells #[.int .i64 t287, .int .i64 t288, .int .i64 t289, .int .i64 t290, .int .i64 t291, .int .i64 t292, .string t293] 31 (0, 0))) ∧ Aside0 (Below w.heap.size w wc))
          case first =>
            have H := HC24.out
            clear HC24
            by_cases c26 : t291 < 0
            · rw [if_pos c26] at H
              have c26b0 : decide (t291 < 0) = true := decide_eq_true c26
              clear c26
              (first | rw [c26b0] | (simp only [i64_w, i32_w]; rw [c26b0]) | skip)
              have H' := Aside0.mk H
              clear H
              have hcz27_0 : wc.cell? ⟨gb294, 0, none⟩ = some (.int .i64 t287) := (blk_cell BK294.out 0).trans rfl
              have hcz27_1 : wc.cell? ⟨gb294, 1, none⟩ = some (.int .i64 t288) := (blk_cell BK294.out 1).trans rfl
              have hcz27_2 : wc.cell? ⟨gb294, 2, none⟩ = some (.int .i64 t289) := (blk_cell BK294.out 2).trans rfl
              have hcz27_3 : wc.cell? ⟨gb294, 3, none⟩ = some (.int .i64 t290) := (blk_cell BK294.out 3).trans rfl
              have hcz27_4 : wc.cell? ⟨gb294, 4, none⟩ = some (.int .i64 t291) := (blk_cell BK294.out 4).trans rfl
              have hcz27_5 : wc.cell? ⟨gb294, 5, none⟩ = some (.int .i64 t292) := (blk_cell BK294.out 5).trans rfl
              have hcz27_6 : wc.cell? ⟨gb294, 6, none⟩ = some (.string t293) := (blk_cell BK294.out 6).trans rfl
              have hfz27_0 := blk_frozen BK294.out 0
              have hfz27_1 := blk_frozen BK294.out 1
              have hfz27_2 := blk_frozen BK294.out 2
              have hfz27_3 := blk_frozen BK294.out 3
              have hfz27_4 := blk_frozen BK294.out 4
              have hfz27_5 := blk_frozen BK294.out 5
              have hfz27_6 := blk_frozen BK294.out 6
              go_wp2
              repeat (go_quiet (fail); try go_wp2)
              go_meet
              case rel => exact ⟨_, (true), (by first | rfl | (simp; done) | (simp [*]; done)), H', ⟨by have := HJ4.out; first | omega | exact Nat.le_refl _⟩, ⟨by (with_reducible repeat (first | refine blk_drewN ?_ _ | refine blk_drew ?_ | refine blk_alloc ?_ _)); exact BK294.out⟩, ⟨by repeat (first | (with_reducible first | exact HB.out | apply below_alloc | apply pw_below_drewN | apply below_drew1 | refine below_set ?_ GE294.out) | exact HB.out)⟩⟩
            · rw [if_neg c26] at H
              have c26b0 : decide (t291 < 0) = false := decide_eq_false c26
              clear c26
              (first | rw [c26b0] | (simp only [i64_w, i32_w]; rw [c26b0]) | skip)
              by_cases c28 : t291 > (t286.size : Int)
              · rw [if_pos c28] at H
                have c28b0 : decide ((t286.size : Int) < t291) = true := decide_eq_true c28
                clear c28
                have H' := Aside0.mk H
                clear H
                have hcz29_0 : wc.cell? ⟨gb294, 0, none⟩ = some (.int .i64 t287) := (blk_cell BK294.out 0).trans rfl
                have hcz29_1 : wc.cell? ⟨gb294, 1, none⟩ = some (.int .i64 t288) := (blk_cell BK294.out 1).trans rfl
                have hcz29_2 : wc.cell? ⟨gb294, 2, none⟩ = some (.int .i64 t289) := (blk_cell BK294.out 2).trans rfl
                have hcz29_3 : wc.cell? ⟨gb294, 3, none⟩ = some (.int .i64 t290) := (blk_cell BK294.out 3).trans rfl
                have hcz29_4 : wc.cell? ⟨gb294, 4, none⟩ = some (.int .i64 t291) := (blk_cell BK294.out 4).trans rfl
                have hcz29_5 : wc.cell? ⟨gb294, 5, none⟩ = some (.int .i64 t292) := (blk_cell BK294.out 5).trans rfl
                have hcz29_6 : wc.cell? ⟨gb294, 6, none⟩ = some (.string t293) := (blk_cell BK294.out 6).trans rfl
                have hfz29_0 := blk_frozen BK294.out 0
                have hfz29_1 := blk_frozen BK294.out 1
                have hfz29_2 := blk_frozen BK294.out 2
                have hfz29_3 := blk_frozen BK294.out 3
                have hfz29_4 := blk_frozen BK294.out 4
                have hfz29_5 := blk_frozen BK294.out 5
                have hfz29_6 := blk_frozen BK294.out 6
                go_wp2
                repeat (go_quiet (fail); try go_wp2)
                go_meet
                case rel => exact ⟨_, (true), (by first | rfl | (simp; done) | (simp [*]; done)), H', ⟨by have := HJ4.out; first | omega | exact Nat.le_refl _⟩, ⟨by (with_reducible repeat (first | refine blk_drewN ?_ _ | refine blk_drew ?_ | refine blk_alloc ?_ _)); exact BK294.out⟩, ⟨by repeat (first | (with_reducible first | exact HB.out | apply below_alloc | apply pw_below_drewN | apply below_drew1 | refine below_set ?_ GE294.out) | exact HB.out)⟩⟩
              · rw [if_neg c28] at H
                have c28b0 : decide ((t286.size : Int) < t291) = false := decide_eq_false c28
                clear c28
                have H' := Aside0.mk H
                clear H
                have hcz30_0 : wc.cell? ⟨gb294, 0, none⟩ = some (.int .i64 t287) := (blk_cell BK294.out 0).trans rfl
                have hcz30_1 : wc.cell? ⟨gb294, 1, none⟩ = some (.int .i64 t288) := (blk_cell BK294.out 1).trans rfl
                have hcz30_2 : wc.cell? ⟨gb294, 2, none⟩ = some (.int .i64 t289) := (blk_cell BK294.out 2).trans rfl
                have hcz30_3 : wc.cell? ⟨gb294, 3, none⟩ = some (.int .i64 t290) := (blk_cell BK294.out 3).trans rfl
                have hcz30_4 : wc.cell? ⟨gb294, 4, none⟩ = some (.int .i64 t291) := (blk_cell BK294.out 4).trans rfl
                have hcz30_5 : wc.cell? ⟨gb294, 5, none⟩ = some (.int .i64 t292) := (blk_cell BK294.out 5).trans rfl
                have hcz30_6 : wc.cell? ⟨gb294, 6, none⟩ = some (.string t293) := (blk_cell BK294.out 6).trans rfl
                have hfz30_0 := blk_frozen BK294.out 0
                have hfz30_1 := blk_frozen BK294.out 1
                have hfz30_2 := blk_frozen BK294.out 2
                have hfz30_3 := blk_frozen BK294.out 3
                have hfz30_4 := blk_frozen BK294.out 4
                have hfz30_5 := blk_frozen BK294.out 5
                have hfz30_6 := blk_frozen BK294.out 6
                go_wp2
                repeat (go_quiet (fail); try go_wp2)
                go_meet
                case rel => exact ⟨_, (decide ((wrap64 (t291 + (t293.size : Int))) ≤ (t286.size : Int))), (by first | rfl | (simp; done) | (simp [*]; done)), H', ⟨by have := HJ4.out; first | omega | exact Nat.le_refl _⟩, ⟨by (with_reducible repeat (first | refine blk_drewN ?_ _ | refine blk_drew ?_ | refine blk_alloc ?_ _)); exact BK294.out⟩, ⟨by repeat (first | (with_reducible first | exact HB.out | apply below_alloc | apply pw_below_drewN | apply below_drew1 | refine below_set ?_ GE294.out) | exact HB.out)⟩⟩
          case rest =>
            clear HC24
            try clear c1
            try clear c2
            try clear c2b0
            try clear c2b1
            try clear p2
            try clear c5
            try clear p6
            try clear c11
            try clear c11b0
            try clear c11b1
            try clear c13
            try clear c23
            try clear c26
            try clear c26b0
            try clear c28
            try clear c28b0
            try clear hcz15_0
            try clear hcz15_1
            try clear hcz15_2
            try clear hcz15_3
            try clear hcz15_4
            try clear hcz15_5
            try clear hcz15_6
            try clear hcz17_0
            try clear hcz17_1
            try clear hcz17_2
            try clear hcz17_3
            try clear hcz17_4
            try clear hcz17_5
            try clear hcz17_6
            try clear hcz19_0
            try clear hcz19_1
            try clear hcz19_2
            try clear hcz19_3
            try clear hcz19_4
            try clear hcz19_5
            try clear hcz19_6
            try clear hcz21_0
            try clear hcz21_1
            try clear hcz21_2
            try clear hcz21_3
            try clear hcz21_4
            try clear hcz21_5
            try clear hcz21_6
            try clear hcz25_0
            try clear hcz25_1
            try clear hcz25_2
            try clear hcz25_3
            try clear hcz25_4
            try clear hcz25_5
            try clear hcz25_6
            try clear hcz27_0
            try clear hcz27_1
            try clear hcz27_2
            try clear hcz27_3
            try clear hcz27_4
            try clear hcz27_5
            try clear hcz27_6
            try clear hcz29_0
            try clear hcz29_1
            try clear hcz29_2
            try clear hcz29_3
            try clear hcz29_4
            try clear hcz29_5
            try clear hcz29_6
            try clear hcz30_0
            try clear hcz30_1
            try clear hcz30_2
            try clear hcz30_3
            try clear hcz30_4
            try clear hcz30_5
            try clear hcz30_6
            try clear hcz8_0
            try clear hcz8_1
            try clear hcz8_2
            try clear hcz8_3
            try clear hcz8_4
            try clear hcz8_5
            try clear hcz8_6
            try clear hfz15_0
            try clear hfz15_1
            try clear hfz15_2
            try clear hfz15_3
            try clear hfz15_4
            try clear hfz15_5
            try clear hfz15_6
            try clear hfz17_0
            try clear hfz17_1
            try clear hfz17_2
            try clear hfz17_3
            try clear hfz17_4
            try clear hfz17_5
            try clear hfz17_6
            try clear hfz19_0
            try clear hfz19_1
            try clear hfz19_2
            try clear hfz19_3
            try clear hfz19_4
            try clear hfz19_5
            try clear hfz19_6
            try clear hfz21_0
            try clear hfz21_1
            try clear hfz21_2
            try clear hfz21_3
            try clear hfz21_4
            try clear hfz21_5
            try clear hfz21_6
            try clear hfz25_0
            try clear hfz25_1
            try clear hfz25_2
            try clear hfz25_3
            try clear hfz25_4
            try clear hfz25_5
            try clear hfz25_6
            try clear hfz27_0
            try clear hfz27_1
            try clear hfz27_2
            try clear hfz27_3
            try clear hfz27_4
            try clear hfz27_5
            try clear hfz27_6
            try clear hfz29_0
            try clear hfz29_1
            try clear hfz29_2
            try clear hfz29_3
            try clear hfz29_4
            try clear hfz29_5
            try clear hfz29_6
            try clear hfz30_0
            try clear hfz30_1
            try clear hfz30_2
            try clear hfz30_3
            try clear hfz30_4
            try clear hfz30_5
            try clear hfz30_6
            try clear hfz8_0
            try clear hfz8_1
            try clear hfz8_2
            try clear hfz8_3
            try clear hfz8_4
            try clear hfz8_5
            try clear hfz8_6
            try clear p2
            obtain ⟨kq, x57_23, rfl, HA, HJ23, BK294, HB⟩ := hcut
            cases kq with
            | zero => exact absurd HA.out (by simp [laws_FnSegAdd.j1])
            | succ kj23 =>
              have H := HA.out
              clear HA
              simp only [laws_FnSegAdd.j1] at H
              by_cases c31 : x57_23 = true
              · subst c31
                have H1 : (if t295.toList = t286.toList then ((laws_haOk.f).bind fun t299 => (some t299)) else (some false)) = some r := by rw [if_pos rfl] at H; exact H
                clear H
                have H := H1
                clear H1
                by_cases c32 : t295.toList = t286.toList
                · rw [if_pos c32] at H
                  have c32b0 : (t295.toList == t286.toList) = true := beq_iff_eq.mpr c32
                  have c32b1 : (t295.toList != t286.toList) = false := bne_eq_false_iff_eq.mpr c32
                  clear c32
                  replace H := Option.bind_eq_some_iff.mp H
                  obtain ⟨t299, A330, H⟩ := H
                  replace H : (some t299) = some r := H
                  have A33 := Aside0.mk A330
                  clear A330
                  obtain rfl := Option.some.inj H
                  go_wp2_with (first | (go_at_call 21; (with_reducible refine (laws_haOk.calls  t299 _ A33.out).mono ?_); rintro e w34 ⟨rfl, hb⟩; have n0_ := Aside0.mk (blk_below (g := gb294) (o := .cells #[.int .i64 t287, .int .i64 t288, .int .i64 t289, .int .i64 t290, .int .i64 t291, .int .i64 t292, .string t293] 31 (0, 0)) (by (with_reducible repeat (first | refine blk_drewN ?_ _ | refine blk_drew ?_ | refine blk_alloc ?_ _)); exact BK294.out) hb); have n1_ := Aside0.mk (below_step (by repeat (first | (with_reducible first | exact HB.out | apply below_alloc | apply pw_below_drewN | apply below_drew1 | refine below_set ?_ GE294.out) | exact HB.out)) hb); clear BK294; clear HB; have BK294 := n0_; have HB := n1_; clear n0_ n1_; (try clear hb); (try clear hb2); (try clear hk); (try clear hi)))
                  repeat (go_quiet (first | (go_at_call 21; (with_reducible refine (laws_haOk.calls  t299 _ A33.out).mono ?_); rintro e w34 ⟨rfl, hb⟩; have n0_ := Aside0.mk (blk_below (g := gb294) (o := .cells #[.int .i64 t287, .int .i64 t288, .int .i64 t289, .int .i64 t290, .int .i64 t291, .int .i64 t292, .string t293] 31 (0, 0)) (by (with_reducible repeat (first | refine blk_drewN ?_ _ | refine blk_drew ?_ | refine blk_alloc ?_ _)); exact BK294.out) hb); have n1_ := Aside0.mk (below_step (by repeat (first | (with_reducible first | exact HB.out | apply below_alloc | apply pw_below_drewN | apply below_drew1 | refine below_set ?_ GE294.out) | exact HB.out)) hb); clear BK294; clear HB; have BK294 := n0_; have HB := n1_; clear n0_ n1_; (try clear hb); (try clear hb2); (try clear hk); (try clear hi))); try go_wp2_with (first | (go_at_call 21; (with_reducible refine (laws_haOk.calls  t299 _ A33.out).mono ?_); rintro e w34 ⟨rfl, hb⟩; have n0_ := Aside0.mk (blk_below (g := gb294) (o := .cells #[.int .i64 t287, .int .i64 t288, .int .i64 t289, .int .i64 t290, .int .i64 t291, .int .i64 t292, .string t293] 31 (0, 0)) (by (with_reducible repeat (first | refine blk_drewN ?_ _ | refine blk_drew ?_ | refine blk_alloc ?_ _)); exact BK294.out) hb); have n1_ := Aside0.mk (below_step (by repeat (first | (with_reducible first | exact HB.out | apply below_alloc | apply pw_below_drewN | apply below_drew1 | refine below_set ?_ GE294.out) | exact HB.out)) hb); clear BK294; clear HB; have BK294 := n0_; have HB := n1_; clear n0_ n1_; (try clear hb); (try clear hb2); (try clear hk); (try clear hi))))
                  go_ret
                  exact ⟨by first | rfl | (simp [errW_none, errW_some] <;> rfl) | (simp [*, errW_none, errW_some] <;> rfl), by repeat (first | (with_reducible first | exact HB.out | apply below_alloc | apply pw_below_drewN | apply below_drew1 | refine below_set ?_ GE294.out) | exact HB.out)⟩
                · rw [if_neg c32] at H
                  have c32b0 : (t295.toList == t286.toList) = false := beq_eq_false_iff_ne.mpr c32
                  have c32b1 : (t295.toList != t286.toList) = true := bne_iff_ne.mpr c32
                  obtain rfl := Option.some.inj H
                  go_wp2
                  repeat (go_quiet (fail); try go_wp2)
                  go_ret
                  exact ⟨by first | rfl | (simp [errW_none, errW_some] <;> rfl) | (simp [*, errW_none, errW_some] <;> rfl), by repeat (first | (with_reducible first | exact HB.out | apply below_alloc | apply pw_below_drewN | apply below_drew1 | refine below_set ?_ GE294.out) | exact HB.out)⟩
              · replace c31 := Bool.eq_false_iff.mpr c31
                subst c31
                have H1 : (if (t295.size : Int) = (wrap64 (t291 + (t293.size : Int))) then (if 0 ≤ t291 then (if t291 ≤ (t295.size : Int) then (if (t295.extract (t291 : Int).toNat t295.size).toList = ([] : List UInt8) then (some false) else (if 0 ≤ (t286.size : Int) then (if (t286.size : Int) ≤ (t295.size : Int) then (if 0 ≤ (wrap64 ((t286.size : Int) - t291)) then (if (wrap64 ((t286.size : Int) - t291)) ≤ (t293.size : Int) then ((laws_haStarts.f (t295.extract ((t286.size : Int) : Int).toNat t295.size) (t293.extract ((wrap64 ((t286.size : Int) - t291)) : Int).toNat t293.size)).bind fun t300 => (some t300)) else (none)) else (none)) else (none)) else (none))) else (none)) else (none)) else (some false)) = some r := by rw [if_neg (show ¬ (false = true) by decide)] at H; exact H
                clear H
                have H := H1
                clear H1
                by_cases c35 : (t295.size : Int) = (wrap64 (t291 + (t293.size : Int)))
                · rw [if_pos c35] at H
                  have c35b0 : ((t295.size : Int) == (wrap64 (t291 + (t293.size : Int)))) = true := beq_iff_eq.mpr c35
                  have c35b1 : ((t295.size : Int) != (wrap64 (t291 + (t293.size : Int)))) = false := bne_eq_false_iff_eq.mpr c35
                  clear c35
                  by_cases c36 : 0 ≤ t291
                  · rw [if_pos c36] at H
                    have c36b0 := eq_true c36
                    have c36b1 : decide (0 ≤ t291) = true := decide_eq_true c36
                    clear c36
                    by_cases c37 : t291 ≤ (t295.size : Int)
                    · rw [if_pos c37] at H
                      have c37b0 := eq_true c37
                      have c37b1 : decide (t291 ≤ (t295.size : Int)) = true := decide_eq_true c37
                      clear c37
                      by_cases c38 : (t295.extract (t291 : Int).toNat t295.size).toList = ([] : List UInt8)
                      · rw [if_pos c38] at H
                        have c38b0 : ((t295.extract (t291 : Int).toNat t295.size).toList == ([] : List UInt8)) = true := beq_iff_eq.mpr c38
                        have c38b1 : ((t295.extract (t291 : Int).toNat t295.size).toList != ([] : List UInt8)) = false := bne_eq_false_iff_eq.mpr c38
                        clear c38
                        obtain rfl := Option.some.inj H
                        have hcz39_0 : wc.cell? ⟨gb294, 0, none⟩ = some (.int .i64 t287) := (blk_cell BK294.out 0).trans rfl
                        have hcz39_1 : wc.cell? ⟨gb294, 1, none⟩ = some (.int .i64 t288) := (blk_cell BK294.out 1).trans rfl
                        have hcz39_2 : wc.cell? ⟨gb294, 2, none⟩ = some (.int .i64 t289) := (blk_cell BK294.out 2).trans rfl
                        have hcz39_3 : wc.cell? ⟨gb294, 3, none⟩ = some (.int .i64 t290) := (blk_cell BK294.out 3).trans rfl
                        have hcz39_4 : wc.cell? ⟨gb294, 4, none⟩ = some (.int .i64 t291) := (blk_cell BK294.out 4).trans rfl
                        have hcz39_5 : wc.cell? ⟨gb294, 5, none⟩ = some (.int .i64 t292) := (blk_cell BK294.out 5).trans rfl
                        have hcz39_6 : wc.cell? ⟨gb294, 6, none⟩ = some (.string t293) := (blk_cell BK294.out 6).trans rfl
                        have hfz39_0 := blk_frozen BK294.out 0
                        have hfz39_1 := blk_frozen BK294.out 1
                        have hfz39_2 := blk_frozen BK294.out 2
                        have hfz39_3 := blk_frozen BK294.out 3
                        have hfz39_4 := blk_frozen BK294.out 4
                        have hfz39_5 := blk_frozen BK294.out 5
                        have hfz39_6 := blk_frozen BK294.out 6
                        go_wp2
                        repeat (go_quiet (fail); try go_wp2)
                        go_ret
                        exact ⟨by first | rfl | (simp [errW_none, errW_some] <;> rfl) | (simp [*, errW_none, errW_some] <;> rfl), by repeat (first | (with_reducible first | exact HB.out | apply below_alloc | apply pw_below_drewN | apply below_drew1 | refine below_set ?_ GE294.out) | exact HB.out)⟩
                      · rw [if_neg c38] at H
                        have c38b0 : ((t295.extract (t291 : Int).toNat t295.size).toList == ([] : List UInt8)) = false := beq_eq_false_iff_ne.mpr c38
                        have c38b1 : ((t295.extract (t291 : Int).toNat t295.size).toList != ([] : List UInt8)) = true := bne_iff_ne.mpr c38
                        by_cases c40 : 0 ≤ (t286.size : Int)
                        · rw [if_pos c40] at H
                          have c40b0 := eq_true c40
                          have c40b1 : decide (0 ≤ (t286.size : Int)) = true := decide_eq_true c40
                          clear c40
                          by_cases c41 : (t286.size : Int) ≤ (t295.size : Int)
                          · rw [if_pos c41] at H
                            have c41b0 := eq_true c41
                            have c41b1 : decide ((t286.size : Int) ≤ (t295.size : Int)) = true := decide_eq_true c41
                            clear c41
                            obtain ⟨ji42, hji42⟩ : ∃ j_ : Int, (wrap64 ((t286.size : Int) - t291)) = j_ := ⟨_, rfl⟩
                            replace H : (if 0 ≤ (ji42) then (if (ji42) ≤ (t293.size : Int) then ((laws_haStarts.f (t295.extract ((t286.size : Int) : Int).toNat t295.size) (t293.extract ((ji42) : Int).toNat t293.size)).bind fun t300 => (some t300)) else (none)) else (none)) = some r := by first | (rw [hji42] at H; exact H) | (simp only [hji42] at H ⊢; exact H)
                            have hji42w : (IntKind.i64.wrap ((t286.size : Int) - t291)) = ji42 := (i64_w _).trans hji42
                            by_cases c43 : 0 ≤ (ji42)
                            · rw [if_pos c43] at H
                              have c43b0 := eq_true c43
                              have c43b1 : decide (0 ≤ (ji42)) = true := decide_eq_true c43
                              clear c43
                              by_cases c44 : (ji42) ≤ (t293.size : Int)
                              · rw [if_pos c44] at H
                                have c44b0 := eq_true c44
                                have c44b1 : decide ((ji42) ≤ (t293.size : Int)) = true := decide_eq_true c44
                                clear c44
                                replace H := Option.bind_eq_some_iff.mp H
                                obtain ⟨t300, A450, H⟩ := H
                                simp only [Int.toNat_natCast] at A450
                                replace H : (some t300) = some r := H
                                have A45 := Aside0.mk A450
                                clear A450
                                obtain rfl := Option.some.inj H
                                have hcz46_0 : wc.cell? ⟨gb294, 0, none⟩ = some (.int .i64 t287) := (blk_cell BK294.out 0).trans rfl
                                have hcz46_1 : wc.cell? ⟨gb294, 1, none⟩ = some (.int .i64 t288) := (blk_cell BK294.out 1).trans rfl
                                have hcz46_2 : wc.cell? ⟨gb294, 2, none⟩ = some (.int .i64 t289) := (blk_cell BK294.out 2).trans rfl
                                have hcz46_3 : wc.cell? ⟨gb294, 3, none⟩ = some (.int .i64 t290) := (blk_cell BK294.out 3).trans rfl
                                have hcz46_4 : wc.cell? ⟨gb294, 4, none⟩ = some (.int .i64 t291) := (blk_cell BK294.out 4).trans rfl
                                have hcz46_5 : wc.cell? ⟨gb294, 5, none⟩ = some (.int .i64 t292) := (blk_cell BK294.out 5).trans rfl
                                have hcz46_6 : wc.cell? ⟨gb294, 6, none⟩ = some (.string t293) := (blk_cell BK294.out 6).trans rfl
                                have hfz46_0 := blk_frozen BK294.out 0
                                have hfz46_1 := blk_frozen BK294.out 1
                                have hfz46_2 := blk_frozen BK294.out 2
                                have hfz46_3 := blk_frozen BK294.out 3
                                have hfz46_4 := blk_frozen BK294.out 4
                                have hfz46_5 := blk_frozen BK294.out 5
                                have hfz46_6 := blk_frozen BK294.out 6
                                go_wp2_with (first | (go_at_call 25; (with_reducible refine (laws_haStarts.calls (t295.extract t286.size t295.size) (t293.extract ((ji42) : Int).toNat t293.size) t300 _ A45.out).mono ?_); rintro e w' ⟨rfl, ⟨nd, rfl⟩⟩; (try first | exact ⟨rfl, _, World.drewN_drewN _ _ _⟩ | exact ⟨rfl, _, Eq.trans (World.drewN_drewN _ _ _) (congrArg (World.drewN _) (Nat.add_assoc _ _ _))⟩)))
                                repeat (go_quiet (first | (go_at_call 25; (with_reducible refine (laws_haStarts.calls (t295.extract t286.size t295.size) (t293.extract ((ji42) : Int).toNat t293.size) t300 _ A45.out).mono ?_); rintro e w' ⟨rfl, ⟨nd, rfl⟩⟩; (try first | exact ⟨rfl, _, World.drewN_drewN _ _ _⟩ | exact ⟨rfl, _, Eq.trans (World.drewN_drewN _ _ _) (congrArg (World.drewN _) (Nat.add_assoc _ _ _))⟩))); try go_wp2_with (first | (go_at_call 25; (with_reducible refine (laws_haStarts.calls (t295.extract t286.size t295.size) (t293.extract ((ji42) : Int).toNat t293.size) t300 _ A45.out).mono ?_); rintro e w' ⟨rfl, ⟨nd, rfl⟩⟩; (try first | exact ⟨rfl, _, World.drewN_drewN _ _ _⟩ | exact ⟨rfl, _, Eq.trans (World.drewN_drewN _ _ _) (congrArg (World.drewN _) (Nat.add_assoc _ _ _))⟩))))
                                go_ret
                                exact ⟨by first | rfl | (simp [errW_none, errW_some] <;> rfl) | (simp only [← hji42]; first | rfl | (simp [errW_none, errW_some] <;> rfl)) | (simp [*, errW_none, errW_some] <;> rfl), by repeat (first | (with_reducible first | exact HB.out | apply below_alloc | apply pw_below_drewN | apply below_drew1 | refine below_set ?_ GE294.out) | exact HB.out)⟩
                              · rw [if_neg c44] at H
                                exact absurd H (by simp)
                            · rw [if_neg c43] at H
                              exact absurd H (by simp)
                          · rw [if_neg c41] at H
                            exact absurd H (by simp)
                        · rw [if_neg c40] at H
                          exact absurd H (by simp)
                    · rw [if_neg c37] at H
                      exact absurd H (by simp)
                  · rw [if_neg c36] at H
                    exact absurd H (by simp)
                · rw [if_neg c35] at H
                  have c35b0 : ((t295.size : Int) == (wrap64 (t291 + (t293.size : Int)))) = false := beq_eq_false_iff_ne.mpr c35
                  have c35b1 : ((t295.size : Int) != (wrap64 (t291 + (t293.size : Int)))) = true := bne_iff_ne.mpr c35
                  obtain rfl := Option.some.inj H
                  go_wp2
                  repeat (go_quiet (fail); try go_wp2)
                  go_ret
                  exact ⟨by first | rfl | (simp [errW_none, errW_some] <;> rfl) | (simp [*, errW_none, errW_some] <;> rfl), by repeat (first | (with_reducible first | exact HB.out | apply below_alloc | apply pw_below_drewN | apply below_drew1 | refine below_set ?_ GE294.out) | exact HB.out)⟩

/-- THE ONE PURE STATEMENT of laws_FnSegAdd: yours. -/
def laws_FnSegAdd.Pure : Prop := ∀ (l0 : List Int), l0.length ≤ maxLen → l0.length * 1 ≤ 140737488351232 → (∀ x ∈ l0, (Lit.int .u8 x).wf = true) → ∃ k, laws_FnSegAdd.f k l0 = some true
theorem laws_FnSegAdd.walk (P : laws_FnSegAdd.Pure) (a0 : Option Addr) (len0 cap0 : Nat) (z0 : List Int) (w : World) (w0 : (a0 = none ∧ len0 = 0 ∧ cap0 = 0 ∧ z0 = []) ∨ ∃ x, a0 = some x ∧ len0 ≤ cap0 ∧ cap0 ≤ maxLen ∧ z0.length = cap0 ∧ (∀ i, i < z0.length → w.cell? (x.add i) = some (.int .u8 (z0.getD i 0))) ∧ ∀ n ∈ z0, (Lit.int .u8 n).wf = true) (y0 : len0 * 1 ≤ 140737488351232) :
    Calls Try.prog 5 #[.slice a0 len0 cap0] w fun e w' => e = .returned (.bool true) ∧ Below w.heap.size w w' := by
  obtain ⟨l0, rfl, hr0, hm0, hw0, hc0⟩ := ReadsInt.ofRowC w0
  obtain ⟨k, h⟩ := P l0 hm0 y0 hw0
  refine (laws_FnSegAdd.calls k _ _ l0 true w (Kd.C_of_reads (d := (0 : Int)) (h1 := fun _ => rfl) hr0) hc0 h).mono ?_
  rintro e w' ⟨rfl, hd⟩
  exact ⟨rfl, hd⟩

end Go.Proofs.Ytdfoelhpeeanlaa.QFnSegAdd
