-- Laid by a program of this repo (wip/tools/sprint.py): print.py's functions and walks; the contracts named 'BY HAND' are proved by hand.
import Derived.Test.YtdfoelhpeeanlaaQFnSegCutx3
import Derived.Test.YtdfoelhpeeanlaaQFnSegCutx2
import Derived.Test.YtdfoelhpeeanlaaQFnSegCutx1
import Derived.Test.YtdfoelhpeeanlaaQFnSegCutx0
import Derived.Test.YtdfoelhpeeanlaaQFnSegCutx4
import Derived.Test.YtdfoelhpeeanlaaQFnSegCutx5
import Derived.Test.YtdfoelhpeeanlaaQFnSegCutx6
namespace Go.Proofs.Ytdfoelhpeeanlaa.QFnSegCut
open Go.RowKit Go.Proofs.YtdfoelhpeeanlaaW.PrintWords Go.Proofs.YtdfoelhpeeanlaaW.PrintLast Go.Proofs.YtdfoelhpeeanlaaW.PrintMore
attribute [local go_sem] max2_int min2_int max_two min_two max_three min_three max_four min_four   -- for this text's walks alone
set_option linter.unusedVariables false
set_option linter.unusedSimpArgs false

/-! ### spec_DrawSegCut: function 29 -/
def spec_DrawSegCut.f (k : Nat) (l0 : List Int) : Option (Int × Int × Int × Int × Int × Int × ByteArray × ByteArray × Int) := (spec_l20Open.f l0).bind fun bt260 => ((spec_l20Seg.f k bt260.1 bt260.2 9).bind fun bt263 => ((spec_l20Stream.f k bt260.1 bt263.2.2.2.2.2.2.2).bind fun bt271 => ((spec_l20Rd_pick.f k bt260.1 bt271.2 130).bind fun bt273 => ((spec_l20Rd_pick.f k bt260.1 bt273.2 20).bind fun bt275 => ((some (([0, bt273.1, (-1), 9223372036854775807, bt275.1] : List Int) : List Int)).bind fun y277 => ((spec_l20Rd_pick.f k bt260.1 bt275.2 5).bind fun bt280 => (if 0 ≤ bt280.1 then (if bt280.1 < (y277.length : Int) then (some (bt263.1, bt263.2.1, bt263.2.2.1, bt263.2.2.2.1, bt263.2.2.2.2.1, bt263.2.2.2.2.2.1, bt263.2.2.2.2.2.2.1, bt271.1, rd y277 bt280.1)) else (none)) else (none))))))))
theorem spec_DrawSegCut.mono : ∀ a0 k, LeO (spec_DrawSegCut.f k a0) (spec_DrawSegCut.f (k + 1) a0) := by
 intro a0 k
 unfold spec_DrawSegCut.f
 repeat' first
   | (with_reducible exact spec_l20Rd_pick.mono _ _ _ _)
   | (with_reducible exact spec_l20Seg.mono _ _ _ _)
   | (with_reducible exact spec_l20Stream.mono _ _ _)
   | (with_reducible exact LeO.refl _)
   | (with_reducible exact LeO.none _)
   | (with_reducible refine LeO.ite ?_ ?_)
   | (with_reducible refine LeO.bind ?_ (fun _ => ?_))
   | exact spec_l20Rd_pick.mono _ _ _ _
   | exact spec_l20Seg.mono _ _ _ _
   | exact spec_l20Stream.mono _ _ _
   | exact LeO.none _
   | refine LeO.ite ?_ ?_
   | refine LeO.bind ?_ (fun _ => ?_)
def spec_DrawSegCut.T2 : Bool × List (List Nat × List Nat) := (true, [([], []), ([0], [0]), ([], []), ([2, 1], [2]), ([], []), ([4, 3], [4]), ([], []), ([6, 5], [6]), ([5, 7], [5, 7]), ([], []), ([9, 7], [9]), ([8, 10], [8, 10]), ([11], [11]), ([1, 10, 0, 1], [1]), ([3, 13, 0, 1, 2, 3, 13], [3]), ([12, 14, 0, 1, 2, 3, 4, 5, 6, 7, 8, 9, 10, 11, 12, 13, 14], [12])])
def spec_DrawSegCut.B2 : List Nat := [0, 1, 0, 7, 0, 31, 0, 127, 255, 0, 767, 2047, 4095, 1791, 9983, 32767]
theorem spec_DrawSegCut.tab2 : rtab .any (opsOf Try.f29 2) = spec_DrawSegCut.T2 := by kernel_rfl
theorem spec_DrawSegCut.bits2 : waitsOk spec_DrawSegCut.T2.2 spec_DrawSegCut.B2 = true := by kernel_rfl
set_option maxHeartbeats 8000000 in
set_option maxRecDepth 100000 in
theorem spec_DrawSegCut.calls (k : Nat) (A0 : Option Addr) (c0 : Nat) (l0 : List Int) (r1 : Int) (r2 : Int) (r3 : Int) (r4 : Int) (r5 : Int) (r6 : Int) (r7 : ByteArray) (r8 : ByteArray) (r9 : Int) (w : World) (hr0 : Kd.C (Kd.int .u8) w A0 l0.length l0) (hc0 : l0.length ≤ c0) (h : spec_DrawSegCut.f k l0 = some (r1, r2, r3, r4, r5, r6, r7, r8, r9)) :
  Calls Try.prog 29 #[.slice A0 l0.length c0] w fun e w' => e = .returned (.tuple #[.agg #[.int .i64 r1, .int .i64 r2, .int .i64 r3, .int .i64 r4, .int .i64 r5, .int .i64 r6, .string r7], .string r8, .int .i64 r9]) ∧ Below w.heap.size w w' := by
 have hu31 := Try.underlying31
 have HR0 := Aside0.mk hr0
 have HC0 := Aside0.mk hc0
 clear hr0 hc0
 have HB := Aside0.mk (Below.refl w.heap.size w)
 have H : ((spec_l20Open.f l0).bind fun bt260 => ((spec_l20Seg.f k bt260.1 bt260.2 9).bind fun bt263 => ((spec_l20Stream.f k bt260.1 bt263.2.2.2.2.2.2.2).bind fun bt271 => ((spec_l20Rd_pick.f k bt260.1 bt271.2 130).bind fun bt273 => ((spec_l20Rd_pick.f k bt260.1 bt273.2 20).bind fun bt275 => ((some (([0, bt273.1, (-1), 9223372036854775807, bt275.1] : List Int) : List Int)).bind fun y277 => ((spec_l20Rd_pick.f k bt260.1 bt275.2 5).bind fun bt280 => (if 0 ≤ bt280.1 then (if bt280.1 < (y277.length : Int) then (some (bt263.1, bt263.2.1, bt263.2.2.1, bt263.2.2.2.1, bt263.2.2.2.2.1, bt263.2.2.2.2.2.1, bt263.2.2.2.2.2.2.1, bt271.1, rd y277 bt280.1)) else (none)) else (none))))))))) = some (r1, r2, r3, r4, r5, r6, r7, r8, r9) := h
 clear h
 replace H := Option.bind_eq_some_iff.mp H
 obtain ⟨⟨t260, t261⟩, A20, H⟩ := H
 replace H : ((spec_l20Seg.f k t260 t261 9).bind fun bt263 => ((spec_l20Stream.f k t260 bt263.2.2.2.2.2.2.2).bind fun bt271 => ((spec_l20Rd_pick.f k t260 bt271.2 130).bind fun bt273 => ((spec_l20Rd_pick.f k t260 bt273.2 20).bind fun bt275 => ((some (([0, bt273.1, (-1), 9223372036854775807, bt275.1] : List Int) : List Int)).bind fun y277 => ((spec_l20Rd_pick.f k t260 bt275.2 5).bind fun bt280 => (if 0 ≤ bt280.1 then (if bt280.1 < (y277.length : Int) then (some (bt263.1, bt263.2.1, bt263.2.2.1, bt263.2.2.2.1, bt263.2.2.2.2.1, bt263.2.2.2.2.2.1, bt263.2.2.2.2.2.2.1, bt271.1, rd y277 bt280.1)) else (none)) else (none)))))))) = some (r1, r2, r3, r4, r5, r6, r7, r8, r9) := H
 have A2 := Aside0.mk A20
 clear A20
 replace H := Option.bind_eq_some_iff.mp H
 obtain ⟨⟨t263, t264, t265, t266, t267, t268, t269, t270⟩, A30, H⟩ := H
 replace H : ((spec_l20Stream.f k t260 t270).bind fun bt271 => ((spec_l20Rd_pick.f k t260 bt271.2 130).bind fun bt273 => ((spec_l20Rd_pick.f k t260 bt273.2 20).bind fun bt275 => ((some (([0, bt273.1, (-1), 9223372036854775807, bt275.1] : List Int) : List Int)).bind fun y277 => ((spec_l20Rd_pick.f k t260 bt275.2 5).bind fun bt280 => (if 0 ≤ bt280.1 then (if bt280.1 < (y277.length : Int) then (some (t263, t264, t265, t266, t267, t268, t269, bt271.1, rd y277 bt280.1)) else (none)) else (none))))))) = some (r1, r2, r3, r4, r5, r6, r7, r8, r9) := H
 have A3 := Aside0.mk A30
 clear A30
 replace H := Option.bind_eq_some_iff.mp H
 obtain ⟨⟨t271, t272⟩, A40, H⟩ := H
 replace H : ((spec_l20Rd_pick.f k t260 t272 130).bind fun bt273 => ((spec_l20Rd_pick.f k t260 bt273.2 20).bind fun bt275 => ((some (([0, bt273.1, (-1), 9223372036854775807, bt275.1] : List Int) : List Int)).bind fun y277 => ((spec_l20Rd_pick.f k t260 bt275.2 5).bind fun bt280 => (if 0 ≤ bt280.1 then (if bt280.1 < (y277.length : Int) then (some (t263, t264, t265, t266, t267, t268, t269, t271, rd y277 bt280.1)) else (none)) else (none)))))) = some (r1, r2, r3, r4, r5, r6, r7, r8, r9) := H
 have A4 := Aside0.mk A40
 clear A40
 replace H := Option.bind_eq_some_iff.mp H
 obtain ⟨⟨t273, t274⟩, A50, H⟩ := H
 replace H : ((spec_l20Rd_pick.f k t260 t274 20).bind fun bt275 => ((some (([0, t273, (-1), 9223372036854775807, bt275.1] : List Int) : List Int)).bind fun y277 => ((spec_l20Rd_pick.f k t260 bt275.2 5).bind fun bt280 => (if 0 ≤ bt280.1 then (if bt280.1 < (y277.length : Int) then (some (t263, t264, t265, t266, t267, t268, t269, t271, rd y277 bt280.1)) else (none)) else (none))))) = some (r1, r2, r3, r4, r5, r6, r7, r8, r9) := H
 have A5 := Aside0.mk A50
 clear A50
 replace H := Option.bind_eq_some_iff.mp H
 obtain ⟨⟨t275, t276⟩, A60, H⟩ := H
 replace H : ((some (([0, t273, (-1), 9223372036854775807, t275] : List Int) : List Int)).bind fun y277 => ((spec_l20Rd_pick.f k t260 t276 5).bind fun bt280 => (if 0 ≤ bt280.1 then (if bt280.1 < (y277.length : Int) then (some (t263, t264, t265, t266, t267, t268, t269, t271, rd y277 bt280.1)) else (none)) else (none)))) = some (r1, r2, r3, r4, r5, r6, r7, r8, r9) := H
 have A6 := Aside0.mk A60
 clear A60
 obtain ⟨y277, hy277⟩ : ∃ y_ : List Int, y_ = (([0, t273, (-1), 9223372036854775807, t275] : List Int)) := ⟨_, rfl⟩
 replace H : ((spec_l20Rd_pick.f k t260 t276 5).bind fun bt280 => (if 0 ≤ bt280.1 then (if bt280.1 < (y277.length : Int) then (some (t263, t264, t265, t266, t267, t268, t269, t271, rd y277 bt280.1)) else (none)) else (none))) = some (r1, r2, r3, r4, r5, r6, r7, r8, r9) := by first | (rw [hy277]; with_reducible exact H) | (have H2_ := (Option.bind_some _ _).symm.trans H; rw [hy277]; with_reducible exact H2_) | (have H2_ := (Option.bind_some _ _).symm.trans H; with_reducible exact H2_) | with_reducible exact H | (rw [hy277]; exact H) | exact H
 have Ny277 := Aside0.mk hy277
 clear hy277
 replace H := Option.bind_eq_some_iff.mp H
 obtain ⟨⟨t280, t281⟩, A70, H⟩ := H
 replace H : (if 0 ≤ t280 then (if t280 < (y277.length : Int) then (some (t263, t264, t265, t266, t267, t268, t269, t271, rd y277 t280)) else (none)) else (none)) = some (r1, r2, r3, r4, r5, r6, r7, r8, r9) := H
 have A7 := Aside0.mk A70
 clear A70
 by_cases c8 : 0 ≤ t280
 ·rw [if_pos c8] at H
  have c8b0 : decide (0 ≤ t280) = true := decide_eq_true c8
  clear c8
  by_cases c9 : t280 < (y277.length : Int)
  ·rw [if_pos c9] at H
   have c9b0 : decide (t280 < (y277.length : Int)) = true := decide_eq_true c9
   clear c9
   simp only [Option.some.injEq, Prod.mk.injEq] at H
   obtain ⟨rfl, rfl, rfl, rfl, rfl, rfl, rfl, rfl, rfl⟩ := H
   go_enter Try.func29, Try.ntmps29
   try go_wp2_with (first | ((with_reducible refine gate_dst (N := 2) rfl ?_); refine box_event ?hg (N := 2) ?hd (cs := #[.int .i64 0, .int .i64 0, .int .i64 0, .int .i64 0, .int .i64 0, .int .i64 0, .string (⟨#[]⟩ : ByteArray)]) (t := 31) ?hr ?_; (case hd => rfl); (case hg => rfl); (case hr => first | (go_simp; done) | (go_simp; rfl)); intro gb259 hg w10 hbox hb; have n0_ := Aside0.mk (below_step (by repeat (first | (with_reducible first | exact HB.out | apply below_alloc | apply pw_below_drewN | apply below_drew1) | exact HB.out)) hb); have n1_ := Aside0.mk (hbox); have n2_ := Aside0.mk ((by rw [hg]; exact (below_size (by repeat (first | (with_reducible first | exact HB.out | apply below_alloc | apply pw_below_drewN | apply below_drew1) | exact HB.out))) : w.heap.size ≤ gb259)); have n3_ := Aside0.mk ((by rw [hg]; exact (below_size (by repeat (first | (with_reducible first | exact HB.out | apply below_alloc | apply pw_below_drewN | apply below_drew1) | exact HB.out))) : w.heap.size ≤ gb259)); clear HB; have HB := n0_; have BK259 := n1_; have GW259 := n2_; have GE259 := n3_; clear n0_ n1_ n2_ n3_; clear hb hbox hg) | ((with_reducible refine gate_callee (f := 43) rfl ?_); refine goesL_ (some 7) rfl rfl Try.func43 (by kernel_rfl) rfl #[.slice A0 l0.length c0] rfl (by (try simp only [List.map_toArray, List.map_cons, List.map_nil]); first | done | rfl | (simp only [List.length_drop, List.length_take]; rfl)) ?_; (with_reducible refine (spec_l20Open.calls _ _ l0 t260 t261 w _ ?side1 ?side2 ?side3 A2.out).mono ?_); (case side1 => repeat (first | (with_reducible first | exact HB.out | apply below_alloc | apply pw_below_drewN | apply below_drew1 | refine below_set ?_ GE259.out) | exact HB.out)); (case side2 => exact HR0.out); (case side3 => exact HC0.out); rintro e w11 ⟨g262, rfl, hi, hb, hb2⟩; refine ⟨_, rfl, ?_⟩; have n0_ := Aside0.mk (blk_below (g := gb259) (o := .cells #[.int .i64 0, .int .i64 0, .int .i64 0, .int .i64 0, .int .i64 0, .int .i64 0, .string (⟨#[]⟩ : ByteArray)] 31 (0, 0)) (by (with_reducible repeat (first | refine blk_drewN ?_ _ | refine blk_drew ?_ | refine blk_alloc ?_ _)); exact BK259.out) hb2); have n1_ := Aside0.mk (hb); have n2_ := Aside0.mk (hi); have n3_ := Aside0.mk (IsS75.ne_blk hi (blk_below (g := gb259) (o := .cells #[.int .i64 0, .int .i64 0, .int .i64 0, .int .i64 0, .int .i64 0, .int .i64 0, .string (⟨#[]⟩ : ByteArray)] 31 (0, 0)) (by (with_reducible repeat (first | refine blk_drewN ?_ _ | refine blk_drew ?_ | refine blk_alloc ?_ _)); exact BK259.out) hb2) (by decide)); have n4_ := Aside0.mk (Ne.symm (IsS75.ne_blk hi (blk_below (g := gb259) (o := .cells #[.int .i64 0, .int .i64 0, .int .i64 0, .int .i64 0, .int .i64 0, .int .i64 0, .string (⟨#[]⟩ : ByteArray)] 31 (0, 0)) (by (with_reducible repeat (first | refine blk_drewN ?_ _ | refine blk_drew ?_ | refine blk_alloc ?_ _)); exact BK259.out) hb2) (by decide))); clear BK259; clear HB; have BK259 := n0_; have HB := n1_; have HI262 := n2_; have NB262_259 := n3_; have NB259_262 := n4_; clear n0_ n1_ n2_ n3_ n4_; (try clear hb); (try clear hb2); (try clear hk); (try clear hi)))
   have pi282 : (0 ≤ (t280 : Int)) = True := eq_true (of_decide_eq_true (by first | (with_reducible assumption) | assumption))
   have qi282 : (t280 < (y277.length : Int)) = True := eq_true (of_decide_eq_true (by first | (with_reducible assumption) | assumption))
   have n0_ := Aside0.mk (blk_drew BK259.out)
   have n1_ := Aside0.mk (IsS75.drew HI262.out)
   have n2_ := Aside0.mk (below_drew1 HB.out)
   clear BK259
   clear HI262
   clear HB
   have BK259 := n0_
   have HI262 := n1_
   have HB := n2_
   clear n0_ n1_ n2_
   refine start_ (n := 16) (S := fun w' => True) (ds := []) #[false, false, false, false, false, false, false, false, false, false, false, false, false, false, false, false] (by kernel_rfl) rfl rfl trivial (fun hHeld => ?_); refine with_tabW spec_DrawSegCut.tab2 spec_DrawSegCut.bits2 (fun HT_ HW_ => ?_)
   generalize w11.drew = w12 at BK259 HI262 HB hHeld ⊢
   refine pure_ (i := 0) (N := some 8) (v := ?_) (a' := ?_) #[true, false, false, false, false, false, false, false, false, false, false, false, false, false, false, false] rfl rfl (any_of HT_.out (by kernel_rfl)) (fun _ _ _ h => h) (Or.inl ⟨by rfl, ?_⟩) ?_ ?_
   rotate_left
   ·intro w'
    go_simp
    with_reducible rfl
   rotate_left
   ·simp only [Act.put, List.setIfInBounds_toArray, List.set_cons_zero, List.set_cons_succ, i64_w, i32_w]
    rfl
   refine pure_ (i := 2) (N := some 10) (v := ?_) (a' := ?_) #[true, false, true, false, false, false, false, false, false, false, false, false, false, false, false, false] rfl rfl (any_of HT_.out (by kernel_rfl)) (fun _ _ _ h => h) (Or.inl ⟨by rfl, ?_⟩) ?_ ?_
   rotate_left
   ·intro w'
    go_simp
    with_reducible rfl
   rotate_left
   ·simp only [Act.put, List.setIfInBounds_toArray, List.set_cons_zero, List.set_cons_succ, i64_w, i32_w]
    rfl
   refine pure_ (i := 4) (N := some 12) (v := ?_) (a' := ?_) #[true, false, true, false, true, false, false, false, false, false, false, false, false, false, false, false] rfl rfl (any_of HT_.out (by kernel_rfl)) (fun _ _ _ h => h) (Or.inl ⟨by rfl, ?_⟩) ?_ ?_
   rotate_left
   ·intro w'
    go_simp
    with_reducible rfl
   rotate_left
   ·simp only [Act.put, List.setIfInBounds_toArray, List.set_cons_zero, List.set_cons_succ, i64_w, i32_w]
    rfl
   refine pure_ (i := 6) (N := some 14) (v := ?_) (a' := ?_) #[true, false, true, false, true, false, true, false, false, false, false, false, false, false, false, false] rfl rfl (any_of HT_.out (by kernel_rfl)) (fun _ _ _ h => h) (Or.inl ⟨by rfl, ?_⟩) ?_ ?_
   rotate_left
   ·intro w'
    go_simp
    with_reducible rfl
   rotate_left
   ·simp only [Act.put, List.setIfInBounds_toArray, List.set_cons_zero, List.set_cons_succ, i64_w, i32_w]
    rfl
   refine pure_ (i := 9) (N := some 17) (v := ?_) (a' := ?_) #[true, false, true, false, true, false, true, false, false, true, false, false, false, false, false, false] rfl rfl (any_of HT_.out (by kernel_rfl)) (fun _ _ _ h => h) (Or.inl ⟨by rfl, ?_⟩) ?_ ?_
   rotate_left
   ·intro w'
    go_simp
    with_reducible rfl
   rotate_left
   ·simp only [Act.put, List.setIfInBounds_toArray, List.set_cons_zero, List.set_cons_succ, i64_w, i32_w]
    rfl
   refine inv_at [1, 3, 5, 7, 8, 10, 11, 12, 13, 14, 15] (fun a0_ b a w' => ∃ (v278 : Value) (adz_v278 : Addr) (m11_ : Value), a = putSel a0_ b [(1, 9, .agg #[.int .i64 t263, .int .i64 t264, .int .i64 t265, .int .i64 t266, .int .i64 t267, .int .i64 t268, .string t269]), (3, 11, .string t271), (5, 13, .int .i64 t273), (7, 15, .int .i64 t275), (8, 16, v278), (10, 18, .int .i64 t280), (11, 19, m11_), (12, 20, .int .i64 (rd y277 t280)), (14, 3, .string t271), (15, 4, .int .i64 (rd y277 t280))] ∧ (b 13 = false → w'.heap[gb259]? = some (.cells #[.int .i64 0, .int .i64 0, .int .i64 0, .int .i64 0, .int .i64 0, .int .i64 0, .string (⟨#[]⟩ : ByteArray)] 31 (0, 0))) ∧ (b 1 = false → IsS75 w w' g262 t260 t261) ∧ (Below w.heap.size w w') ∧ (b 1 = true → b 3 = false → IsS75 w w' g262 t260 t270) ∧ (b 3 = true → b 5 = false → IsS75 w w' g262 t260 t272) ∧ (b 5 = true → b 7 = false → IsS75 w w' g262 t260 t274) ∧ (b 7 = true → b 10 = false → IsS75 w w' g262 t260 t276) ∧ (b 8 = true → Kd.R (Kd.int .i64) 3 w' w.heap.size (fun _ => True) v278 y277) ∧ (b 8 = true → ∃ c_, (v278 : Value) = .slice (some adz_v278) y277.length c_) ∧ (b 10 = true → IsS75 w w' g262 t260 t281) ∧ (b 13 = true → w'.heap[gb259]? = some (.cells #[.int .i64 t263, .int .i64 t264, .int .i64 t265, .int .i64 t266, .int .i64 t267, .int .i64 t268, .string t269] 31 (0, 0))) ∧ (b 11 = true → (m11_ : Value) = .pointer (some (adz_v278.add (t280).toNat)))) HT_.out HW_.out (by kernel_rfl) (by kernel_rfl) ?_ ?_ ?_
   ·exact ⟨.bool false, ⟨0, 0, none⟩, .bool false, by simp only [putSel, Bool.false_eq_true, if_false], fun _ => BK259.out, fun _ => HI262.out, HB.out, fun h_ => absurd h_ (by decide), fun h_ => absurd h_ (by decide), fun h_ => absurd h_ (by decide), fun h_ => absurd h_ (by decide), fun h_ => absurd h_ (by decide), fun h_ => absurd h_ (by decide), fun h_ => absurd h_ (by decide), fun h_ => absurd h_ (by decide), fun h_ => absurd h_ (by decide)⟩
   ·skip
    clear BK259 HB HI262
    refine steps_cons ?_ ?_
    ·rintro b a w' ⟨v278, adz_v278, m11_, ha, Q_BK259, Q_HI262, Q_HB, Q_HI262_e1, Q_HI262_e3, Q_HI262_e5, Q_HI262_e7, Q_HO279, Q_HA_HO279, Q_HI262_e10, Q_BK259_e13, Q_X11_⟩ hb_ hon hoff
     refine ⟨_, rfl, fun K hK => ?_⟩
     have e8 : a.tmps[8]? = some (.pointer (some ⟨g262, 0, none⟩)) := by rw [ha]; exact (putSel_off rfl).trans rfl
     replace ha := Aside0.mk ha
     have BK259 := Aside0.mk (Q_BK259 (hoff 13 (by kernel_rfl)))
     have HI262 := Aside0.mk (Q_HI262 hb_)
     have HB := Aside0.mk Q_HB
     refine goes_ Try.func42 (by kernel_rfl) rfl #[.pointer (some ⟨g262, 0, none⟩), .int .i64 9] (by rfl) rfl rfl (by first | (simp only [List.map_toArray, List.map_cons, List.map_nil, Act.eval, Array.getD_eq_getD_getElem?, Option.getD_some, e8]; done) | (simp only [List.map_toArray, List.map_cons, List.map_nil, Act.eval, Array.getD_eq_getD_getElem?, Option.getD_some, e8]; rfl)) ?_
     with_reducible refine (spec_l20Seg.calls k g262 t260 t261 9 t263 t264 t265 t266 t267 t268 t269 t270 w _ ?side1 ?side2 A3.out).mono ?_
     (case side1 => repeat (first | (with_reducible first | exact HI262.out | apply IsS75.alloc | apply IsS75.drewN | apply IsS75.drew | apply IsS75.set_1 | refine IsS75.far ?_ NB262_259.out _) | exact HI262.out))
     (case side2 => repeat (first | (with_reducible first | exact HB.out | apply below_alloc | apply pw_below_drewN | apply below_drew1 | refine below_set ?_ (IsS75.ge HI262.out) | refine below_set ?_ GE259.out) | exact HB.out))
     rintro e w13 ⟨rfl, hi, hb, hk⟩
     refine ⟨_, rfl, ?_⟩
     have n0_ := Aside0.mk (KeepBut.blk hk (g' := gb259) (o := .cells #[.int .i64 0, .int .i64 0, .int .i64 0, .int .i64 0, .int .i64 0, .int .i64 0, .string (⟨#[]⟩ : ByteArray)] 31 (0, 0)) (by (with_reducible repeat (first | refine blk_drewN ?_ _ | refine blk_drew ?_ | refine blk_alloc ?_ _)); exact BK259.out) NB259_262.out (by simp))
     have n1_ := Aside0.mk (hb)
     have n2_ := Aside0.mk (hi)
     clear BK259
     clear HB
     clear HI262
     have BK259 := n0_
     have HB := n1_
     have HI262 := n2_
     clear n0_ n1_ n2_
     (try clear hb)
     (try clear hb2)
     (try clear hk)
     (try clear hi)
     refine hK.out _ _ ⟨v278, adz_v278, m11_, (by rw [ha.out]; exact putSel_upk 0 hb_ rfl rfl rfl), fun _ => (by (with_reducible repeat (first | refine blk_drewN ?_ _ | refine blk_drew ?_ | refine blk_alloc ?_ _)); exact BK259.out), fun h0_ => absurd ((up_self b 1).symm.trans h0_) (by decide), (by repeat (first | (with_reducible first | exact HB.out | apply below_alloc | apply pw_below_drewN | apply below_drew1 | refine below_set ?_ (IsS75.ge HI262.out) | refine below_set ?_ GE259.out) | exact HB.out)), fun _ _ => (by repeat (first | (with_reducible first | exact HI262.out | apply IsS75.alloc | apply IsS75.drewN | apply IsS75.drew | apply IsS75.set_1 | refine IsS75.far ?_ NB262_259.out _) | exact HI262.out)), fun h0_ _ => absurd ((hoff 3 (by kernel_rfl)).symm.trans h0_) (by decide), fun h0_ _ => absurd ((hoff 5 (by kernel_rfl)).symm.trans h0_) (by decide), fun h0_ _ => absurd ((hoff 7 (by kernel_rfl)).symm.trans h0_) (by decide), fun h0_ => absurd ((hoff 8 (by kernel_rfl)).symm.trans h0_) (by decide), fun h0_ => absurd ((hoff 8 (by kernel_rfl)).symm.trans h0_) (by decide), fun h0_ => absurd ((hoff 10 (by kernel_rfl)).symm.trans h0_) (by decide), fun h0_ => absurd ((hoff 13 (by kernel_rfl)).symm.trans h0_) (by decide), fun h0_ => absurd ((hoff 11 (by kernel_rfl)).symm.trans h0_) (by decide)⟩
    refine steps_cons ?_ ?_
    ·rintro b a w' ⟨v278, adz_v278, m11_, ha, Q_BK259, Q_HI262, Q_HB, Q_HI262_e1, Q_HI262_e3, Q_HI262_e5, Q_HI262_e7, Q_HO279, Q_HA_HO279, Q_HI262_e10, Q_BK259_e13, Q_X11_⟩ hb_ hon hoff
     refine ⟨_, rfl, fun K hK => ?_⟩
     have e10 : a.tmps[10]? = some (.pointer (some ⟨g262, 0, none⟩)) := by rw [ha]; exact (putSel_off rfl).trans rfl
     replace ha := Aside0.mk ha
     have BK259 := Aside0.mk (Q_BK259 (hoff 13 (by kernel_rfl)))
     have HB := Aside0.mk Q_HB
     have HI262 := Aside0.mk (Q_HI262_e1 (hon 1 (by kernel_rfl)) hb_)
     refine goes_ Try.func51 (by kernel_rfl) rfl #[.pointer (some ⟨g262, 0, none⟩)] (by rfl) rfl rfl (by first | (simp only [List.map_toArray, List.map_cons, List.map_nil, Act.eval, Array.getD_eq_getD_getElem?, Option.getD_some, e10]; done) | (simp only [List.map_toArray, List.map_cons, List.map_nil, Act.eval, Array.getD_eq_getD_getElem?, Option.getD_some, e10]; rfl)) ?_
     with_reducible refine (spec_l20Stream.calls k g262 t260 t270 t271 t272 w _ ?side1 ?side2 A4.out).mono ?_
     (case side1 => repeat (first | (with_reducible first | exact HI262.out | apply IsS75.alloc | apply IsS75.drewN | apply IsS75.drew | apply IsS75.set_1 | refine IsS75.far ?_ NB262_259.out _) | exact HI262.out))
     (case side2 => repeat (first | (with_reducible first | exact HB.out | apply below_alloc | apply pw_below_drewN | apply below_drew1 | refine below_set ?_ (IsS75.ge HI262.out) | refine below_set ?_ GE259.out) | exact HB.out))
     rintro e w15 ⟨rfl, hi, hb, hk⟩
     refine ⟨_, rfl, ?_⟩
     have n0_ := Aside0.mk (KeepBut.blk hk (g' := gb259) (o := .cells #[.int .i64 0, .int .i64 0, .int .i64 0, .int .i64 0, .int .i64 0, .int .i64 0, .string (⟨#[]⟩ : ByteArray)] 31 (0, 0)) (by (with_reducible repeat (first | refine blk_drewN ?_ _ | refine blk_drew ?_ | refine blk_alloc ?_ _)); exact BK259.out) NB259_262.out (by simp))
     have n1_ := Aside0.mk (hb)
     have n2_ := Aside0.mk (hi)
     clear BK259
     clear HB
     clear HI262
     have BK259 := n0_
     have HB := n1_
     have HI262 := n2_
     clear n0_ n1_ n2_
     (try clear hb)
     (try clear hb2)
     (try clear hk)
     (try clear hi)
     refine hK.out _ _ ⟨v278, adz_v278, m11_, (by rw [ha.out]; exact putSel_upk 1 hb_ rfl rfl rfl), fun _ => (by (with_reducible repeat (first | refine blk_drewN ?_ _ | refine blk_drew ?_ | refine blk_alloc ?_ _)); exact BK259.out), fun h0_ => absurd ((hon 1 (by kernel_rfl)).symm.trans h0_) (by decide), (by repeat (first | (with_reducible first | exact HB.out | apply below_alloc | apply pw_below_drewN | apply below_drew1 | refine below_set ?_ (IsS75.ge HI262.out) | refine below_set ?_ GE259.out) | exact HB.out)), fun _ h1_ => absurd ((up_self b 3).symm.trans h1_) (by decide), fun _ _ => (by repeat (first | (with_reducible first | exact HI262.out | apply IsS75.alloc | apply IsS75.drewN | apply IsS75.drew | apply IsS75.set_1 | refine IsS75.far ?_ NB262_259.out _) | exact HI262.out)), fun h0_ _ => absurd ((hoff 5 (by kernel_rfl)).symm.trans h0_) (by decide), fun h0_ _ => absurd ((hoff 7 (by kernel_rfl)).symm.trans h0_) (by decide), fun h0_ => absurd ((hoff 8 (by kernel_rfl)).symm.trans h0_) (by decide), fun h0_ => absurd ((hoff 8 (by kernel_rfl)).symm.trans h0_) (by decide), fun h0_ => absurd ((hoff 10 (by kernel_rfl)).symm.trans h0_) (by decide), fun h0_ => absurd ((hoff 13 (by kernel_rfl)).symm.trans h0_) (by decide), fun h0_ => absurd ((hoff 11 (by kernel_rfl)).symm.trans h0_) (by decide)⟩
    refine steps_cons ?_ ?_
    ·rintro b a w' ⟨v278, adz_v278, m11_, ha, Q_BK259, Q_HI262, Q_HB, Q_HI262_e1, Q_HI262_e3, Q_HI262_e5, Q_HI262_e7, Q_HO279, Q_HA_HO279, Q_HI262_e10, Q_BK259_e13, Q_X11_⟩ hb_ hon hoff
     refine ⟨_, rfl, fun K hK => ?_⟩
     have e12 : a.tmps[12]? = some (.pointer (some ⟨g262, 0, none⟩)) := by rw [ha]; exact (putSel_off rfl).trans rfl
     replace ha := Aside0.mk ha
     have BK259 := Aside0.mk (Q_BK259 (hoff 13 (by kernel_rfl)))
     have HB := Aside0.mk Q_HB
     have HI262 := Aside0.mk (Q_HI262_e3 (hon 3 (by kernel_rfl)) hb_)
     refine goes_ Try.func52 (by kernel_rfl) rfl #[.pointer (some ⟨g262, 0, none⟩), .int .i64 130] (by rfl) rfl rfl (by first | (simp only [List.map_toArray, List.map_cons, List.map_nil, Act.eval, Array.getD_eq_getD_getElem?, Option.getD_some, e12]; done) | (simp only [List.map_toArray, List.map_cons, List.map_nil, Act.eval, Array.getD_eq_getD_getElem?, Option.getD_some, e12]; rfl)) ?_
     with_reducible refine (spec_l20Rd_pick.calls k g262 t260 t272 130 t273 t274 w _ ?side1 ?side2 A5.out).mono ?_
     (case side1 => repeat (first | (with_reducible first | exact HI262.out | apply IsS75.alloc | apply IsS75.drewN | apply IsS75.drew | apply IsS75.set_1 | refine IsS75.far ?_ NB262_259.out _) | exact HI262.out))
     (case side2 => repeat (first | (with_reducible first | exact HB.out | apply below_alloc | apply pw_below_drewN | apply below_drew1 | refine below_set ?_ (IsS75.ge HI262.out) | refine below_set ?_ GE259.out) | exact HB.out))
     rintro e w16 ⟨rfl, hi, hb, hk⟩
     refine ⟨_, rfl, ?_⟩
     have n0_ := Aside0.mk (KeepBut.blk hk (g' := gb259) (o := .cells #[.int .i64 0, .int .i64 0, .int .i64 0, .int .i64 0, .int .i64 0, .int .i64 0, .string (⟨#[]⟩ : ByteArray)] 31 (0, 0)) (by (with_reducible repeat (first | refine blk_drewN ?_ _ | refine blk_drew ?_ | refine blk_alloc ?_ _)); exact BK259.out) NB259_262.out (by simp))
     have n1_ := Aside0.mk (hb)
     have n2_ := Aside0.mk (hi)
     clear BK259
     clear HB
     clear HI262
     have BK259 := n0_
     have HB := n1_
     have HI262 := n2_
     clear n0_ n1_ n2_
     (try clear hb)
     (try clear hb2)
     (try clear hk)
     (try clear hi)
     refine hK.out _ _ ⟨v278, adz_v278, m11_, (by rw [ha.out]; exact putSel_upk 2 hb_ rfl rfl rfl), fun _ => (by (with_reducible repeat (first | refine blk_drewN ?_ _ | refine blk_drew ?_ | refine blk_alloc ?_ _)); exact BK259.out), fun h0_ => absurd ((hon 1 (by kernel_rfl)).symm.trans h0_) (by decide), (by repeat (first | (with_reducible first | exact HB.out | apply below_alloc | apply pw_below_drewN | apply below_drew1 | refine below_set ?_ (IsS75.ge HI262.out) | refine below_set ?_ GE259.out) | exact HB.out)), fun _ h1_ => absurd ((hon 3 (by kernel_rfl)).symm.trans h1_) (by decide), fun _ h1_ => absurd ((up_self b 5).symm.trans h1_) (by decide), fun _ _ => (by repeat (first | (with_reducible first | exact HI262.out | apply IsS75.alloc | apply IsS75.drewN | apply IsS75.drew | apply IsS75.set_1 | refine IsS75.far ?_ NB262_259.out _) | exact HI262.out)), fun h0_ _ => absurd ((hoff 7 (by kernel_rfl)).symm.trans h0_) (by decide), fun h0_ => absurd ((hoff 8 (by kernel_rfl)).symm.trans h0_) (by decide), fun h0_ => absurd ((hoff 8 (by kernel_rfl)).symm.trans h0_) (by decide), fun h0_ => absurd ((hoff 10 (by kernel_rfl)).symm.trans h0_) (by decide), fun h0_ => absurd ((hoff 13 (by kernel_rfl)).symm.trans h0_) (by decide), fun h0_ => absurd ((hoff 11 (by kernel_rfl)).symm.trans h0_) (by decide)⟩
    refine steps_cons ?_ ?_
    ·rintro b a w' ⟨v278, adz_v278, m11_, ha, Q_BK259, Q_HI262, Q_HB, Q_HI262_e1, Q_HI262_e3, Q_HI262_e5, Q_HI262_e7, Q_HO279, Q_HA_HO279, Q_HI262_e10, Q_BK259_e13, Q_X11_⟩ hb_ hon hoff
     refine ⟨_, rfl, fun K hK => ?_⟩
     have e14 : a.tmps[14]? = some (.pointer (some ⟨g262, 0, none⟩)) := by rw [ha]; exact (putSel_off rfl).trans rfl
     replace ha := Aside0.mk ha
     have BK259 := Aside0.mk (Q_BK259 (hoff 13 (by kernel_rfl)))
     have HB := Aside0.mk Q_HB
     have HI262 := Aside0.mk (Q_HI262_e5 (hon 5 (by kernel_rfl)) hb_)
     refine goes_ Try.func52 (by kernel_rfl) rfl #[.pointer (some ⟨g262, 0, none⟩), .int .i64 20] (by rfl) rfl rfl (by first | (simp only [List.map_toArray, List.map_cons, List.map_nil, Act.eval, Array.getD_eq_getD_getElem?, Option.getD_some, e14]; done) | (simp only [List.map_toArray, List.map_cons, List.map_nil, Act.eval, Array.getD_eq_getD_getElem?, Option.getD_some, e14]; rfl)) ?_
     with_reducible refine (spec_l20Rd_pick.calls k g262 t260 t274 20 t275 t276 w _ ?side1 ?side2 A6.out).mono ?_
     (case side1 => repeat (first | (with_reducible first | exact HI262.out | apply IsS75.alloc | apply IsS75.drewN | apply IsS75.drew | apply IsS75.set_1 | refine IsS75.far ?_ NB262_259.out _) | exact HI262.out))
     (case side2 => repeat (first | (with_reducible first | exact HB.out | apply below_alloc | apply pw_below_drewN | apply below_drew1 | refine below_set ?_ (IsS75.ge HI262.out) | refine below_set ?_ GE259.out) | exact HB.out))
     rintro e w17 ⟨rfl, hi, hb, hk⟩
     refine ⟨_, rfl, ?_⟩
     have n0_ := Aside0.mk (KeepBut.blk hk (g' := gb259) (o := .cells #[.int .i64 0, .int .i64 0, .int .i64 0, .int .i64 0, .int .i64 0, .int .i64 0, .string (⟨#[]⟩ : ByteArray)] 31 (0, 0)) (by (with_reducible repeat (first | refine blk_drewN ?_ _ | refine blk_drew ?_ | refine blk_alloc ?_ _)); exact BK259.out) NB259_262.out (by simp))
     have n1_ := Aside0.mk (hb)
     have n2_ := Aside0.mk (hi)
     clear BK259
     clear HB
     clear HI262
     have BK259 := n0_
     have HB := n1_
     have HI262 := n2_
     clear n0_ n1_ n2_
     (try clear hb)
     (try clear hb2)
     (try clear hk)
     (try clear hi)
     refine hK.out _ _ ⟨v278, adz_v278, m11_, (by rw [ha.out]; exact putSel_upk 3 hb_ rfl rfl rfl), fun _ => (by (with_reducible repeat (first | refine blk_drewN ?_ _ | refine blk_drew ?_ | refine blk_alloc ?_ _)); exact BK259.out), fun h0_ => absurd ((hon 1 (by kernel_rfl)).symm.trans h0_) (by decide), (by repeat (first | (with_reducible first | exact HB.out | apply below_alloc | apply pw_below_drewN | apply below_drew1 | refine below_set ?_ (IsS75.ge HI262.out) | refine below_set ?_ GE259.out) | exact HB.out)), fun _ h1_ => absurd ((hon 3 (by kernel_rfl)).symm.trans h1_) (by decide), fun _ h1_ => absurd ((hon 5 (by kernel_rfl)).symm.trans h1_) (by decide), fun _ h1_ => absurd ((up_self b 7).symm.trans h1_) (by decide), fun _ _ => (by repeat (first | (with_reducible first | exact HI262.out | apply IsS75.alloc | apply IsS75.drewN | apply IsS75.drew | apply IsS75.set_1 | refine IsS75.far ?_ NB262_259.out _) | exact HI262.out)), fun h0_ => absurd ((hoff 8 (by kernel_rfl)).symm.trans h0_) (by decide), fun h0_ => absurd ((hoff 8 (by kernel_rfl)).symm.trans h0_) (by decide), fun h0_ => absurd ((hoff 10 (by kernel_rfl)).symm.trans h0_) (by decide), fun h0_ => absurd ((hoff 13 (by kernel_rfl)).symm.trans h0_) (by decide), fun h0_ => absurd ((hoff 11 (by kernel_rfl)).symm.trans h0_) (by decide)⟩
    refine steps_cons ?_ ?_
    ·rintro b a w' ⟨v278, adz_v278, m11_, ha, Q_BK259, Q_HI262, Q_HB, Q_HI262_e1, Q_HI262_e3, Q_HI262_e5, Q_HI262_e7, Q_HO279, Q_HA_HO279, Q_HI262_e10, Q_BK259_e13, Q_X11_⟩ hb_ hon hoff
     refine ⟨_, rfl, fun K hK => ?_⟩
     have e13 : a.tmps[13]? = some (.int .i64 t273) := by rw [ha]; exact putSel_on (e := (5, 13, .int .i64 t273)) 2 rfl rfl (hon 5 (by kernel_rfl)) rfl
     have e15 : a.tmps[15]? = some (.int .i64 t275) := by rw [ha]; exact putSel_on (e := (7, 15, .int .i64 t275)) 3 rfl rfl (hon 7 (by kernel_rfl)) rfl
     replace ha := Aside0.mk ha
     have HB := Aside0.mk Q_HB
     refine Kd.R_lit_step (Kd.int .i64) _ 3 ?hg (N := 16) ?hd (xs := ([0, t273, (-1), 9223372036854775807, t275] : List Int)) (inner := [.int .i64 0, .int .i64 t273, .int .i64 (-1), .int .i64 9223372036854775807, .int .i64 t275]) (ok := fun _ => True) (okp := fun _ => True) ?hr ?hp (fun _ hk => hk) trivial (Below.refl _ _) (Nat.le_refl _) (by simp) ?_; (case hd => rfl); (case hg => rfl); (case hr => first | (go_simp; done) | (go_simp; rfl)); (case hp => exact (Reps.one (show Kd.M (Kd.int .i64) _ _ _ 0 [.int .i64 0] from rfl) (Reps.one (show Kd.M (Kd.int .i64) _ _ _ t273 [.int .i64 t273] from rfl) (Reps.one (show Kd.M (Kd.int .i64) _ _ _ (-1) [.int .i64 (-1)] from rfl) (Reps.one (show Kd.M (Kd.int .i64) _ _ _ 9223372036854775807 [.int .i64 9223372036854775807] from rfl) (Reps.one (show Kd.M (Kd.int .i64) _ _ _ t275 [.int .i64 t275] from rfl) (Reps.none _ _)))))))
     intro v278 w18 ho19 hb hg_ hnew_
     clear hg_ hnew_
     (first | rw [← Ny277.out] at ho19 | (simp only [Int.reduceToNat] at ho19; rw [← Ny277.out] at ho19))
     have n0_ := Aside0.mk (Kd.R_lower ho19 (below_size (by repeat (first | (with_reducible first | exact HB.out | apply below_alloc | apply pw_below_drewN | apply below_drew1 | refine below_set ?_ GE259.out) | exact HB.out))))
     have n3_ := Aside0.mk (below_step (by repeat (first | (with_reducible first | exact HB.out | apply below_alloc | apply pw_below_drewN | apply below_drew1 | refine below_set ?_ GE259.out) | exact HB.out)) hb)
     have z_BK259 := fun (h0_ : b 13 = false) => (show w18.heap[gb259]? = some (.cells #[.int .i64 0, .int .i64 0, .int .i64 0, .int .i64 0, .int .i64 0, .int .i64 0, .string (⟨#[]⟩ : ByteArray)] 31 (0, 0)) from by first | exact (blk_below (g := gb259) (o := .cells #[.int .i64 0, .int .i64 0, .int .i64 0, .int .i64 0, .int .i64 0, .int .i64 0, .string (⟨#[]⟩ : ByteArray)] 31 (0, 0)) (by (with_reducible repeat (first | refine blk_drewN ?_ _ | refine blk_drew ?_ | refine blk_alloc ?_ _)); exact (Q_BK259 h0_)) hb))
     have z_HI262_e7 := fun (h0_ : b 7 = true) (h1_ : b 10 = false) => (show IsS75 w w18 g262 t260 t276 from by first | exact (IsS75.below (by repeat (first | (with_reducible first | exact (Q_HI262_e7 h0_ h1_) | apply IsS75.alloc | apply IsS75.drewN | apply IsS75.drew | apply IsS75.set_1 | refine IsS75.far ?_ NB262_259.out _) | exact (Q_HI262_e7 h0_ h1_))) hb))
     have z_HI262_e10 := fun (h0_ : b 10 = true) => (show IsS75 w w18 g262 t260 t281 from by first | exact (IsS75.below (by repeat (first | (with_reducible first | exact (Q_HI262_e10 h0_) | apply IsS75.alloc | apply IsS75.drewN | apply IsS75.drew | apply IsS75.set_1 | refine IsS75.far ?_ NB262_259.out _) | exact (Q_HI262_e10 h0_))) hb))
     have z_BK259_e13 := fun (h0_ : b 13 = true) => (show w18.heap[gb259]? = some (.cells #[.int .i64 t263, .int .i64 t264, .int .i64 t265, .int .i64 t266, .int .i64 t267, .int .i64 t268, .string t269] 31 (0, 0)) from by first | exact (blk_below (g := gb259) (o := .cells #[.int .i64 t263, .int .i64 t264, .int .i64 t265, .int .i64 t266, .int .i64 t267, .int .i64 t268, .string t269] 31 (0, 0)) (by (with_reducible repeat (first | refine blk_drewN ?_ _ | refine blk_drew ?_ | refine blk_alloc ?_ _)); exact (Q_BK259_e13 h0_)) hb))
     clear HB
     have HO279 := n0_
     have HB := n3_
     clear n0_ n3_
     clear hb ho19
     obtain ⟨Ao20, co20, eo20⟩ := Kd.R_slice HO279.out
     subst eo20
     obtain ⟨ado20, fo20, _⟩ := Kd.at_int (Kd.R_reads' HO279.out).2.2 0 (by decide) (by rw [Ny277.out]; simp)
     cases fo20
     refine hK.out _ _ ⟨.slice (some ado20) y277.length co20, ado20, m11_, (by rw [ha.out]; exact putSel_upk 4 hb_ rfl rfl rfl), z_BK259, fun h0_ => absurd ((hon 1 (by kernel_rfl)).symm.trans h0_) (by decide), (by repeat (first | (with_reducible first | exact HB.out | apply below_alloc | apply pw_below_drewN | apply below_drew1 | refine below_set ?_ GE259.out) | exact HB.out)), fun _ h1_ => absurd ((hon 3 (by kernel_rfl)).symm.trans h1_) (by decide), fun _ h1_ => absurd ((hon 5 (by kernel_rfl)).symm.trans h1_) (by decide), fun _ h1_ => absurd ((hon 7 (by kernel_rfl)).symm.trans h1_) (by decide), z_HI262_e7, fun _ => (by (with_reducible repeat (first | apply Kd.R_alloc | apply Kd.R_drewN | apply Kd.R_drew)); exact HO279.out), fun _ => ⟨_, rfl⟩, z_HI262_e10, z_BK259_e13, fun h0_ => absurd ((hoff 11 (by kernel_rfl)).symm.trans h0_) (by decide)⟩
    refine steps_cons ?_ ?_
    ·rintro b a w' ⟨v278, adz_v278, m11_, ha, Q_BK259, Q_HI262, Q_HB, Q_HI262_e1, Q_HI262_e3, Q_HI262_e5, Q_HI262_e7, Q_HO279, Q_HA_HO279, Q_HI262_e10, Q_BK259_e13, Q_X11_⟩ hb_ hon hoff
     refine ⟨_, rfl, fun K hK => ?_⟩
     have e17 : a.tmps[17]? = some (.pointer (some ⟨g262, 0, none⟩)) := by rw [ha]; exact (putSel_off rfl).trans rfl
     replace ha := Aside0.mk ha
     have BK259 := Aside0.mk (Q_BK259 (hoff 13 (by kernel_rfl)))
     have HB := Aside0.mk Q_HB
     have HI262 := Aside0.mk (Q_HI262_e7 (hon 7 (by kernel_rfl)) hb_)
     refine goes_ Try.func52 (by kernel_rfl) rfl #[.pointer (some ⟨g262, 0, none⟩), .int .i64 5] (by rfl) rfl rfl (by first | (simp only [List.map_toArray, List.map_cons, List.map_nil, Act.eval, Array.getD_eq_getD_getElem?, Option.getD_some, e17]; done) | (simp only [List.map_toArray, List.map_cons, List.map_nil, Act.eval, Array.getD_eq_getD_getElem?, Option.getD_some, e17]; rfl)) ?_
     with_reducible refine (spec_l20Rd_pick.calls k g262 t260 t276 5 t280 t281 w _ ?side1 ?side2 A7.out).mono ?_
     (case side1 => repeat (first | (with_reducible first | exact HI262.out | apply IsS75.alloc | apply IsS75.drewN | apply IsS75.drew | apply IsS75.set_1 | refine IsS75.far ?_ NB262_259.out _) | exact HI262.out))
     (case side2 => repeat (first | (with_reducible first | exact HB.out | apply below_alloc | apply pw_below_drewN | apply below_drew1 | refine below_set ?_ (IsS75.ge HI262.out) | refine below_set ?_ GE259.out) | exact HB.out))
     rintro e w18 ⟨rfl, hi, hb, hk⟩
     refine ⟨_, rfl, ?_⟩
     have n0_ := Aside0.mk (KeepBut.blk hk (g' := gb259) (o := .cells #[.int .i64 0, .int .i64 0, .int .i64 0, .int .i64 0, .int .i64 0, .int .i64 0, .string (⟨#[]⟩ : ByteArray)] 31 (0, 0)) (by (with_reducible repeat (first | refine blk_drewN ?_ _ | refine blk_drew ?_ | refine blk_alloc ?_ _)); exact BK259.out) NB259_262.out (by simp))
     have n1_ := Aside0.mk (hb)
     have n2_ := Aside0.mk (hi)
     have z_HO279 := fun (h0_ : b 8 = true) => (show Kd.R (Kd.int .i64) 3 w18 w.heap.size (fun _ => True) v278 y277 from by first | exact (Kd.R_mono (Kd.R_keep (IsS75.apart (show IsS75 w _ g262 t260 t276 from by repeat (first | (with_reducible first | exact HI262.out | apply IsS75.alloc | apply IsS75.drewN | apply IsS75.drew | apply IsS75.set_1 | refine IsS75.far ?_ NB262_259.out _) | exact HI262.out)) (by (with_reducible repeat (first | apply Kd.R_alloc | apply Kd.R_drewN | apply Kd.R_drew)); exact (Q_HO279 h0_)) (by decide)) hk (fun _ h => h.2)) (fun _ h => h.1)) | exact Kd.R_mono (Kd.R_mono (Kd.R_keep (IsS75.apart (show IsS75 w _ g262 t260 t276 from by repeat (first | (with_reducible first | exact HI262.out | apply IsS75.alloc | apply IsS75.drewN | apply IsS75.drew | apply IsS75.set_1 | refine IsS75.far ?_ NB262_259.out _) | exact HI262.out)) (by (with_reducible repeat (first | apply Kd.R_alloc | apply Kd.R_drewN | apply Kd.R_drew)); exact (Q_HO279 h0_)) (by decide)) hk (fun _ h => h.2)) (fun _ h => h.1)) (fun _ h_ => by first | trivial | exact h_ | exact h_.1))
     clear BK259
     clear HB
     clear HI262
     have BK259 := n0_
     have HB := n1_
     have HI262 := n2_
     clear n0_ n1_ n2_
     (try clear hb)
     (try clear hb2)
     (try clear hk)
     (try clear hi)
     refine hK.out _ _ ⟨v278, adz_v278, m11_, (by rw [ha.out]; exact putSel_upk 5 hb_ rfl rfl rfl), fun _ => (by (with_reducible repeat (first | refine blk_drewN ?_ _ | refine blk_drew ?_ | refine blk_alloc ?_ _)); exact BK259.out), fun h0_ => absurd ((hon 1 (by kernel_rfl)).symm.trans h0_) (by decide), (by repeat (first | (with_reducible first | exact HB.out | apply below_alloc | apply pw_below_drewN | apply below_drew1 | refine below_set ?_ (IsS75.ge HI262.out) | refine below_set ?_ GE259.out) | exact HB.out)), fun _ h1_ => absurd ((hon 3 (by kernel_rfl)).symm.trans h1_) (by decide), fun _ h1_ => absurd ((hon 5 (by kernel_rfl)).symm.trans h1_) (by decide), fun _ h1_ => absurd ((hon 7 (by kernel_rfl)).symm.trans h1_) (by decide), fun _ h1_ => absurd ((up_self b 10).symm.trans h1_) (by decide), z_HO279, Q_HA_HO279, fun _ => (by repeat (first | (with_reducible first | exact HI262.out | apply IsS75.alloc | apply IsS75.drewN | apply IsS75.drew | apply IsS75.set_1 | refine IsS75.far ?_ NB262_259.out _) | exact HI262.out)), fun h0_ => absurd ((hoff 13 (by kernel_rfl)).symm.trans h0_) (by decide), fun h0_ => absurd ((hoff 11 (by kernel_rfl)).symm.trans h0_) (by decide)⟩
    refine steps_cons ?_ ?_
    ·rintro b a w' ⟨v278, adz_v278, m11_, ha, Q_BK259, Q_HI262, Q_HB, Q_HI262_e1, Q_HI262_e3, Q_HI262_e5, Q_HI262_e7, Q_HO279, Q_HA_HO279, Q_HI262_e10, Q_BK259_e13, Q_X11_⟩ hb_ hon hoff
     refine ⟨_, rfl, fun K hK => ?_⟩
     have e16 : a.tmps[16]? = some (v278) := by rw [ha]; exact putSel_on (e := (8, 16, v278)) 4 rfl rfl (hon 8 (by kernel_rfl)) rfl
     have e18 : a.tmps[18]? = some (.int .i64 t280) := by rw [ha]; exact putSel_on (e := (10, 18, .int .i64 t280)) 5 rfl rfl (hon 10 (by kernel_rfl)) rfl
     replace ha := Aside0.mk ha
     have HB := Aside0.mk Q_HB
     have HO279 := Aside0.mk (Q_HO279 (hon 8 (by kernel_rfl)))
     have HA_HO279 := Aside0.mk (Q_HA_HO279 (hon 8 (by kernel_rfl)))
     have HI262 := Aside0.mk (Q_HI262_e10 (hon 10 (by kernel_rfl)))
     obtain ⟨c_, hv_⟩ := HA_HO279.out
     rw [hv_] at e16
     refine value_ (w1 := w') (v := .pointer (some (adz_v278.add (t280).toNat))) (by rfl) rfl ?_ ?_
     ·go_simp
      (try simp only [i64_w])
      try rfl
     refine hK.out _ _ ⟨v278, adz_v278, (.pointer (some (adz_v278.add (t280).toNat))), (by rw [ha.out]; exact putSel_upk 6 hb_ rfl rfl rfl), Q_BK259, fun h0_ => absurd ((hon 1 (by kernel_rfl)).symm.trans h0_) (by decide), Q_HB, fun _ h1_ => absurd ((hon 3 (by kernel_rfl)).symm.trans h1_) (by decide), fun _ h1_ => absurd ((hon 5 (by kernel_rfl)).symm.trans h1_) (by decide), fun _ h1_ => absurd ((hon 7 (by kernel_rfl)).symm.trans h1_) (by decide), fun _ h1_ => absurd ((hon 10 (by kernel_rfl)).symm.trans h1_) (by decide), Q_HO279, Q_HA_HO279, Q_HI262_e10, Q_BK259_e13, fun _ => rfl⟩
    refine steps_cons ?_ ?_
    ·rintro b a w' ⟨v278, adz_v278, m11_, ha, Q_BK259, Q_HI262, Q_HB, Q_HI262_e1, Q_HI262_e3, Q_HI262_e5, Q_HI262_e7, Q_HO279, Q_HA_HO279, Q_HI262_e10, Q_BK259_e13, Q_X11_⟩ hb_ hon hoff
     refine ⟨_, rfl, fun K hK => ?_⟩
     have e19 : a.tmps[19]? = some (m11_) := by rw [ha]; exact putSel_on (e := (11, 19, m11_)) 6 rfl rfl (hon 11 (by kernel_rfl)) rfl
     rw [Q_X11_ (hon 11 (by kernel_rfl))] at e19
     replace ha := Aside0.mk ha
     have HB := Aside0.mk Q_HB
     have HO279 := Aside0.mk (Q_HO279 (hon 8 (by kernel_rfl)))
     have HA_HO279 := Aside0.mk (Q_HA_HO279 (hon 8 (by kernel_rfl)))
     have HI262 := Aside0.mk (Q_HI262_e10 (hon 10 (by kernel_rfl)))
     obtain ⟨c_, hv_⟩ := HA_HO279.out
     have hF_ := HO279.out
     rw [hv_] at hF_
     obtain ⟨ad_, ea_, hx_⟩ := Kd.at_int (Kd.R_reads' hF_).2.2 t280 (of_eq_true pi282) (of_eq_true qi282)
     cases ea_
     refine value_ (w1 := w') (v := .int .i64 (rd y277 t280)) (by rfl) rfl ?_ ?_
     ·go_simp
      (try simp only [i64_w])
      try rfl
     refine hK.out _ _ ⟨v278, adz_v278, m11_, (by rw [ha.out]; exact putSel_upk 7 hb_ rfl rfl rfl), Q_BK259, fun h0_ => absurd ((hon 1 (by kernel_rfl)).symm.trans h0_) (by decide), Q_HB, fun _ h1_ => absurd ((hon 3 (by kernel_rfl)).symm.trans h1_) (by decide), fun _ h1_ => absurd ((hon 5 (by kernel_rfl)).symm.trans h1_) (by decide), fun _ h1_ => absurd ((hon 7 (by kernel_rfl)).symm.trans h1_) (by decide), fun _ h1_ => absurd ((hon 10 (by kernel_rfl)).symm.trans h1_) (by decide), Q_HO279, Q_HA_HO279, Q_HI262_e10, Q_BK259_e13, Q_X11_⟩
    refine steps_cons ?_ ?_
    ·rintro b a w' ⟨v278, adz_v278, m11_, ha, Q_BK259, Q_HI262, Q_HB, Q_HI262_e1, Q_HI262_e3, Q_HI262_e5, Q_HI262_e7, Q_HO279, Q_HA_HO279, Q_HI262_e10, Q_BK259_e13, Q_X11_⟩ hb_ hon hoff
     refine ⟨_, rfl, fun K hK => ?_⟩
     have e2 : a.tmps[2]? = some (.pointer (some ⟨gb259, 0, none⟩)) := by rw [ha]; exact (putSel_off rfl).trans rfl
     have e9 : a.tmps[9]? = some (.agg #[.int .i64 t263, .int .i64 t264, .int .i64 t265, .int .i64 t266, .int .i64 t267, .int .i64 t268, .string t269]) := by rw [ha]; exact putSel_on (e := (1, 9, .agg #[.int .i64 t263, .int .i64 t264, .int .i64 t265, .int .i64 t266, .int .i64 t267, .int .i64 t268, .string t269])) 0 rfl rfl (hon 1 (by kernel_rfl)) rfl
     replace ha := Aside0.mk ha
     have BK259 := Aside0.mk (Q_BK259 hb_)
     have HB := Aside0.mk Q_HB
     have HI262 := Aside0.mk (Q_HI262_e10 (hon 10 (by kernel_rfl)))
     have hs19 : w'.cell? ⟨gb259, 0, none⟩ = some (.int .i64 0) := (blk_cell BK259.out 0).trans rfl
     have hfs19 := blk_frozen BK259.out 0
     have hs20 : w'.cell? ⟨gb259, 1, none⟩ = some (.int .i64 0) := (blk_cell BK259.out 1).trans rfl
     have hfs20 := blk_frozen BK259.out 1
     have hs21 : w'.cell? ⟨gb259, 2, none⟩ = some (.int .i64 0) := (blk_cell BK259.out 2).trans rfl
     have hfs21 := blk_frozen BK259.out 2
     have hs22 : w'.cell? ⟨gb259, 3, none⟩ = some (.int .i64 0) := (blk_cell BK259.out 3).trans rfl
     have hfs22 := blk_frozen BK259.out 3
     have hs23 : w'.cell? ⟨gb259, 4, none⟩ = some (.int .i64 0) := (blk_cell BK259.out 4).trans rfl
     have hfs23 := blk_frozen BK259.out 4
     have hs24 : w'.cell? ⟨gb259, 5, none⟩ = some (.int .i64 0) := (blk_cell BK259.out 5).trans rfl
     have hfs24 := blk_frozen BK259.out 5
     have hs25 : w'.cell? ⟨gb259, 6, none⟩ = some (.string (⟨#[]⟩ : ByteArray)) := (blk_cell BK259.out 6).trans rfl
     have hfs25 := blk_frozen BK259.out 6
     refine skip_ (w1 := ?_) (by rfl) rfl ?_ ?_
     rotate_left
     ·go_simp
      rfl
     refine hK.out _ _ ⟨v278, adz_v278, m11_, (by rw [ha.out]; exact putSel_none (v := undef) rfl), fun h0_ => absurd ((up_self b 13).symm.trans h0_) (by decide), fun h0_ => absurd ((hon 1 (by kernel_rfl)).symm.trans h0_) (by decide), (by repeat (first | (with_reducible first | exact HB.out | apply below_alloc | apply pw_below_drewN | apply below_drew1 | refine below_set ?_ (IsS75.ge HI262.out) | refine below_set ?_ GE259.out) | exact HB.out)), fun _ h1_ => absurd ((hon 3 (by kernel_rfl)).symm.trans h1_) (by decide), fun _ h1_ => absurd ((hon 5 (by kernel_rfl)).symm.trans h1_) (by decide), fun _ h1_ => absurd ((hon 7 (by kernel_rfl)).symm.trans h1_) (by decide), fun _ h1_ => absurd ((hon 10 (by kernel_rfl)).symm.trans h1_) (by decide), fun h0_ => (by (with_reducible repeat (first | apply Kd.R_alloc | apply Kd.R_drewN | apply Kd.R_drew)); exact Kd.R_mono (Kd.R_far (p := ⟨gb259, 6, none⟩) (Kd.R_far (p := ⟨gb259, 5, none⟩) (Kd.R_far (p := ⟨gb259, 4, none⟩) (Kd.R_far (p := ⟨gb259, 3, none⟩) (Kd.R_far (p := ⟨gb259, 2, none⟩) (Kd.R_far (p := ⟨gb259, 1, none⟩) (Kd.R_far (p := ⟨gb259, 0, none⟩) (Kd.R_types (Q_HO279 h0_) BK259.out (by decide)) (fun _ hk => hk.2) (.int .i64 t263)) (fun _ hk => hk.2) (.int .i64 t264)) (fun _ hk => hk.2) (.int .i64 t265)) (fun _ hk => hk.2) (.int .i64 t266)) (fun _ hk => hk.2) (.int .i64 t267)) (fun _ hk => hk.2) (.int .i64 t268)) (fun _ hk => hk.2) (.string t269)) (fun _ hk => trivial)), Q_HA_HO279, fun _ => (by repeat (first | (with_reducible first | exact HI262.out | apply IsS75.alloc | apply IsS75.drewN | apply IsS75.drew | apply IsS75.set_1 | refine IsS75.far ?_ NB262_259.out _) | exact HI262.out)), fun _ => (by (with_reducible repeat (first | refine blk_drewN ?_ _ | refine blk_drew ?_ | refine blk_alloc ?_ _)); refine blk_put (cs := #[.int .i64 t263, .int .i64 t264, .int .i64 t265, .int .i64 t266, .int .i64 t267, .int .i64 t268, .string (⟨#[]⟩ : ByteArray)]) ?_ 6 _ rfl; (with_reducible repeat (first | refine blk_drewN ?_ _ | refine blk_drew ?_ | refine blk_alloc ?_ _)); refine blk_put (cs := #[.int .i64 t263, .int .i64 t264, .int .i64 t265, .int .i64 t266, .int .i64 t267, .int .i64 0, .string (⟨#[]⟩ : ByteArray)]) ?_ 5 _ rfl; (with_reducible repeat (first | refine blk_drewN ?_ _ | refine blk_drew ?_ | refine blk_alloc ?_ _)); refine blk_put (cs := #[.int .i64 t263, .int .i64 t264, .int .i64 t265, .int .i64 t266, .int .i64 0, .int .i64 0, .string (⟨#[]⟩ : ByteArray)]) ?_ 4 _ rfl; (with_reducible repeat (first | refine blk_drewN ?_ _ | refine blk_drew ?_ | refine blk_alloc ?_ _)); refine blk_put (cs := #[.int .i64 t263, .int .i64 t264, .int .i64 t265, .int .i64 0, .int .i64 0, .int .i64 0, .string (⟨#[]⟩ : ByteArray)]) ?_ 3 _ rfl; (with_reducible repeat (first | refine blk_drewN ?_ _ | refine blk_drew ?_ | refine blk_alloc ?_ _)); refine blk_put (cs := #[.int .i64 t263, .int .i64 t264, .int .i64 0, .int .i64 0, .int .i64 0, .int .i64 0, .string (⟨#[]⟩ : ByteArray)]) ?_ 2 _ rfl; (with_reducible repeat (first | refine blk_drewN ?_ _ | refine blk_drew ?_ | refine blk_alloc ?_ _)); refine blk_put (cs := #[.int .i64 t263, .int .i64 0, .int .i64 0, .int .i64 0, .int .i64 0, .int .i64 0, .string (⟨#[]⟩ : ByteArray)]) ?_ 1 _ rfl; (with_reducible repeat (first | refine blk_drewN ?_ _ | refine blk_drew ?_ | refine blk_alloc ?_ _)); refine blk_put (cs := #[.int .i64 0, .int .i64 0, .int .i64 0, .int .i64 0, .int .i64 0, .int .i64 0, .string (⟨#[]⟩ : ByteArray)]) ?_ 0 _ rfl; (with_reducible repeat (first | refine blk_drewN ?_ _ | refine blk_drew ?_ | refine blk_alloc ?_ _)); exact BK259.out), Q_X11_⟩
    refine steps_cons ?_ ?_
    ·rintro b a w' ⟨v278, adz_v278, m11_, ha, Q_BK259, Q_HI262, Q_HB, Q_HI262_e1, Q_HI262_e3, Q_HI262_e5, Q_HI262_e7, Q_HO279, Q_HA_HO279, Q_HI262_e10, Q_BK259_e13, Q_X11_⟩ hb_ hon hoff
     refine ⟨_, rfl, fun K hK => ?_⟩
     have e11 : a.tmps[11]? = some (.string t271) := by rw [ha]; exact putSel_on (e := (3, 11, .string t271)) 1 rfl rfl (hon 3 (by kernel_rfl)) rfl
     replace ha := Aside0.mk ha
     have HB := Aside0.mk Q_HB
     have HI262 := Aside0.mk (Q_HI262_e10 (hon 10 (by kernel_rfl)))
     have BK259 := Aside0.mk (Q_BK259_e13 (hon 13 (by kernel_rfl)))
     refine value_ (w1 := w') (v := .string t271) (by rfl) rfl ?_ ?_
     ·go_simp
      (try simp only [i64_w])
      try rfl
     refine hK.out _ _ ⟨v278, adz_v278, m11_, (by rw [ha.out]; exact putSel_upk 8 hb_ rfl rfl rfl), fun h0_ => absurd ((hon 13 (by kernel_rfl)).symm.trans h0_) (by decide), fun h0_ => absurd ((hon 1 (by kernel_rfl)).symm.trans h0_) (by decide), Q_HB, fun _ h1_ => absurd ((hon 3 (by kernel_rfl)).symm.trans h1_) (by decide), fun _ h1_ => absurd ((hon 5 (by kernel_rfl)).symm.trans h1_) (by decide), fun _ h1_ => absurd ((hon 7 (by kernel_rfl)).symm.trans h1_) (by decide), fun _ h1_ => absurd ((hon 10 (by kernel_rfl)).symm.trans h1_) (by decide), Q_HO279, Q_HA_HO279, Q_HI262_e10, Q_BK259_e13, Q_X11_⟩
    refine steps_cons ?_ ?_
    ·rintro b a w' ⟨v278, adz_v278, m11_, ha, Q_BK259, Q_HI262, Q_HB, Q_HI262_e1, Q_HI262_e3, Q_HI262_e5, Q_HI262_e7, Q_HO279, Q_HA_HO279, Q_HI262_e10, Q_BK259_e13, Q_X11_⟩ hb_ hon hoff
     refine ⟨_, rfl, fun K hK => ?_⟩
     have e20 : a.tmps[20]? = some (.int .i64 (rd y277 t280)) := by rw [ha]; exact putSel_on (e := (12, 20, .int .i64 (rd y277 t280))) 7 rfl rfl (hon 12 (by kernel_rfl)) rfl
     replace ha := Aside0.mk ha
     have HB := Aside0.mk Q_HB
     have HO279 := Aside0.mk (Q_HO279 (hon 8 (by kernel_rfl)))
     have HA_HO279 := Aside0.mk (Q_HA_HO279 (hon 8 (by kernel_rfl)))
     have HI262 := Aside0.mk (Q_HI262_e10 (hon 10 (by kernel_rfl)))
     have BK259 := Aside0.mk (Q_BK259_e13 (hon 13 (by kernel_rfl)))
     refine value_ (w1 := w') (v := .int .i64 (rd y277 t280)) (by rfl) rfl ?_ ?_
     ·go_simp
      (try simp only [i64_w])
      try rfl
     refine hK.out _ _ ⟨v278, adz_v278, m11_, (by rw [ha.out]; exact putSel_upk 9 hb_ rfl rfl rfl), fun h0_ => absurd ((hon 13 (by kernel_rfl)).symm.trans h0_) (by decide), fun h0_ => absurd ((hon 1 (by kernel_rfl)).symm.trans h0_) (by decide), Q_HB, fun _ h1_ => absurd ((hon 3 (by kernel_rfl)).symm.trans h1_) (by decide), fun _ h1_ => absurd ((hon 5 (by kernel_rfl)).symm.trans h1_) (by decide), fun _ h1_ => absurd ((hon 7 (by kernel_rfl)).symm.trans h1_) (by decide), fun _ h1_ => absurd ((hon 10 (by kernel_rfl)).symm.trans h1_) (by decide), Q_HO279, Q_HA_HO279, Q_HI262_e10, Q_BK259_e13, Q_X11_⟩
    exact steps_nil
   rintro b a w28 hall ⟨v278, adz_v278, m11_, ha, Q_BK259, Q_HI262, Q_HB, Q_HI262_e1, Q_HI262_e3, Q_HI262_e5, Q_HI262_e7, Q_HO279, Q_HA_HO279, Q_HI262_e10, Q_BK259_e13, Q_X11_⟩
   clear BK259 HB HI262
   have hb1_ := hall 1 (by kernel_rfl)
   have hb3_ := hall 3 (by kernel_rfl)
   have hb5_ := hall 5 (by kernel_rfl)
   have hb7_ := hall 7 (by kernel_rfl)
   have hb8_ := hall 8 (by kernel_rfl)
   have hb10_ := hall 10 (by kernel_rfl)
   have hb11_ := hall 11 (by kernel_rfl)
   have hb12_ := hall 12 (by kernel_rfl)
   have hb13_ := hall 13 (by kernel_rfl)
   have hb14_ := hall 14 (by kernel_rfl)
   have hb15_ := hall 15 (by kernel_rfl)
   subst ha
   obtain rfl := Q_X11_ hb11_
   simp only [putSel, hb1_, hb3_, hb5_, hb7_, hb8_, hb10_, hb11_, hb12_, hb13_, hb14_, hb15_, if_true, Act.put, List.setIfInBounds_toArray, List.set_cons_zero, List.set_cons_succ]
   clear Q_BK259
   clear Q_HI262
   have HB := Aside0.mk Q_HB
   clear Q_HB
   clear Q_HI262_e1
   clear Q_HI262_e3
   clear Q_HI262_e5
   clear Q_HI262_e7
   have HO279 := Aside0.mk (Q_HO279 hb8_)
   clear Q_HO279
   have HA_HO279 := Aside0.mk (Q_HA_HO279 hb8_)
   clear Q_HA_HO279
   have HI262 := Aside0.mk (Q_HI262_e10 hb10_)
   clear Q_HI262_e10
   have BK259 := Aside0.mk (Q_BK259_e13 hb13_)
   clear Q_BK259_e13
   clear hall hb1_ hb3_ hb5_ hb7_ hb8_ hb10_ hb11_ hb12_ hb13_ hb14_ hb15_
   obtain ⟨co29, eo29⟩ := HA_HO279.out
   clear HA_HO279
   subst eo29
   try go_wp2
   refine bodyPost_ret (results_ctt rfl _ _ gb259 31 #[.int .i64 t263, .int .i64 t264, .int .i64 t265, .int .i64 t266, .int .i64 t267, .int .i64 t268, .string t269] (0, 0) _ rfl (by (with_reducible repeat (first | refine blk_drewN ?_ _ | refine blk_drew ?_ | refine blk_alloc ?_ _)); exact BK259.out) Try.underlying31 rfl (by kernel_rfl)) rfl ?_
   exact ⟨by first | rfl | (simp [errW_none, errW_some] <;> rfl) | (simp [*, errW_none, errW_some] <;> rfl), by repeat (first | (with_reducible first | exact HB.out | apply below_alloc | apply pw_below_drewN | apply below_drew1 | refine below_set ?_ (IsS75.ge HI262.out) | refine below_set ?_ GE259.out) | exact HB.out)⟩
  ·rw [if_neg c9] at H
   exact absurd H (by simp)
 ·rw [if_neg c8] at H
  exact absurd H (by simp)

/-! ### impl_within: function 46 -/
def impl_within.f (a0 : Int) (a1 : Int) (a2 : Int) : Option (Bool) := if a0 ≥ a1 then (some (decide (a0 ≤ a2))) else (some false)
set_option maxHeartbeats 8000000 in
set_option maxRecDepth 100000 in
theorem impl_within.calls (a0 : Int) (a1 : Int) (a2 : Int) (r : Bool) (w : World) (h : impl_within.f a0 a1 a2 = some r) :
  Calls Try.prog 46 #[.int .i64 a0, .int .i64 a1, .int .i64 a2] w fun e w' => e = .returned (.bool r) ∧ Drawn0 w w' := by
 have H : (if a0 ≥ a1 then (some (decide (a0 ≤ a2))) else (some false)) = some r := h
 clear h
 by_cases c4 : a0 ≥ a1
 ·rw [if_pos c4] at H
  have c4b0 : decide (a1 ≤ a0) = true := decide_eq_true c4
  clear c4
  obtain rfl := Option.some.inj H
  go_enter Try.func46, Try.ntmps46
  go_wp2
  go_ret
  exact ⟨by first | rfl | (simp; done) | (simp [*]; done), by repeat (first | exact Drawn0.refl _ | apply Drawn0.step)⟩
 ·rw [if_neg c4] at H
  have c4b0 : decide (a1 ≤ a0) = false := decide_eq_false c4
  clear c4
  obtain rfl := Option.some.inj H
  go_enter Try.func46, Try.ntmps46
  go_wp2
  go_ret
  exact ⟨by first | rfl | (simp; done) | (simp [*]; done), by repeat (first | exact Drawn0.refl _ | apply Drawn0.step)⟩

/-! ### impl_inside: function 63 -/
def impl_inside.f (a0 : Int) : Option (Bool) := (impl_within.f a0 1 9).bind fun t283 => (some t283)
set_option maxHeartbeats 8000000 in
set_option maxRecDepth 100000 in
theorem impl_inside.calls (a0 : Int) (r : Bool) (w : World) (h : impl_inside.f a0 = some r) :
  Calls Try.prog 63 #[.int .i64 a0] w fun e w' => e = .returned (.bool r) ∧ Drawn0 w w' := by
 have H : ((impl_within.f a0 1 9).bind fun t283 => (some t283)) = some r := h
 clear h
 replace H := Option.bind_eq_some_iff.mp H
 obtain ⟨t283, A20, H⟩ := H
 replace H : (some t283) = some r := H
 have A2 := Aside0.mk A20
 clear A20
 obtain rfl := Option.some.inj H
 go_enter Try.func63, Try.ntmps63
 go_wp2_with (first | ((with_reducible refine gate_callee (f := 46) rfl ?_); refine goesL_ (some 4) rfl rfl Try.func46 (by kernel_rfl) rfl #[.int .i64 a0, .int .i64 1, .int .i64 9] rfl (by (try simp only [List.map_toArray, List.map_cons, List.map_nil]); first | done | rfl | (simp only [List.length_drop, List.length_take]; rfl)) ?_; (with_reducible refine (impl_within.calls a0 1 9 t283 _ A2.out).mono ?_); rintro e w' ⟨rfl, ⟨nd, rfl⟩⟩; refine ⟨_, rfl, ?_⟩))
 go_ret
 exact ⟨by first | rfl | (simp; done) | (simp [*]; done), by repeat (first | exact Drawn0.refl _ | apply Drawn0.step)⟩

/-! ### impl_outside: function 64 -/
def impl_outside.f (a0 : Int) : Option (Bool) := (impl_within.f a0 100 109).bind fun t284 => (some t284)
set_option maxHeartbeats 8000000 in
set_option maxRecDepth 100000 in
theorem impl_outside.calls (a0 : Int) (r : Bool) (w : World) (h : impl_outside.f a0 = some r) :
  Calls Try.prog 64 #[.int .i64 a0] w fun e w' => e = .returned (.bool r) ∧ Drawn0 w w' := by
 have H : ((impl_within.f a0 100 109).bind fun t284 => (some t284)) = some r := h
 clear h
 replace H := Option.bind_eq_some_iff.mp H
 obtain ⟨t284, A20, H⟩ := H
 replace H : (some t284) = some r := H
 have A2 := Aside0.mk A20
 clear A20
 obtain rfl := Option.some.inj H
 go_enter Try.func64, Try.ntmps64
 go_wp2_with (first | ((with_reducible refine gate_callee (f := 46) rfl ?_); refine goesL_ (some 4) rfl rfl Try.func46 (by kernel_rfl) rfl #[.int .i64 a0, .int .i64 100, .int .i64 109] rfl (by (try simp only [List.map_toArray, List.map_cons, List.map_nil]); first | done | rfl | (simp only [List.length_drop, List.length_take]; rfl)) ?_; (with_reducible refine (impl_within.calls a0 100 109 t284 _ A2.out).mono ?_); rintro e w' ⟨rfl, ⟨nd, rfl⟩⟩; refine ⟨_, rfl, ?_⟩))
 go_ret
 exact ⟨by first | rfl | (simp; done) | (simp [*]; done), by repeat (first | exact Drawn0.refl _ | apply Drawn0.step)⟩

/-! ### impl_portOk: function 65 -/
def impl_portOk.f (a0 : Int) : Option (Bool) := (impl_within.f a0 1 999).bind fun t285 => (some t285)
set_option maxHeartbeats 8000000 in
set_option maxRecDepth 100000 in
theorem impl_portOk.calls (a0 : Int) (r : Bool) (w : World) (h : impl_portOk.f a0 = some r) :
  Calls Try.prog 65 #[.int .i64 a0] w fun e w' => e = .returned (.bool r) ∧ Drawn0 w w' := by
 have H : ((impl_within.f a0 1 999).bind fun t285 => (some t285)) = some r := h
 clear h
 replace H := Option.bind_eq_some_iff.mp H
 obtain ⟨t285, A20, H⟩ := H
 replace H : (some t285) = some r := H
 have A2 := Aside0.mk A20
 clear A20
 obtain rfl := Option.some.inj H
 go_enter Try.func65, Try.ntmps65
 go_wp2_with (first | ((with_reducible refine gate_callee (f := 46) rfl ?_); refine goesL_ (some 4) rfl rfl Try.func46 (by kernel_rfl) rfl #[.int .i64 a0, .int .i64 1, .int .i64 999] rfl (by (try simp only [List.map_toArray, List.map_cons, List.map_nil]); first | done | rfl | (simp only [List.length_drop, List.length_take]; rfl)) ?_; (with_reducible refine (impl_within.calls a0 1 999 t285 _ A2.out).mono ?_); rintro e w' ⟨rfl, ⟨nd, rfl⟩⟩; refine ⟨_, rfl, ?_⟩))
 go_ret
 exact ⟨by first | rfl | (simp; done) | (simp [*]; done), by repeat (first | exact Drawn0.refl _ | apply Drawn0.step)⟩

/-! ### impl_EndOk: function 45 -/
def impl_EndOk.f (a0_0 : Int) (a0_1 : Int) : Option (Bool) := (impl_inside.f a0_0).bind fun t287 => (if t287 = true then ((impl_portOk.f a0_1).bind fun t288 => (some t288)) else ((impl_outside.f a0_0).bind fun t289 => (if t289 = true then ((impl_portOk.f a0_1).bind fun t290 => (some t290)) else (if a0_0 = 50 then ((impl_portOk.f a0_1).bind fun t291 => (some t291)) else (some false)))))
set_option maxHeartbeats 8000000 in
set_option maxRecDepth 100000 in
theorem impl_EndOk.calls (a0_0 : Int) (a0_1 : Int) (r : Bool) (w : World) (h : impl_EndOk.f a0_0 a0_1 = some r) :
  Calls Try.prog 45 #[.agg #[.int .i64 a0_0, .int .i64 a0_1]] w fun e w' => e = .returned (.bool r) ∧ Below w.heap.size w w' := by
 have hu29 := Try.underlying29
 have HB := Aside0.mk (Below.refl w.heap.size w)
 have H : ((impl_inside.f a0_0).bind fun t287 => (if t287 = true then ((impl_portOk.f a0_1).bind fun t288 => (some t288)) else ((impl_outside.f a0_0).bind fun t289 => (if t289 = true then ((impl_portOk.f a0_1).bind fun t290 => (some t290)) else (if a0_0 = 50 then ((impl_portOk.f a0_1).bind fun t291 => (some t291)) else (some false)))))) = some r := h
 clear h
 replace H := Option.bind_eq_some_iff.mp H
 obtain ⟨t287, A20, H⟩ := H
 replace H : (if t287 = true then ((impl_portOk.f a0_1).bind fun t288 => (some t288)) else ((impl_outside.f a0_0).bind fun t289 => (if t289 = true then ((impl_portOk.f a0_1).bind fun t290 => (some t290)) else (if a0_0 = 50 then ((impl_portOk.f a0_1).bind fun t291 => (some t291)) else (some false))))) = some r := H
 have A2 := Aside0.mk A20
 clear A20
 by_cases c3 : t287 = true
 ·subst c3
  have H1 : ((impl_portOk.f a0_1).bind fun t288 => (some t288)) = some r := by rw [if_pos rfl] at H; exact H
  clear H
  have H := H1
  clear H1
  replace H := Option.bind_eq_some_iff.mp H
  obtain ⟨t288, A40, H⟩ := H
  replace H : (some t288) = some r := H
  have A4 := Aside0.mk A40
  clear A40
  obtain rfl := Option.some.inj H
  go_enter Try.func45, Try.ntmps45
  go_wp2_with (first | ((with_reducible refine gate_dst (N := 1) rfl ?_); refine box_event ?hg (N := 1) ?hd (cs := #[.int .i64 a0_0, .int .i64 a0_1]) (t := 29) ?hr ?_; (case hd => rfl); (case hg => rfl); (case hr => first | (go_simp; done) | (go_simp; rfl)); intro gb286 hg w5 hbox hb; have n0_ := Aside0.mk (below_step (by repeat (first | (with_reducible first | exact HB.out | apply below_alloc | apply pw_below_drewN | apply below_drew1) | exact HB.out)) hb); have n1_ := Aside0.mk (hbox); have n2_ := Aside0.mk ((by rw [hg]; exact (below_size (by repeat (first | (with_reducible first | exact HB.out | apply below_alloc | apply pw_below_drewN | apply below_drew1) | exact HB.out))) : w.heap.size ≤ gb286)); have n3_ := Aside0.mk ((by rw [hg]; exact (below_size (by repeat (first | (with_reducible first | exact HB.out | apply below_alloc | apply pw_below_drewN | apply below_drew1) | exact HB.out))) : w.heap.size ≤ gb286)); clear HB; have HB := n0_; have BK286 := n1_; have GW286 := n2_; have GE286 := n3_; clear n0_ n1_ n2_ n3_; clear hb hbox hg; have hcz6_0 : w5.cell? ⟨gb286, 0, none⟩ = some (.int .i64 a0_0) := (blk_cell BK286.out 0).trans rfl; have hcz6_1 : w5.cell? ⟨gb286, 1, none⟩ = some (.int .i64 a0_1) := (blk_cell BK286.out 1).trans rfl; have hfz6_0 := blk_frozen BK286.out 0; have hfz6_1 := blk_frozen BK286.out 1) | ((with_reducible refine gate_callee (f := 63) rfl ?_); refine goesL_ (some 5) rfl rfl Try.func63 (by kernel_rfl) rfl #[.int .i64 a0_0] rfl (by (try simp only [List.map_toArray, List.map_cons, List.map_nil]); first | done | rfl | (simp only [List.length_drop, List.length_take]; rfl)) ?_; (with_reducible refine (impl_inside.calls a0_0 true _ A2.out).mono ?_); rintro e w' ⟨rfl, ⟨nd, rfl⟩⟩; refine ⟨_, rfl, ?_⟩) | (go_at_call 65; (with_reducible refine (impl_portOk.calls a0_1 t288 _ A4.out).mono ?_); rintro e w' ⟨rfl, ⟨nd, rfl⟩⟩))
  go_ret
  exact ⟨by first | rfl | (simp [errW_none, errW_some] <;> rfl) | (simp [*, errW_none, errW_some] <;> rfl), by repeat (first | (with_reducible first | exact HB.out | apply below_alloc | apply pw_below_drewN | apply below_drew1 | refine below_set ?_ GE286.out) | exact HB.out)⟩
 ·replace c3 := Bool.eq_false_iff.mpr c3
  subst c3
  have H1 : ((impl_outside.f a0_0).bind fun t289 => (if t289 = true then ((impl_portOk.f a0_1).bind fun t290 => (some t290)) else (if a0_0 = 50 then ((impl_portOk.f a0_1).bind fun t291 => (some t291)) else (some false)))) = some r := by rw [if_neg (show ¬ (false = true) by decide)] at H; exact H
  clear H
  have H := H1
  clear H1
  replace H := Option.bind_eq_some_iff.mp H
  obtain ⟨t289, A70, H⟩ := H
  replace H : (if t289 = true then ((impl_portOk.f a0_1).bind fun t290 => (some t290)) else (if a0_0 = 50 then ((impl_portOk.f a0_1).bind fun t291 => (some t291)) else (some false))) = some r := H
  have A7 := Aside0.mk A70
  clear A70
  by_cases c8 : t289 = true
  ·subst c8
   have H1 : ((impl_portOk.f a0_1).bind fun t290 => (some t290)) = some r := by rw [if_pos rfl] at H; exact H
   clear H
   have H := H1
   clear H1
   replace H := Option.bind_eq_some_iff.mp H
   obtain ⟨t290, A90, H⟩ := H
   replace H : (some t290) = some r := H
   have A9 := Aside0.mk A90
   clear A90
   obtain rfl := Option.some.inj H
   go_enter Try.func45, Try.ntmps45
   go_wp2_with (first | ((with_reducible refine gate_dst (N := 1) rfl ?_); refine box_event ?hg (N := 1) ?hd (cs := #[.int .i64 a0_0, .int .i64 a0_1]) (t := 29) ?hr ?_; (case hd => rfl); (case hg => rfl); (case hr => first | (go_simp; done) | (go_simp; rfl)); intro gb286 hg w10 hbox hb; have n0_ := Aside0.mk (below_step (by repeat (first | (with_reducible first | exact HB.out | apply below_alloc | apply pw_below_drewN | apply below_drew1) | exact HB.out)) hb); have n1_ := Aside0.mk (hbox); have n2_ := Aside0.mk ((by rw [hg]; exact (below_size (by repeat (first | (with_reducible first | exact HB.out | apply below_alloc | apply pw_below_drewN | apply below_drew1) | exact HB.out))) : w.heap.size ≤ gb286)); have n3_ := Aside0.mk ((by rw [hg]; exact (below_size (by repeat (first | (with_reducible first | exact HB.out | apply below_alloc | apply pw_below_drewN | apply below_drew1) | exact HB.out))) : w.heap.size ≤ gb286)); clear HB; have HB := n0_; have BK286 := n1_; have GW286 := n2_; have GE286 := n3_; clear n0_ n1_ n2_ n3_; clear hb hbox hg; have hcz11_0 : w10.cell? ⟨gb286, 0, none⟩ = some (.int .i64 a0_0) := (blk_cell BK286.out 0).trans rfl; have hcz11_1 : w10.cell? ⟨gb286, 1, none⟩ = some (.int .i64 a0_1) := (blk_cell BK286.out 1).trans rfl; have hfz11_0 := blk_frozen BK286.out 0; have hfz11_1 := blk_frozen BK286.out 1) | ((with_reducible refine gate_callee (f := 63) rfl ?_); refine goesL_ (some 5) rfl rfl Try.func63 (by kernel_rfl) rfl #[.int .i64 a0_0] rfl (by (try simp only [List.map_toArray, List.map_cons, List.map_nil]); first | done | rfl | (simp only [List.length_drop, List.length_take]; rfl)) ?_; (with_reducible refine (impl_inside.calls a0_0 false _ A2.out).mono ?_); rintro e w' ⟨rfl, ⟨nd, rfl⟩⟩; refine ⟨_, rfl, ?_⟩) | (go_at_call 64; (with_reducible refine (impl_outside.calls a0_0 true _ A7.out).mono ?_); rintro e w' ⟨rfl, ⟨nd, rfl⟩⟩) | (go_at_call 65; (with_reducible refine (impl_portOk.calls a0_1 t290 _ A9.out).mono ?_); rintro e w' ⟨rfl, ⟨nd, rfl⟩⟩))
   go_ret
   exact ⟨by first | rfl | (simp [errW_none, errW_some] <;> rfl) | (simp [*, errW_none, errW_some] <;> rfl), by repeat (first | (with_reducible first | exact HB.out | apply below_alloc | apply pw_below_drewN | apply below_drew1 | refine below_set ?_ GE286.out) | exact HB.out)⟩
  ·replace c8 := Bool.eq_false_iff.mpr c8
   subst c8
   have H1 : (if a0_0 = 50 then ((impl_portOk.f a0_1).bind fun t291 => (some t291)) else (some false)) = some r := by rw [if_neg (show ¬ (false = true) by decide)] at H; exact H
   clear H
   have H := H1
   clear H1
   by_cases c12 : a0_0 = 50
   ·rw [if_pos c12] at H
    have c12b0 : (a0_0 == 50) = true := beq_iff_eq.mpr c12
    have c12b1 : (a0_0 != 50) = false := bne_eq_false_iff_eq.mpr c12
    clear c12
    replace H := Option.bind_eq_some_iff.mp H
    obtain ⟨t291, A130, H⟩ := H
    replace H : (some t291) = some r := H
    have A13 := Aside0.mk A130
    clear A130
    obtain rfl := Option.some.inj H
    go_enter Try.func45, Try.ntmps45
    go_wp2_with (first | ((with_reducible refine gate_dst (N := 1) rfl ?_); refine box_event ?hg (N := 1) ?hd (cs := #[.int .i64 a0_0, .int .i64 a0_1]) (t := 29) ?hr ?_; (case hd => rfl); (case hg => rfl); (case hr => first | (go_simp; done) | (go_simp; rfl)); intro gb286 hg w14 hbox hb; have n0_ := Aside0.mk (below_step (by repeat (first | (with_reducible first | exact HB.out | apply below_alloc | apply pw_below_drewN | apply below_drew1) | exact HB.out)) hb); have n1_ := Aside0.mk (hbox); have n2_ := Aside0.mk ((by rw [hg]; exact (below_size (by repeat (first | (with_reducible first | exact HB.out | apply below_alloc | apply pw_below_drewN | apply below_drew1) | exact HB.out))) : w.heap.size ≤ gb286)); have n3_ := Aside0.mk ((by rw [hg]; exact (below_size (by repeat (first | (with_reducible first | exact HB.out | apply below_alloc | apply pw_below_drewN | apply below_drew1) | exact HB.out))) : w.heap.size ≤ gb286)); clear HB; have HB := n0_; have BK286 := n1_; have GW286 := n2_; have GE286 := n3_; clear n0_ n1_ n2_ n3_; clear hb hbox hg; have hcz15_0 : w14.cell? ⟨gb286, 0, none⟩ = some (.int .i64 a0_0) := (blk_cell BK286.out 0).trans rfl; have hcz15_1 : w14.cell? ⟨gb286, 1, none⟩ = some (.int .i64 a0_1) := (blk_cell BK286.out 1).trans rfl; have hfz15_0 := blk_frozen BK286.out 0; have hfz15_1 := blk_frozen BK286.out 1) | ((with_reducible refine gate_callee (f := 63) rfl ?_); refine goesL_ (some 5) rfl rfl Try.func63 (by kernel_rfl) rfl #[.int .i64 a0_0] rfl (by (try simp only [List.map_toArray, List.map_cons, List.map_nil]); first | done | rfl | (simp only [List.length_drop, List.length_take]; rfl)) ?_; (with_reducible refine (impl_inside.calls a0_0 false _ A2.out).mono ?_); rintro e w' ⟨rfl, ⟨nd, rfl⟩⟩; refine ⟨_, rfl, ?_⟩) | (go_at_call 64; (with_reducible refine (impl_outside.calls a0_0 false _ A7.out).mono ?_); rintro e w' ⟨rfl, ⟨nd, rfl⟩⟩) | (go_at_call 65; (with_reducible refine (impl_portOk.calls a0_1 t291 _ A13.out).mono ?_); rintro e w' ⟨rfl, ⟨nd, rfl⟩⟩))
    go_ret
    exact ⟨by first | rfl | (simp [errW_none, errW_some] <;> rfl) | (simp [*, errW_none, errW_some] <;> rfl), by repeat (first | (with_reducible first | exact HB.out | apply below_alloc | apply pw_below_drewN | apply below_drew1 | refine below_set ?_ GE286.out) | exact HB.out)⟩
   ·rw [if_neg c12] at H
    have c12b0 : (a0_0 == 50) = false := beq_eq_false_iff_ne.mpr c12
    have c12b1 : (a0_0 != 50) = true := bne_iff_ne.mpr c12
    obtain rfl := Option.some.inj H
    go_enter Try.func45, Try.ntmps45
    go_wp2_with (first | ((with_reducible refine gate_dst (N := 1) rfl ?_); refine box_event ?hg (N := 1) ?hd (cs := #[.int .i64 a0_0, .int .i64 a0_1]) (t := 29) ?hr ?_; (case hd => rfl); (case hg => rfl); (case hr => first | (go_simp; done) | (go_simp; rfl)); intro gb286 hg w16 hbox hb; have n0_ := Aside0.mk (below_step (by repeat (first | (with_reducible first | exact HB.out | apply below_alloc | apply pw_below_drewN | apply below_drew1) | exact HB.out)) hb); have n1_ := Aside0.mk (hbox); have n2_ := Aside0.mk ((by rw [hg]; exact (below_size (by repeat (first | (with_reducible first | exact HB.out | apply below_alloc | apply pw_below_drewN | apply below_drew1) | exact HB.out))) : w.heap.size ≤ gb286)); have n3_ := Aside0.mk ((by rw [hg]; exact (below_size (by repeat (first | (with_reducible first | exact HB.out | apply below_alloc | apply pw_below_drewN | apply below_drew1) | exact HB.out))) : w.heap.size ≤ gb286)); clear HB; have HB := n0_; have BK286 := n1_; have GW286 := n2_; have GE286 := n3_; clear n0_ n1_ n2_ n3_; clear hb hbox hg; have hcz17_0 : w16.cell? ⟨gb286, 0, none⟩ = some (.int .i64 a0_0) := (blk_cell BK286.out 0).trans rfl; have hcz17_1 : w16.cell? ⟨gb286, 1, none⟩ = some (.int .i64 a0_1) := (blk_cell BK286.out 1).trans rfl; have hfz17_0 := blk_frozen BK286.out 0; have hfz17_1 := blk_frozen BK286.out 1) | ((with_reducible refine gate_callee (f := 63) rfl ?_); refine goesL_ (some 5) rfl rfl Try.func63 (by kernel_rfl) rfl #[.int .i64 a0_0] rfl (by (try simp only [List.map_toArray, List.map_cons, List.map_nil]); first | done | rfl | (simp only [List.length_drop, List.length_take]; rfl)) ?_; (with_reducible refine (impl_inside.calls a0_0 false _ A2.out).mono ?_); rintro e w' ⟨rfl, ⟨nd, rfl⟩⟩; refine ⟨_, rfl, ?_⟩) | (go_at_call 64; (with_reducible refine (impl_outside.calls a0_0 false _ A7.out).mono ?_); rintro e w' ⟨rfl, ⟨nd, rfl⟩⟩))
    go_ret
    exact ⟨by first | rfl | (simp [errW_none, errW_some] <;> rfl) | (simp [*, errW_none, errW_some] <;> rfl), by repeat (first | (with_reducible first | exact HB.out | apply below_alloc | apply pw_below_drewN | apply below_drew1 | refine below_set ?_ GE286.out) | exact HB.out)⟩

/-! ### impl_SegOk: function 19 -/
def impl_SegOk.f (k : Nat) (a0_0 : Int) (a0_1 : Int) (a0_2 : Int) (a0_3 : Int) (a0_4 : Int) (a0_5 : Int) (a0_6 : ByteArray) : Option (Bool) := if 0 ≤ (a0_6.size : Int) then (if ((a0_6.size : Int) : Int).toNat ≤ 281474976710656 then ((spec_SegOk.f k a0_0 a0_1 a0_2 a0_3 a0_4 a0_5 a0_6).bind fun t296 => (some t296)) else (none)) else (none)
theorem impl_SegOk.mono : ∀ a0 a1 a2 a3 a4 a5 a6 k, LeO (impl_SegOk.f k a0 a1 a2 a3 a4 a5 a6) (impl_SegOk.f (k + 1) a0 a1 a2 a3 a4 a5 a6) := by
 intro a0 a1 a2 a3 a4 a5 a6 k
 unfold impl_SegOk.f
 repeat' first
   | (with_reducible exact spec_SegOk.mono _ _ _ _ _ _ _ _)
   | (with_reducible exact LeO.refl _)
   | (with_reducible exact LeO.none _)
   | (with_reducible refine LeO.ite ?_ ?_)
   | (with_reducible refine LeO.bind ?_ (fun _ => ?_))
   | exact spec_SegOk.mono _ _ _ _ _ _ _ _
   | exact LeO.none _
   | refine LeO.ite ?_ ?_
   | refine LeO.bind ?_ (fun _ => ?_)
-- BY HAND
theorem l2_eq (c : Int) : spec_l2Byte.f c = some (lineB c) := by
 unfold spec_l2Byte.f lineB
 by_cases h1 : c ≥ 97 <;> by_cases h2 : c ≤ 122 <;> by_cases h3 : c ≥ 48 <;> by_cases h4 : c ≤ 57 <;> simp only [h1, h2, h3, h4, if_true, if_false, Option.some.injEq] <;> (rw [Bool.eq_iff_iff]; simp; try omega)
def endOkP (a p : Int) : Prop := ((1 ≤ a ∧ a ≤ 9) ∨ (100 ≤ a ∧ a ≤ 109) ∨ a = 50) ∧ 1 ≤ p ∧ p ≤ 999
instance (a p : Int) : Decidable (endOkP a p) := by unfold endOkP; infer_instance
theorem spec_end (a p : Int) : spec_EndOk.f a p = some (decide (endOkP a p)) := by
 simp only [spec_EndOk.f, spec_EndInside.f, spec_EndOutside.f, spec_l1In.f, endOkP]
 by_cases h1 : a ≥ 1 <;> by_cases h2 : a ≤ 9 <;> by_cases h3 : p ≥ 1 <;> by_cases h4 : p ≤ 999 <;> by_cases h5 : a ≥ 100 <;> by_cases h6 : a ≤ 109 <;> by_cases h7 : a = 50 <;> simp [h1, h2, h3, h4, h5, h6, h7] <;> omega
theorem impl_end (a p : Int) : impl_EndOk.f a p = some (decide (endOkP a p)) := by
 simp only [impl_EndOk.f, impl_inside.f, impl_outside.f, impl_portOk.f, impl_within.f, endOkP]
 by_cases h1 : a ≥ 1 <;> by_cases h2 : a ≤ 9 <;> by_cases h3 : p ≥ 1 <;> by_cases h4 : p ≤ 999 <;> by_cases h5 : a ≥ 100 <;> by_cases h6 : a ≤ 109 <;> by_cases h7 : a = 50 <;> simp [h1, h2, h3, h4, h5, h6, h7] <;> omega
/-- Whether a byte may stand in a segment. -/
def segB (c : Int) : Bool := lineB c || decide (c = 59)
def dataP (s : ByteArray) : Prop := ∀ j, j < s.size → segB (bt s (j : Int)) = true
instance (s : ByteArray) : Decidable (dataP s) := by unfold dataP; infer_instance
def segOkB (a p b q x y : Int) (s : ByteArray) : Bool := decide (endOkP a p ∧ endOkP b q ∧ (0 ≤ x ∧ x ≤ 240) ∧ (0 ≤ y ∧ y ≤ 240) ∧ s.size ≤ 12 ∧ dataP s)
theorem spec_seg_l (a p b q x y : Int) (s : ByteArray) (hs : s.size ≤ 12) : ∀ (k i : Nat) (r : Bool), spec_SegOk.l0 k (i : Int) a p b q x y s = some r → (∀ j, j < i → segB (bt s (j : Int)) = true) → r = decide (dataP s)
 | 0, _, _, h, _ => by simp [spec_SegOk.l0] at h
 | k + 1, i, r, h, hj => by
  have next : segB (bt s (i : Int)) = true → spec_SegOk.l0 k ((i + 1 : Nat) : Int) a p b q x y s = some r → r = decide (dataP s) := fun hb h => by
   refine spec_seg_l a p b q x y s hs k (i + 1) r h fun j hj' => ?_
   by_cases e : j = i
   ·subst e; exact hb
   ·exact hj j (by omega)
  simp only [spec_SegOk.l0] at h
  by_cases c : (i : Int) < (s.size : Int)
  ·rw [if_pos c, if_pos (by omega), l2_eq] at h
   simp only [Option.bind_some] at h
   rw [Lib.wrap_id (by omega) (by omega)] at h
   by_cases hb : lineB (bt s (i : Int)) = true
   ·rw [if_pos hb] at h
    exact next (by simp [segB, hb]) (by simpa using h)
   ·rw [if_neg hb] at h
    by_cases he : bt s (i : Int) = 59
    ·rw [if_pos he] at h
     exact next (by simp [segB, he]) (by simpa using h)
    ·rw [if_neg he] at h
     obtain rfl := Option.some.inj h
     exact (decide_eq_false (fun hx => by
      have := hx i (by omega)
      simp [segB, hb, he] at this)).symm
  ·rw [if_neg c] at h
   obtain rfl := Option.some.inj h
   exact (decide_eq_true (fun j hj' => hj j (by omega))).symm
theorem spec_seg (a p b q x y : Int) (s : ByteArray) (k : Nat) (r : Bool) (h : spec_SegOk.f k a p b q x y s = some r) : r = segOkB a p b q x y s := by
 have j0 : ∀ t, spec_SegOk.j0 k t a p b q x y s = some r → ¬ t = true → s.size ≤ 12 → r = decide (dataP s) := fun t ht hn hs => by
  cases k with
  | zero => simp [spec_SegOk.j0] at ht
  | succ k =>
   simp only [spec_SegOk.j0] at ht
   rw [if_neg hn] at ht
   exact spec_seg_l a p b q x y s hs k 0 r (by simpa using ht) (fun j hj => by omega)
 have jt : ∀ t, spec_SegOk.j0 k t a p b q x y s = some r → t = true → r = false := fun t ht hn => by
  cases k with
  | zero => simp [spec_SegOk.j0] at ht
  | succ k =>
   simp only [spec_SegOk.j0] at ht
   rw [if_pos hn] at ht
   exact (Option.some.inj ht).symm
 have hx : ∀ z, spec_l1In.f z 0 240 = some (decide (0 ≤ z ∧ z ≤ 240)) := fun z => by
  unfold spec_l1In.f
  by_cases h : z ≥ 0 <;> simp [h]
 unfold spec_SegOk.f at h
 simp only [spec_end, hx, Option.bind_some, decide_eq_true_eq] at h
 unfold segOkB
 by_cases h1 : endOkP a p
 ·rw [if_pos h1] at h
  by_cases h2 : endOkP b q
  ·rw [if_pos h2] at h
   by_cases h3 : 0 ≤ x ∧ x ≤ 240
   ·rw [if_pos h3] at h
    by_cases h4 : 0 ≤ y ∧ y ≤ 240
    ·rw [if_pos h4] at h
     by_cases h5 : (s.size : Int) > 12
     ·rw [jt _ h (by simpa using h5)]
      exact (decide_eq_false (fun hx => by omega)).symm
     ·rw [j0 _ h (by simpa using h5) (by omega)]
      exact decide_eq_decide.2 ⟨fun hd => ⟨h1, h2, h3, h4, by omega, hd⟩, fun hd => hd.2.2.2.2.2⟩
    ·rw [if_neg h4] at h
     rw [jt _ h rfl]
     exact (decide_eq_false (fun hx => h4 hx.2.2.2.1)).symm
   ·rw [if_neg h3] at h
    rw [jt _ h rfl]
    exact (decide_eq_false (fun hx => h3 hx.2.2.1)).symm
  ·rw [if_neg h2] at h
   rw [jt _ h rfl]
   exact (decide_eq_false (fun hx => h2 hx.2.1)).symm
 ·rw [if_neg h1] at h
  rw [jt _ h rfl]
  exact (decide_eq_false (fun hx => h1 hx.1)).symm
theorem spec_seg_t (a p b q x y : Int) (s : ByteArray) (hs : s.size ≤ 12) : ∀ (d i : Nat), i ≤ s.size → s.size - i = d → ∃ r, spec_SegOk.l0 (d + 1) (i : Int) a p b q x y s = some r
 | 0, i, h1, h2 => ⟨true, by rw [spec_SegOk.l0, if_neg (by omega)]⟩
 | d + 1, i, h1, h2 => by
  obtain ⟨r, hr⟩ := spec_seg_t a p b q x y s hs d (i + 1) (by omega) (by omega)
  rw [spec_SegOk.l0, if_pos (by omega), if_pos (by omega), l2_eq]
  simp only [Option.bind_some]
  rw [Lib.wrap_id (by omega) (by omega)]
  by_cases hb : lineB (bt s (i : Int)) = true
  ·exact ⟨r, by rw [if_pos hb]; simpa using hr⟩
  ·rw [if_neg hb]
   by_cases he : bt s (i : Int) = 59
   ·exact ⟨r, by rw [if_pos he]; simpa using hr⟩
   ·exact ⟨false, by rw [if_neg he]⟩
theorem spec_seg_ev (a p b q x y : Int) (s : ByteArray) : Ev (fun k => spec_SegOk.f k a p b q x y s) (segOkB a p b q x y s) := by
 have j0 : ∀ t, (t = false → s.size ≤ 12) → ∃ r, spec_SegOk.j0 (s.size + 2) t a p b q x y s = some r := fun t ht => by
  cases t with
  | true => exact ⟨false, by rw [spec_SegOk.j0, if_pos rfl]⟩
  | false =>
   obtain ⟨r, hr⟩ := spec_seg_t a p b q x y s (ht rfl) s.size 0 (by omega) (by omega)
   exact ⟨r, by rw [spec_SegOk.j0, if_neg (by decide)]; simpa using hr⟩
 have hx : ∀ z, spec_l1In.f z 0 240 = some (decide (0 ≤ z ∧ z ≤ 240)) := fun z => by
  unfold spec_l1In.f
  by_cases h : z ≥ 0 <;> simp [h]
 obtain ⟨r, h⟩ : ∃ r, spec_SegOk.f (s.size + 2) a p b q x y s = some r := by
  unfold spec_SegOk.f
  simp only [spec_end, hx, Option.bind_some, decide_eq_true_eq]
  by_cases h1 : endOkP a p
  ·rw [if_pos h1]
   by_cases h2 : endOkP b q
   ·rw [if_pos h2]
    by_cases h3 : 0 ≤ x ∧ x ≤ 240
    ·rw [if_pos h3]
     by_cases h4 : 0 ≤ y ∧ y ≤ 240
     ·rw [if_pos h4]
      exact j0 _ (fun h => by have := of_decide_eq_false h; omega)
     ·rw [if_neg h4]; exact j0 _ (fun h => by cases h)
    ·rw [if_neg h3]; exact j0 _ (fun h => by cases h)
   ·rw [if_neg h2]; exact j0 _ (fun h => by cases h)
  ·rw [if_neg h1]; exact j0 _ (fun h => by cases h)
 have e := spec_seg a p b q x y s _ r h
 subst e
 exact Ev.of (spec_SegOk.mono a p b q x y s) h
theorem impl_seg_ev (a p b q x y : Int) (s : ByteArray) (hs : s.size ≤ 281474976710656) : Ev (fun k => impl_SegOk.f k a p b q x y s) (segOkB a p b q x y s) := by
 obtain ⟨K, h⟩ := spec_seg_ev a p b q x y s
 exact ⟨K, fun k hk => by show impl_SegOk.f k a p b q x y s = _; unfold impl_SegOk.f; rw [if_pos (by omega), if_pos (by omega), show spec_SegOk.f k a p b q x y s = _ from h k hk]; rfl⟩
theorem seg_size (a p b q x y : Int) (s : ByteArray) (k : Nat) (h : impl_SegOk.f k a p b q x y s = some true) : s.size ≤ 12 := by
 unfold impl_SegOk.f at h
 rw [if_pos (by omega)] at h
 by_cases hs : ((s.size : Int) : Int).toNat ≤ 281474976710656
 ·rw [if_pos hs] at h
  obtain ⟨t, h1, h2⟩ := Option.bind_eq_some_iff.mp h
  obtain rfl := Option.some.inj h2
  have := spec_seg a p b q x y s k true h1
  unfold segOkB at this
  exact (of_decide_eq_true this.symm).2.2.2.2.1
 ·rw [if_neg hs] at h; cases h
def endB (a p : Int) : Bool := decide (endOkP a p)
theorem end_any (a p : Int) (w : World) : Calls Try.prog 45 #[.agg #[.int .i64 a, .int .i64 p]] w fun e w' => e = .returned (.bool (endB a p)) ∧ Below w.heap.size w w' :=
 impl_EndOk.calls a p (endB a p) w (impl_end a p)
def inB (x lo hi : Int) : Bool := decide (lo ≤ x ∧ x ≤ hi)
theorem in_any (x lo hi : Int) (w : World) : Calls Try.prog 46 #[.int .i64 x, .int .i64 lo, .int .i64 hi] w fun e w' => e = .returned (.bool (inB x lo hi)) ∧ Drawn0 w w' :=
 impl_within.calls x lo hi (inB x lo hi) w (by unfold impl_within.f inB; by_cases h : x ≥ lo <;> simp [h])
theorem line_any (c : Int) (w : World) : Calls Try.prog 44 #[.int .u8 c] w fun e w' => e = .returned (.bool (lineB c)) ∧ Drawn0 w w' :=
 impl_lineByte.calls c (lineB c) w (lb_eq c)
/-- The text of a byte as a sign is that of ';' just if it is it. -/
theorem enc_59 (n : Int) (h0 : 0 ≤ n) (h1 : n ≤ 255) : (Utf8.encode n = ⟨#[59]⟩) ↔ n = 59 := by
 constructor
 ·intro h
  by_cases h128 : 128 ≤ n
  ·have := (encode_facts n (by simp [Utf8.valid]; omega) h128).1
   rw [h] at this
   exact absurd this (by decide)
  ·unfold Utf8.encode at h
   rw [if_pos (by simp [Utf8.valid]; omega : Utf8.valid n = true)] at h
   simp only at h
   rw [if_pos (by omega)] at h
   have := congrArg (fun s => s.data.toList) h
   simp at this
   have := congrArg UInt8.toNat this
   simp at this
   omega
 ·rintro rfl; rfl
theorem seg_world (a p b q x y : Int) (s : ByteArray) (w : World) : ∃ W1, Aside0 (W1 = Lib.bytesWorld (w.alloc (Obj.cells #[Value.int IntKind.i64 a, Value.int IntKind.i64 p, Value.int IntKind.i64 b, Value.int IntKind.i64 q, Value.int IntKind.i64 x, Value.int IntKind.i64 y, Value.string s] 31)) 5 s) ∧
  (W1.cell? ⟨w.heap.size, 0, none⟩ = some (.int .i64 a) ∧ W1.cell? ⟨w.heap.size, 1, none⟩ = some (.int .i64 p) ∧ W1.cell? ⟨w.heap.size, 2, none⟩ = some (.int .i64 b) ∧ W1.cell? ⟨w.heap.size, 3, none⟩ = some (.int .i64 q) ∧
   W1.cell? ⟨w.heap.size, 4, none⟩ = some (.int .i64 x) ∧ W1.cell? ⟨w.heap.size, 5, none⟩ = some (.int .i64 y) ∧ W1.cell? ⟨w.heap.size, 6, none⟩ = some (.string s)) ∧
  Aside0 (∀ j : Nat, j < s.size → W1.cell? ⟨w.heap.size + 1, j, none⟩ = some (.int .u8 (bt s (j : Int)))) ∧ Aside0 (Below w.heap.size w W1) ∧ w.heap.size < W1.heap.size := by
 obtain ⟨W0, hW0⟩ : ∃ W0, W0 = w.alloc (Obj.cells #[Value.int IntKind.i64 a, Value.int IntKind.i64 p, Value.int IntKind.i64 b, Value.int IntKind.i64 q, Value.int IntKind.i64 x, Value.int IntKind.i64 y, Value.string s] 31) := ⟨_, rfl⟩
 have hsz : W0.heap.size = w.heap.size + 1 := by rw [hW0]; simp
 have old : ∀ j v, W0.cell? ⟨w.heap.size, j, none⟩ = some v → (Lib.bytesWorld W0 5 s).cell? ⟨w.heap.size, j, none⟩ = some v := fun j v h => by
  rw [Lib.bytesWorld_old W0 5 s ⟨w.heap.size, j, none⟩ (by rw [hsz]; simp)]; exact h
 have new : ∀ j v, (#[Value.int IntKind.i64 a, Value.int IntKind.i64 p, Value.int IntKind.i64 b, Value.int IntKind.i64 q, Value.int IntKind.i64 x, Value.int IntKind.i64 y, Value.string s] : Array Value)[j]? = some v → W0.cell? ⟨w.heap.size, j, none⟩ = some v := fun j v h => by
  rw [hW0, cell_blk (heap_alloc_new w _) j]; exact h
 refine ⟨Lib.bytesWorld W0 5 s, ⟨by rw [hW0]⟩, ⟨old 0 _ (new 0 _ rfl), old 1 _ (new 1 _ rfl), old 2 _ (new 2 _ rfl), old 3 _ (new 3 _ rfl), old 4 _ (new 4 _ rfl), old 5 _ (new 5 _ rfl), old 6 _ (new 6 _ rfl)⟩, ⟨fun j hj => ?_⟩, ⟨?_⟩, ?_⟩
 ·have := Lib.bytesWorld_cell W0 5 s j hj
  rw [hsz, bt_data s j hj] at this
  exact this
 ·have h1 : Below w.heap.size w W0 := by rw [hW0]; exact (Below.refl _ _).alloc (Nat.le_refl _) _
  exact h1.trans ((lin_below W0 5 s).mono (by omega))
 ·rw [Lib.bytesWorld_size]; omega
set_option maxHeartbeats 1000000 in
set_option maxRecDepth 100000 in
theorem seg_walk (a p b q x y : Int) (s : ByteArray) (w : World) (hs : s.size ≤ 281474976710656) :
  Calls Try.prog 19 #[.agg #[.int .i64 a, .int .i64 p, .int .i64 b, .int .i64 q, .int .i64 x, .int .i64 y, .string s]] w fun e w' => e = .returned (.bool (segOkB a p b q x y s)) ∧ Below w.heap.size w w' := by
 have hcv := fun W => Lib.run_convert_string_bytes (P := Try.prog) W 9 27 5 s Try.underlying9 Try.underlying27 Try.underlying5
 obtain ⟨W1, HW1, ⟨c0, c1, c2, c3, c4, c5, c6⟩, HC, HBW, hlt1⟩ := seg_world a p b q x y s w
 go_enter Try.func19, Try.ntmps19
 go_wp2
 rw [← HW1.out]
 generalize grownCap _ s.size 0 5 = cp
 clear hcv
 go_loopw [9] (fun v wr => ∃ i : Nat, i ≤ s.size ∧ v = .int .i64 (i : Int) ∧ Aside0 (∀ j, j < i → segB (bt s (j : Int)) = true) ∧ Aside0 (∃ n, wr = W1.drewN n)) (fun v _ => s.size - (intOf v).toNat)
 case atStart => exact ⟨0, Nat.zero_le _, rfl, ⟨fun j hj => by omega⟩, ⟨⟨0, rfl⟩⟩⟩
 case round =>
  obtain ⟨i, hi, rfl, HJ, HW⟩ := hrel
  obtain ⟨nd0, rfl⟩ := HW.out
  clear HW
  by_cases hlt : i < s.size
  ·have hx : (W1.drewN nd0).cell? ⟨w.heap.size + 1, i, none⟩ = some (.int .u8 (bt s (i : Int))) := HC.out i hlt
   have hbt := bt_range s (i : Int)
   by_cases hb : lineB (bt s (i : Int)) = true
   ·go_wp2_with (go_at_call 44; refine (line_any _ _).mono ?_; rintro e w' ⟨rfl, ⟨nd, rfl⟩⟩)
    go_roundw
    case rel => exact ⟨i + 1, by omega, by go_num, ⟨fun j hj => by by_cases e : j = i; (subst e; simp [segB, hb]); exact HJ.out j (by omega)⟩, ⟨⟨_, rfl⟩⟩⟩
    case measure => simp [intOf]; omega
   ·replace hb := Bool.eq_false_iff.mpr hb
    by_cases he : bt s (i : Int) = 59
    ·have HE := Aside0.mk he
     clear he
     have e1 : Utf8.encode (bt s (i : Int)) = ⟨#[59]⟩ := (enc_59 _ hbt.1 hbt.2).2 HE.out
     go_wp2_with (go_at_call 44; refine (line_any _ _).mono ?_; rintro e w' ⟨rfl, ⟨nd, rfl⟩⟩)
     go_roundw
     case rel => exact ⟨i + 1, by omega, by go_num, ⟨fun j hj => by by_cases e : j = i; (subst e; simp [segB, HE.out]); exact HJ.out j (by omega)⟩, ⟨⟨_, rfl⟩⟩⟩
     case measure => simp [intOf]; omega
    ·have e1 : ¬ Utf8.encode (bt s (i : Int)) = ⟨#[59]⟩ := fun h => he ((enc_59 _ hbt.1 hbt.2).1 h)
     have HN := Aside0.mk he
     clear he
     have e2 : ((Utf8.encode (bt s (i : Int))).toList == [59]) = false := by
      rw [beq_eq_false_iff_ne]
      intro h
      rw [ByteArray.toList_eq] at h
      exact e1 (ByteArray.ext (Array.toList_inj.1 h))
     clear e1
     go_wp2_with (go_at_call 44; refine (line_any _ _).mono ?_; rintro e w' ⟨rfl, ⟨nd, rfl⟩⟩)
     go_ret
     refine ⟨?_, pw_below_drewN HBW.out _⟩
     have : segOkB a p b q x y s = false := by unfold segOkB; exact decide_eq_false (fun hd => by have := hd.2.2.2.2.2 i hlt; simp [segB, hb, HN.out] at this)
     exact congrArg (fun b => Ending.returned (Value.bool b)) this.symm
  ·have HD : Aside0 (dataP s) := ⟨fun j hj => HJ.out j (by omega)⟩
   clear HJ hi
   have HB0 := Aside0.mk (pw_below_drewN HBW.out nd0)
   have d0 : (W1.drewN nd0).cell? ⟨w.heap.size, 0, none⟩ = some (.int .i64 a) := c0
   have d1 : (W1.drewN nd0).cell? ⟨w.heap.size, 1, none⟩ = some (.int .i64 p) := c1
   have hszd : w.heap.size < (W1.drewN nd0).heap.size := hlt1
   have HT : Aside0 ((W1.drewN nd0).cell? ⟨w.heap.size, 2, none⟩ = some (.int .i64 b) ∧ (W1.drewN nd0).cell? ⟨w.heap.size, 3, none⟩ = some (.int .i64 q) ∧ (W1.drewN nd0).cell? ⟨w.heap.size, 4, none⟩ = some (.int .i64 x) ∧ (W1.drewN nd0).cell? ⟨w.heap.size, 5, none⟩ = some (.int .i64 y) ∧ (W1.drewN nd0).cell? ⟨w.heap.size, 6, none⟩ = some (.string s)) := ⟨c2, c3, c4, c5, c6⟩
   clear c0 c2 c3 c4 c5 c6 HC HBW hlt1 HW1
   obtain ⟨W2, hW2⟩ : ∃ W2, W2 = W1.drewN nd0 := ⟨_, rfl⟩
   rw [← hW2] at d0 d1 hszd HT HB0 ⊢
   clear hW2
   by_cases h1 : endB a p = true
   ·go_wp2_with fail
    refine (end_any a p _).mono ?_
    rintro e W3 ⟨rfl, hb3⟩
    have HB3 := Aside0.mk (HB0.out.trans (hb3.mono (Nat.le_of_lt hszd)))
    have HT3 := Aside0.mk (And.intro ((hb3.cell (p := ⟨w.heap.size, 2, none⟩) hszd).trans HT.out.1) (And.intro ((hb3.cell (p := ⟨w.heap.size, 3, none⟩) hszd).trans HT.out.2.1) (And.intro ((hb3.cell (p := ⟨w.heap.size, 4, none⟩) hszd).trans HT.out.2.2.1) (And.intro ((hb3.cell (p := ⟨w.heap.size, 5, none⟩) hszd).trans HT.out.2.2.2.1) ((hb3.cell (p := ⟨w.heap.size, 6, none⟩) hszd).trans HT.out.2.2.2.2)))))
    have hsz3 : w.heap.size < W3.heap.size := Nat.lt_of_lt_of_le hszd hb3.size
    have d2 := HT3.out.1
    have d3 := HT3.out.2.1
    clear HT hb3 d0 d1 hszd HB0
    by_cases h2 : endB b q = true
    ·go_wp2_with fail
     refine (end_any b q _).mono ?_
     rintro e W4 ⟨rfl, hb4⟩
     have HB4 := Aside0.mk (HB3.out.trans (hb4.mono (Nat.le_of_lt hsz3)))
     have d4 := (hb4.cell (p := ⟨w.heap.size, 4, none⟩) hsz3).trans HT3.out.2.2.1
     have d5 := (hb4.cell (p := ⟨w.heap.size, 5, none⟩) hsz3).trans HT3.out.2.2.2.1
     have d6 := (hb4.cell (p := ⟨w.heap.size, 6, none⟩) hsz3).trans HT3.out.2.2.2.2
     clear HT3 hb4 d2 d3 hsz3 HB3
     by_cases h3 : inB x 0 240 = true
     ·go_wp2_with fail
      refine (in_any x 0 240 _).mono ?_
      rintro e W5 ⟨rfl, ⟨n5, rfl⟩⟩
      by_cases h4 : inB y 0 240 = true
      ·go_wp2_with fail
       refine (in_any y 0 240 _).mono ?_
       rintro e W6 ⟨rfl, ⟨n6, rfl⟩⟩
       go_wp2
       go_ret
       refine ⟨?_, ?_⟩
       ·have : segOkB a p b q x y s = decide ((s.size : Int) ≤ 12) := by
         unfold segOkB
         exact decide_eq_decide.2 ⟨fun hd => by omega, fun hd => ⟨of_decide_eq_true h1, of_decide_eq_true h2, of_decide_eq_true h3, of_decide_eq_true h4, by omega, HD.out⟩⟩
        exact congrArg (fun b => Ending.returned (Value.bool b)) this.symm
       ·exact pw_below_drewN HB4.out _
      ·replace h4 := Bool.eq_false_iff.mpr h4
       go_wp2_with fail
       refine (in_any y 0 240 _).mono ?_
       rintro e W6 ⟨rfl, ⟨n6, rfl⟩⟩
       go_wp2
       go_ret
       refine ⟨?_, pw_below_drewN HB4.out _⟩
       have : segOkB a p b q x y s = false := by unfold segOkB; exact decide_eq_false (fun hd => (of_decide_eq_false h4) hd.2.2.2.1)
       exact congrArg (fun b => Ending.returned (Value.bool b)) this.symm
     ·replace h3 := Bool.eq_false_iff.mpr h3
      go_wp2_with fail
      refine (in_any x 0 240 _).mono ?_
      rintro e W5 ⟨rfl, ⟨n5, rfl⟩⟩
      go_wp2
      go_ret
      refine ⟨?_, pw_below_drewN HB4.out _⟩
      have : segOkB a p b q x y s = false := by unfold segOkB; exact decide_eq_false (fun hd => (of_decide_eq_false h3) hd.2.2.1)
      exact congrArg (fun b => Ending.returned (Value.bool b)) this.symm
    ·replace h2 := Bool.eq_false_iff.mpr h2
     go_wp2_with fail
     refine (end_any b q _).mono ?_
     rintro e W4 ⟨rfl, hb4⟩
     have HB4 := Aside0.mk (HB3.out.trans (hb4.mono (Nat.le_of_lt hsz3)))
     clear hb4
     go_wp2
     go_ret
     refine ⟨?_, HB4.out⟩
     have : segOkB a p b q x y s = false := by unfold segOkB; exact decide_eq_false (fun hd => (of_decide_eq_false h2) hd.2.1)
     exact congrArg (fun b => Ending.returned (Value.bool b)) this.symm
   ·replace h1 := Bool.eq_false_iff.mpr h1
    go_wp2_with fail
    refine (end_any a p _).mono ?_
    rintro e W3 ⟨rfl, hb3⟩
    have HB3 := Aside0.mk (HB0.out.trans (hb3.mono (Nat.le_of_lt hszd)))
    clear hb3
    go_wp2
    go_ret
    refine ⟨?_, HB3.out⟩
    have : segOkB a p b q x y s = false := by unfold segOkB; exact decide_eq_false (fun hd => (of_decide_eq_false h1) hd.1)
    exact congrArg (fun b => Ending.returned (Value.bool b)) this.symm
theorem impl_SegOk.calls (k : Nat) (a0_0 : Int) (a0_1 : Int) (a0_2 : Int) (a0_3 : Int) (a0_4 : Int) (a0_5 : Int) (a0_6 : ByteArray) (r : Bool) (w : World) (h : impl_SegOk.f k a0_0 a0_1 a0_2 a0_3 a0_4 a0_5 a0_6 = some r) :
  Calls Try.prog 19 #[.agg #[.int .i64 a0_0, .int .i64 a0_1, .int .i64 a0_2, .int .i64 a0_3, .int .i64 a0_4, .int .i64 a0_5, .string a0_6]] w fun e w' => e = .returned (.bool r) ∧ Below w.heap.size w w' := by
 unfold impl_SegOk.f at h
 rw [if_pos (by omega)] at h
 by_cases hs : ((a0_6.size : Int) : Int).toNat ≤ 281474976710656
 ·rw [if_pos hs] at h
  obtain ⟨t, h1, h2⟩ := Option.bind_eq_some_iff.mp h
  obtain rfl := Option.some.inj h2
  obtain rfl := spec_seg a0_0 a0_1 a0_2 a0_3 a0_4 a0_5 a0_6 k t h1
  exact seg_walk a0_0 a0_1 a0_2 a0_3 a0_4 a0_5 a0_6 w (by omega)
 ·rw [if_neg hs] at h; cases h

/-! ### impl_SegSeg_cut: function 56 -/
/-! A row of one's own that was cut to its size and capacity ('out[:n:n]'): it is read as any other one. -/
section
variable {P : Program}
theorem cut_max (t e : TypeId) (kh : IntKind) {i : TypeInfo} (ht : P.underlying t = some (.slice e)) (hi : P.info? e = some i) (A : Option Addr) (n c : Nat) (j : Int) (h0 : 0 ≤ j) (hm : j ≤ n) (hc : n ≤ c) :
  ∀ W : World, (Instr.slice t (.slice A n c) none (some (.int kh j)) (some (.int kh j))).run P W = .ok (.slice A j.toNat j.toNat) W := by
 intro W
 have hel : P.elem t = e := by simp [Program.elem, ht]
 have hu : P.underlying t = some (.slice (P.elem t)) := by rw [hel]; exact ht
 have ha : (A.map fun x => x.add 0) = A := by cases A <;> simp [Addr.add]
 have hb : (Instr.sliceBounds true n c none (some (.int kh j)) (some (.int kh j))).run P W = .ok (0, j.toNat, j.toNat) W := by
  simp [Instr.sliceBounds, run_sliceBound _ kh j _ _ h0 (show j ≤ (c : Int) by omega), run_sliceBound _ kh j j.toNat _ h0 (by omega), Result.andThen]
 rw [run_slice_any W t A n c hu, hb, hel]
 simp [sizeOf, typeInfo, hi, sliced, Result.andThen, ha]
end
/-- Read as a row, whatever its capacity. -/
def KdRc {α : Type} (d : Kd α) (e : Nat) (w : World) (base : Nat) (ok : Nat → Prop) (v : Value) (xs : List α) : Prop :=
 ∃ A c m, v = .slice A xs.length m ∧ xs.length ≤ m ∧ d.R e w base ok (.slice A xs.length c) xs
section
variable {α : Type} {d : Kd α} {e : Nat} {w w1 : World} {base : Nat} {ok ok' : Nat → Prop} {v : Value} {xs : List α}
theorem KdRc_intro {A : Option Addr} {n c : Nat} (h : d.R e w base ok (.slice A n c) xs) : KdRc d e w base ok (.slice A n n) xs := by
 obtain ⟨rfl, _⟩ := Kd.R_reads' h
 exact ⟨A, c, _, rfl, Nat.le_refl _, h⟩
theorem KdRc_of (h : d.R e w base ok v xs) : KdRc d e w base ok v xs := by
 obtain ⟨A, c, rfl, hc, _⟩ := Kd.R_reads h
 exact ⟨A, c, c, rfl, hc, h⟩
theorem KdRc_nil (d : Kd α) (e : Nat) (w : World) (base : Nat) (ok : Nat → Prop) : KdRc d e w base ok (.slice none 0 0) [] := ⟨none, 0, 0, rfl, Nat.le_refl _, Kd.R_nil d e w base ok⟩
theorem KdRc_mono (h : KdRc d e w base ok v xs) (hok : ∀ k, ok k → ok' k) : KdRc d e w base ok' v xs := by
 obtain ⟨A, c, m_, rfl, hm, h⟩ := h; exact ⟨A, c, m_, rfl, hm, Kd.R_mono h hok⟩
theorem KdRc_below (h : KdRc d e w base ok v xs) (hb : Below w.heap.size w w1) : KdRc d e w1 base ok v xs := by
 obtain ⟨A, c, m_, rfl, hm, h⟩ := h; exact ⟨A, c, m_, rfl, hm, Kd.R_below h hb⟩
theorem KdRc_alloc (h : KdRc d e w base ok v xs) (o : Obj) : KdRc d e (w.alloc o) base ok v xs := by
 obtain ⟨A, c, m_, rfl, hm, h⟩ := h; exact ⟨A, c, m_, rfl, hm, Kd.R_alloc h o⟩
theorem KdRc_drew (h : KdRc d e w base ok v xs)  : KdRc d e w.drew base ok v xs := by
 obtain ⟨A, c, m_, rfl, hm, h⟩ := h; exact ⟨A, c, m_, rfl, hm, Kd.R_drew h⟩
theorem KdRc_drewN (h : KdRc d e w base ok v xs) (m : Nat) : KdRc d e (w.drewN m) base ok v xs := by
 obtain ⟨A, c, m_, rfl, hm, h⟩ := h; exact ⟨A, c, m_, rfl, hm, Kd.R_drewN h m⟩
theorem KdRc_elderB (h : KdRc d e w base ok v xs) (a : Nat) (ha : w.heap.size ≤ a) : KdRc d e w base (fun k => ok k ∧ k ≠ a) v xs := by
 obtain ⟨A, c, m_, rfl, hm, h⟩ := h; exact ⟨A, c, m_, rfl, hm, Kd.R_elderB h a ha⟩
theorem KdRc_lower {base' : Nat} (h : KdRc d e w base ok v xs) (hb : base' ≤ base) : KdRc d e w base' ok v xs := by
 obtain ⟨A, c, m_, rfl, hm, h⟩ := h; exact ⟨A, c, m_, rfl, hm, Kd.R_lower h hb⟩
theorem KdRc_newB {g : Nat} {o : Obj} (h : KdRc d e w1 w.heap.size ok v xs) (hb : w.heap[g]? = some o) : KdRc d e w1 w.heap.size (fun k => ok k ∧ k ≠ g) v xs := by
 obtain ⟨A, c, m_, rfl, hm, h⟩ := h; exact ⟨A, c, m_, rfl, hm, Kd.R_newB h hb⟩
theorem KdRc_slice (h : KdRc d e w base ok v xs) : ∃ A c, v = .slice A xs.length c := by
 obtain ⟨A, c, m_, rfl, hm, h⟩ := h; exact ⟨A, _, rfl⟩
theorem KdRc_reads' {A : Option Addr} {n c : Nat} (h : KdRc d e w base ok (.slice A n c) xs) : n = xs.length ∧ n ≤ c ∧ d.C w A xs.length xs := by
 obtain ⟨A', c', m_, he, hm, h⟩ := h
 injection he with h1 h2 h3
 subst h1; subst h2; subst h3
 exact ⟨rfl, hm, (Kd.R_reads' h).2.2⟩
theorem KdRc_far (h : KdRc d e w base ok v xs) {p : Addr} (hok : ∀ k, ok k → k ≠ p.block) (u : Value) : KdRc d e (w.setCell p u) base ok v xs := by
 obtain ⟨A, c, m_, rfl, hm, h⟩ := h; exact ⟨A, c, m_, rfl, hm, Kd.R_far h hok u⟩
theorem KdRc_lt (h : KdRc d e w base ok v xs) : ∀ k, v.ownBlock = some k → k < w.heap.size := by
 obtain ⟨A, c, m_, rfl, hm, h⟩ := h; exact fun k hk => Kd.R_lt h k (by rw [← hk]; cases A <;> rfl)
theorem KdRc_base (h : KdRc d e w base ok v xs) : ∀ k, v.ownBlock = some k → base ≤ k := by
 obtain ⟨A, c, m_, rfl, hm, h⟩ := h; exact fun k hk => Kd.R_base h k (by rw [← hk]; cases A <;> rfl)
theorem KdRc_elder' {W : World} {u : Value} (h : KdRc d e W base ok u xs) (hbase : ∀ k, v.ownBlock = some k → W.heap.size ≤ k) (hb : Below W.heap.size W w1) : KdRc d e w1 base (fun k => ok k ∧ some k ≠ v.ownBlock) u xs := by
 obtain ⟨A, c, m_, rfl, hm, h⟩ := h; exact ⟨A, c, m_, rfl, hm, Kd.R_elder' h hbase hb⟩
theorem KdRc_new' {W : World} {u : Value} (h : KdRc d e w1 W.heap.size ok v xs) (hlt : ∀ k, u.ownBlock = some k → k < W.heap.size) : KdRc d e w1 W.heap.size (fun k => ok k ∧ some k ≠ u.ownBlock) v xs := by
 obtain ⟨A, c, m_, rfl, hm, h⟩ := h; exact ⟨A, c, m_, rfl, hm, Kd.R_new' h hlt⟩
end
def impl_SegSeg_cut.l0 : Nat → ByteArray → Int → List (S31) → Int → Int → Int → Int → Int → Int → ByteArray → Option ((List (S31)))
 | 0, _, _, _, _, _, _, _, _, _, _ => none
 | k + 1, x1, x2, x7, x298000, x298001, x298002, x298003, x298004, x298005, x298006 => if x2 < (x1.size : Int) then (if 0 ≤ x2 then (if x2 ≤ (mn (wrap64 (x2 + 12)) (x1.size : Int)) then (if (mn (wrap64 (x2 + 12)) (x1.size : Int)) ≤ (x1.size : Int) then (if x7.length < 2199023255552 then (impl_SegSeg_cut.l0 k x1 (wrap64 (x2 + 12)) (x7 ++ [(⟨(⟨x298000, x298001⟩ : S29), (⟨x298002, x298003⟩ : S29), x2, x298005, x1.extract (x2 : Int).toNat ((mn (wrap64 (x2 + 12)) (x1.size : Int)) : Int).toNat⟩ : S31)]) x298000 x298001 x298002 x298003 x2 x298005 (x1.extract (x2 : Int).toNat ((mn (wrap64 (x2 + 12)) (x1.size : Int)) : Int).toNat)) else (none)) else (none)) else (none)) else (none)) else (if (x7.length : Int) = 0 then (if x7.length < 2199023255552 then ((some (x7 ++ [(⟨(⟨x298000, x298001⟩ : S29), (⟨x298002, x298003⟩ : S29), (x1.size : Int), x298005, (⟨#[]⟩ : ByteArray)⟩ : S31)] : List (S31))).bind fun y304 => (if 0 ≤ (y304.length : Int) then (if (y304.length : Int) ≤ (y304.length : Int) then (some (y304.take ((y304.length : Int) : Int).toNat)) else (none)) else (none))) else (none)) else (if 0 ≤ (x7.length : Int) then (if (x7.length : Int) ≤ (x7.length : Int) then (some (x7.take ((x7.length : Int) : Int).toNat)) else (none)) else (none)))
def impl_SegSeg_cut.f (k : Nat) (a0_0 : Int) (a0_1 : Int) (a0_2 : Int) (a0_3 : Int) (a0_4 : Int) (a0_5 : Int) (a0_6 : ByteArray) (a1 : ByteArray) (a2 : Int) : Option ((List (S31))) := impl_SegSeg_cut.l0 k a1 a2 (([] : List (S31))) a0_0 a0_1 a0_2 a0_3 a0_4 a0_5 a0_6
theorem impl_SegSeg_cut.mono_l : ∀ k, (∀ y0 y1 y2 y3 y4 y5 y6 y7 y8 y9, LeO (impl_SegSeg_cut.l0 k y0 y1 y2 y3 y4 y5 y6 y7 y8 y9) (impl_SegSeg_cut.l0 (k + 1) y0 y1 y2 y3 y4 y5 y6 y7 y8 y9))
 | 0 => fun _ _ _ _ _ _ _ _ _ _ r h => by simp [impl_SegSeg_cut.l0] at h
 | k + 1 => by
  have ih0 := impl_SegSeg_cut.mono_l k
  ·intro y0 y1 y2 y3 y4 y5 y6 y7 y8 y9
   unfold impl_SegSeg_cut.l0
   repeat' first
   | (with_reducible exact ih0 _ _ _ _ _ _ _ _ _ _)
   | (with_reducible exact LeO.refl _)
   | (with_reducible exact LeO.none _)
   | (with_reducible refine LeO.ite ?_ ?_)
   | (with_reducible refine LeO.bind ?_ (fun _ => ?_))
   | exact ih0 _ _ _ _ _ _ _ _ _ _
   | exact LeO.none _
   | refine LeO.ite ?_ ?_
   | refine LeO.bind ?_ (fun _ => ?_)
theorem impl_SegSeg_cut.mono : ∀ a0 a1 a2 a3 a4 a5 a6 a7 a8 k, LeO (impl_SegSeg_cut.f k a0 a1 a2 a3 a4 a5 a6 a7 a8) (impl_SegSeg_cut.f (k + 1) a0 a1 a2 a3 a4 a5 a6 a7 a8) := by
 intro a0 a1 a2 a3 a4 a5 a6 a7 a8 k
 have ih0 := impl_SegSeg_cut.mono_l k
 unfold impl_SegSeg_cut.f
 repeat' first
   | (with_reducible exact ih0 _ _ _ _ _ _ _ _ _ _)
   | (with_reducible exact LeO.refl _)
   | (with_reducible exact LeO.none _)
   | (with_reducible refine LeO.ite ?_ ?_)
   | (with_reducible refine LeO.bind ?_ (fun _ => ?_))
   | exact ih0 _ _ _ _ _ _ _ _ _ _
   | exact LeO.none _
   | refine LeO.ite ?_ ?_
   | refine LeO.bind ?_ (fun _ => ?_)
set_option maxHeartbeats 8000000 in
set_option maxRecDepth 100000 in
theorem impl_SegSeg_cut.calls (k : Nat) (a0_0 : Int) (a0_1 : Int) (a0_2 : Int) (a0_3 : Int) (a0_4 : Int) (a0_5 : Int) (a0_6 : ByteArray) (a1 : ByteArray) (a2 : Int) (r : List (S31)) (w : World) (h : impl_SegSeg_cut.f k a0_0 a0_1 a0_2 a0_3 a0_4 a0_5 a0_6 a1 a2 = some r) :
  Calls Try.prog 56 #[.agg #[.int .i64 a0_0, .int .i64 a0_1, .int .i64 a0_2, .int .i64 a0_3, .int .i64 a0_4, .int .i64 a0_5, .string a0_6], .string a1, .int .i64 a2] w fun e w' => ∃ v0_ : Value, e = .returned (v0_) ∧ KdRc k31 31 w' w.heap.size (fun _ => True) v0_ r ∧ Below w.heap.size w w' := by
 have hu31 := Try.underlying31
 have HB := Aside0.mk (Below.refl w.heap.size w)
 have H : (impl_SegSeg_cut.l0 k a1 a2 (([] : List (S31))) a0_0 a0_1 a0_2 a0_3 a0_4 a0_5 a0_6) = some r := h
 clear h
 obtain ⟨y298, hy298⟩ : ∃ y_ : List (S31), y_ = (([] : List (S31))) := ⟨_, rfl⟩
 replace H : (impl_SegSeg_cut.l0 k a1 a2 y298 a0_0 a0_1 a0_2 a0_3 a0_4 a0_5 a0_6) = some r := by first | (rw [hy298]; with_reducible exact H) | (have H2_ := (Option.bind_some _ _).symm.trans H; rw [hy298]; with_reducible exact H2_) | (have H2_ := (Option.bind_some _ _).symm.trans H; with_reducible exact H2_) | with_reducible exact H | (rw [hy298]; exact H) | exact H
 have Ny298 := Aside0.mk hy298
 clear hy298
 have H' := Aside0.mk H
 clear H
 go_enter Try.func56, Try.ntmps56
 go_wp2_with (first | ((with_reducible refine gate_dst (N := 3) rfl ?_); refine box_event ?hg (N := 3) ?hd (cs := #[.int .i64 a0_0, .int .i64 a0_1, .int .i64 a0_2, .int .i64 a0_3, .int .i64 a0_4, .int .i64 a0_5, .string a0_6]) (t := 31) ?hr ?_; (case hd => rfl); (case hg => rfl); (case hr => first | (go_simp; done) | (go_simp; rfl)); intro gb297 hg w4 hbox hb; have n0_ := Aside0.mk (below_step (by repeat (first | (with_reducible first | exact HB.out | apply below_alloc | apply pw_below_drewN | apply below_drew1) | exact HB.out)) hb); have n1_ := Aside0.mk (hbox); have n2_ := Aside0.mk ((by rw [hg]; exact (below_size (by repeat (first | (with_reducible first | exact HB.out | apply below_alloc | apply pw_below_drewN | apply below_drew1) | exact HB.out))) : w.heap.size ≤ gb297)); have n3_ := Aside0.mk ((by rw [hg]; exact (below_size (by repeat (first | (with_reducible first | exact HB.out | apply below_alloc | apply pw_below_drewN | apply below_drew1) | exact HB.out))) : w.heap.size ≤ gb297)); clear HB; have HB := n0_; have BK297 := n1_; have GW297 := n2_; have GE297 := n3_; clear n0_ n1_ n2_ n3_; clear hb hbox hg) | ((with_reducible refine gate_dst (N := 8) rfl ?_); refine Kd.R_lit k31 _ 31 ?hg (N := 8) ?hd (xs := ([] : List (S31))) (inner := []) (ok := fun _ => True) (okp := fun _ => True) ?hr ?hp (fun _ hk => hk) trivial (Below.refl _ _) (Nat.le_refl _) (by simp) ?_; (case hd => rfl); (case hg => rfl); (case hr => first | (go_simp; done) | (go_simp; rfl)); (case hp => exact (Reps.none _ _)); intro v299 w5 ho6 hb hg_ hnew_; clear hg_ hnew_; (first | rw [← Ny298.out] at ho6 | (simp only [Int.reduceToNat] at ho6; rw [← Ny298.out] at ho6)); have n0_ := Aside0.mk (Kd.R_lower (Kd.R_newB ho6 (g := gb297) (o := .cells #[.int .i64 a0_0, .int .i64 a0_1, .int .i64 a0_2, .int .i64 a0_3, .int .i64 a0_4, .int .i64 a0_5, .string a0_6] 31 (0, 0)) (by (with_reducible repeat (first | refine blk_drewN ?_ _ | refine blk_drew ?_ | refine blk_alloc ?_ _)); exact BK297.out)) (below_size (by repeat (first | (with_reducible first | exact HB.out | apply below_alloc | apply pw_below_drewN | apply below_drew1 | refine below_set ?_ GE297.out) | exact HB.out)))); have n1_ := Aside0.mk (blk_below (g := gb297) (o := .cells #[.int .i64 a0_0, .int .i64 a0_1, .int .i64 a0_2, .int .i64 a0_3, .int .i64 a0_4, .int .i64 a0_5, .string a0_6] 31 (0, 0)) (by (with_reducible repeat (first | refine blk_drewN ?_ _ | refine blk_drew ?_ | refine blk_alloc ?_ _)); exact BK297.out) hb); have n2_ := Aside0.mk (below_step (by repeat (first | (with_reducible first | exact HB.out | apply below_alloc | apply pw_below_drewN | apply below_drew1 | refine below_set ?_ GE297.out) | exact HB.out)) hb); clear BK297; clear HB; have HO300 := n0_; have BK297 := n1_; have HB := n2_; clear n0_ n1_ n2_; clear hb ho6))
 go_loopg [2, 7] k (fun kq v2 v7 w' => ∃ (x2_1 : Int) (x7_1 : List (S31)) (x298004_1 : Int) (x298006_1 : ByteArray), v2 = .int .i64 x2_1 ∧ Aside0 (impl_SegSeg_cut.l0 kq a1 x2_1 x7_1 a0_0 a0_1 a0_2 a0_3 x298004_1 a0_5 x298006_1 = some r) ∧ Aside0 (kq ≤ k) ∧ Aside0 (Kd.R k31 31 w' w.heap.size (fun k_ => k_ ≠ gb297) v7 x7_1) ∧ Aside0 (w'.heap[gb297]? = some (.cells #[.int .i64 a0_0, .int .i64 a0_1, .int .i64 a0_2, .int .i64 a0_3, .int .i64 x298004_1, .int .i64 a0_5, .string x298006_1] 31 (0, 0))) ∧ Aside0 (Below w.heap.size w w'))
 case atStart => exact ⟨(a2), (y298), (a0_4), (a0_6), (by first | rfl | (simp; done) | (simp [*]; done)), H', ⟨Nat.le_refl _⟩, ⟨by (with_reducible repeat (first | apply Kd.R_alloc | apply Kd.R_drewN | apply Kd.R_drew)); exact Kd.R_mono HO300.out (fun _ hk => hk.2)⟩, ⟨by (with_reducible repeat (first | refine blk_drewN ?_ _ | refine blk_drew ?_ | refine blk_alloc ?_ _)); exact BK297.out⟩, ⟨by repeat (first | (with_reducible first | exact HB.out | apply below_alloc | apply pw_below_drewN | apply below_drew1 | refine below_set ?_ GE297.out) | exact HB.out)⟩⟩
 case round =>
  clear H'
  try clear p2
  try clear c5
  obtain ⟨x2_1, x7_1, x298004_1, x298006_1, rfl, HA, HK1, HO_7, BK297, HB⟩ := hrel
  cases gk with
  | zero => exact absurd HA.out (by simp [impl_SegSeg_cut.l0])
  | succ k1 =>
   have H := HA.out
   clear HA
   simp only [impl_SegSeg_cut.l0] at H
   by_cases c7 : x2_1 < (a1.size : Int)
   ·rw [if_pos c7] at H
    have c7b0 : decide (x2_1 < (a1.size : Int)) = true := decide_eq_true c7
    clear c7
    obtain ⟨ji8, hji8⟩ : ∃ j_ : Int, (mn (wrap64 (x2_1 + 12)) (a1.size : Int)) = j_ := ⟨_, rfl⟩
    replace H : (if 0 ≤ x2_1 then (if x2_1 ≤ (ji8) then (if (ji8) ≤ (a1.size : Int) then (if x7_1.length < 2199023255552 then (impl_SegSeg_cut.l0 k1 a1 (wrap64 (x2_1 + 12)) (x7_1 ++ [(⟨(⟨a0_0, a0_1⟩ : S29), (⟨a0_2, a0_3⟩ : S29), x2_1, a0_5, a1.extract (x2_1 : Int).toNat ((ji8) : Int).toNat⟩ : S31)]) a0_0 a0_1 a0_2 a0_3 x2_1 a0_5 (a1.extract (x2_1 : Int).toNat ((ji8) : Int).toNat)) else (none)) else (none)) else (none)) else (none)) = some r := by first | (rw [hji8] at H; exact H) | (simp only [hji8] at H ⊢; exact H)
    have hji8_ : (if (a1.size : Int) < (wrap64 (x2_1 + 12)) then (a1.size : Int) else (wrap64 (x2_1 + 12))) = ji8 := hji8
    by_cases c9 : 0 ≤ x2_1
    ·rw [if_pos c9] at H
     have c9b0 := eq_true c9
     have c9b1 : decide (0 ≤ x2_1) = true := decide_eq_true c9
     clear c9
     by_cases c10 : x2_1 ≤ (ji8)
     ·rw [if_pos c10] at H
      have c10b0 := eq_true c10
      have c10b1 : decide (x2_1 ≤ (ji8)) = true := decide_eq_true c10
      clear c10
      by_cases c11 : (ji8) ≤ (a1.size : Int)
      ·rw [if_pos c11] at H
       have c11b0 := eq_true c11
       have c11b1 : decide ((ji8) ≤ (a1.size : Int)) = true := decide_eq_true c11
       clear c11
       by_cases c12 : x7_1.length < 2199023255552
       ·rw [if_pos c12] at H
        have LMc12 := Aside0.mk c12
        clear c12
        obtain ⟨y301, hy301⟩ : ∃ y_ : List (S31), y_ = (x7_1 ++ [(⟨(⟨a0_0, a0_1⟩ : S29), (⟨a0_2, a0_3⟩ : S29), x2_1, a0_5, a1.extract (x2_1 : Int).toNat ((ji8) : Int).toNat⟩ : S31)]) := ⟨_, rfl⟩
        replace H : (impl_SegSeg_cut.l0 k1 a1 (wrap64 (x2_1 + 12)) y301 a0_0 a0_1 a0_2 a0_3 x2_1 a0_5 (a1.extract (x2_1 : Int).toNat ((ji8) : Int).toNat)) = some r := by first | (rw [hy301]; with_reducible exact H) | (have H2_ := (Option.bind_some _ _).symm.trans H; rw [hy301]; with_reducible exact H2_) | (have H2_ := (Option.bind_some _ _).symm.trans H; with_reducible exact H2_) | with_reducible exact H | (rw [hy301]; exact H) | exact H
        have Ny301 := Aside0.mk hy301
        clear hy301
        have H' := Aside0.mk H
        clear H
        have hcz13_0 : wr.cell? ⟨gb297, 0, none⟩ = some (.int .i64 a0_0) := (blk_cell BK297.out 0).trans rfl
        have hcz13_1 : wr.cell? ⟨gb297, 1, none⟩ = some (.int .i64 a0_1) := (blk_cell BK297.out 1).trans rfl
        have hcz13_2 : wr.cell? ⟨gb297, 2, none⟩ = some (.int .i64 a0_2) := (blk_cell BK297.out 2).trans rfl
        have hcz13_3 : wr.cell? ⟨gb297, 3, none⟩ = some (.int .i64 a0_3) := (blk_cell BK297.out 3).trans rfl
        have hcz13_4 : wr.cell? ⟨gb297, 4, none⟩ = some (.int .i64 x298004_1) := (blk_cell BK297.out 4).trans rfl
        have hcz13_5 : wr.cell? ⟨gb297, 5, none⟩ = some (.int .i64 a0_5) := (blk_cell BK297.out 5).trans rfl
        have hcz13_6 : wr.cell? ⟨gb297, 6, none⟩ = some (.string x298006_1) := (blk_cell BK297.out 6).trans rfl
        have hfz13_0 := blk_frozen BK297.out 0
        have hfz13_1 := blk_frozen BK297.out 1
        have hfz13_2 := blk_frozen BK297.out 2
        have hfz13_3 := blk_frozen BK297.out 3
        have hfz13_4 := blk_frozen BK297.out 4
        have hfz13_5 := blk_frozen BK297.out 5
        have hfz13_6 := blk_frozen BK297.out 6
        go_wp2_with (first | ((with_reducible refine gate_builtin (b := .append) (xs := #[.tmp 24, .tmp 26]) rfl ?_); at_builtin; refine Kd.R_append k31 (w0 := w) w.heap.size rfl (.tmp 24) (.tmp 26) 48 31 (.agg #[(.int .i64 0), (.int .i64 0), (.int .i64 0), (.int .i64 0), (.int .i64 0), (.int .i64 0), (.string ⟨#[]⟩)]) 64 rfl Try.underlying48 info31 rfl (by decide) (by omega) u7 x7_1 (⟨(⟨a0_0, a0_1⟩ : S29), (⟨a0_2, a0_3⟩ : S29), x2_1, a0_5, a1.extract (x2_1 : Int).toNat ((ji8) : Int).toNat⟩ : S31) [.int .i64 a0_0, .int .i64 a0_1, .int .i64 a0_2, .int .i64 a0_3, .int .i64 x2_1, .int .i64 a0_5, .string (a1.extract (x2_1 : Int).toNat ((ji8) : Int).toNat)] (fun k_ => k_ ≠ gb297) (fun _ => False) rfl (by first | (go_simp; done) | (go_simp; rfl)) ?aP (fun _ hk => hk.elim) ?aF ?aO ?aB ?aS ?aL ?_; (case aP => exact k31_mkM _ _ _ (⟨(⟨a0_0, a0_1⟩ : S29), (⟨a0_2, a0_3⟩ : S29), x2_1, a0_5, a1.extract (x2_1 : Int).toNat ((ji8) : Int).toNat⟩ : S31)); (case aB => exact (by repeat (first | (with_reducible first | exact HB.out | apply below_alloc | apply pw_below_drewN | apply below_drew1 | refine below_set ?_ GE297.out) | exact HB.out))); (case aF => exact (fun k_ hk => Kd.freshB (g := gb297) (o := .cells #[.int .i64 a0_0, .int .i64 a0_1, .int .i64 a0_2, .int .i64 a0_3, .int .i64 x2_1, .int .i64 a0_5, .string (a1.extract (x2_1 : Int).toNat ((ji8) : Int).toNat)] 31 (0, 0)) (by (with_reducible repeat (first | refine blk_drewN ?_ _ | refine blk_drew ?_ | refine blk_alloc ?_ _)); refine blk_put (cs := #[.int .i64 a0_0, .int .i64 a0_1, .int .i64 a0_2, .int .i64 a0_3, .int .i64 x2_1, .int .i64 a0_5, .string x298006_1]) ?_ 6 _ rfl; (with_reducible repeat (first | refine blk_drewN ?_ _ | refine blk_drew ?_ | refine blk_alloc ?_ _)); refine blk_put (cs := #[.int .i64 a0_0, .int .i64 a0_1, .int .i64 a0_2, .int .i64 a0_3, .int .i64 x298004_1, .int .i64 a0_5, .string x298006_1]) ?_ 4 _ rfl; (with_reducible repeat (first | refine blk_drewN ?_ _ | refine blk_drew ?_ | refine blk_alloc ?_ _)); exact BK297.out) k_ hk)); (case aO => exact (by (with_reducible repeat (first | apply Kd.R_alloc | apply Kd.R_drewN | apply Kd.R_drew)); exact Kd.R_mono (Kd.R_far (p := ⟨gb297, 6, none⟩) (Kd.R_far (p := ⟨gb297, 4, none⟩) (Kd.R_mono HO_7.out (fun k_ hk => (⟨hk, hk⟩ : _ ∧ k_ ≠ gb297))) (fun _ hk => hk.2) (.int .i64 x2_1)) (fun _ hk => hk.2) (.string (a1.extract (x2_1 : Int).toNat ((ji8) : Int).toNat))) (fun _ hk => hk.1))); (case aS => exact (below_size (by repeat (first | (with_reducible first | exact HB.out | apply below_alloc | apply pw_below_drewN | apply below_drew1 | refine below_set ?_ GE297.out) | exact HB.out)))); (case aL => have := LMc12.out; omega); intro v302 w14 ho hb hg hat; rw [← Ny301.out] at ho; have n0_ := Aside0.mk (blk_grown (g := gb297) (o := .cells #[.int .i64 a0_0, .int .i64 a0_1, .int .i64 a0_2, .int .i64 a0_3, .int .i64 x2_1, .int .i64 a0_5, .string (a1.extract (x2_1 : Int).toNat ((ji8) : Int).toNat)] 31 (0, 0)) (by (with_reducible repeat (first | refine blk_drewN ?_ _ | refine blk_drew ?_ | refine blk_alloc ?_ _)); refine blk_put (cs := #[.int .i64 a0_0, .int .i64 a0_1, .int .i64 a0_2, .int .i64 a0_3, .int .i64 x2_1, .int .i64 a0_5, .string x298006_1]) ?_ 6 _ rfl; (with_reducible repeat (first | refine blk_drewN ?_ _ | refine blk_drew ?_ | refine blk_alloc ?_ _)); refine blk_put (cs := #[.int .i64 a0_0, .int .i64 a0_1, .int .i64 a0_2, .int .i64 a0_3, .int .i64 x298004_1, .int .i64 a0_5, .string x298006_1]) ?_ 4 _ rfl; (with_reducible repeat (first | refine blk_drewN ?_ _ | refine blk_drew ?_ | refine blk_alloc ?_ _)); exact BK297.out) hg (Kd.R_away HO_7.out (fun _ hk => hk))); have n1_ := Aside0.mk (hb); have n2_ := Aside0.mk (ho); clear BK297; clear HB; clear HO_7; have BK297 := n0_; have HB := n1_; have HO303 := n2_; clear n0_ n1_ n2_; clear ho hb hg hat))
        go_roundg k1
        case measure => have := HK1.out; omega
        case rel => exact ⟨(wrap64 (x2_1 + 12)), (y301), (x2_1), (a1.extract (x2_1 : Int).toNat ((ji8) : Int).toNat), (by first | rfl | (simp; done) | (simp [*]; done)), H', ⟨by have := HK1.out; omega⟩, ⟨by (with_reducible repeat (first | apply Kd.R_alloc | apply Kd.R_drewN | apply Kd.R_drew)); exact HO303.out⟩, ⟨by (with_reducible repeat (first | refine blk_drewN ?_ _ | refine blk_drew ?_ | refine blk_alloc ?_ _)); exact BK297.out⟩, ⟨by repeat (first | (with_reducible first | exact HB.out | apply below_alloc | apply pw_below_drewN | apply below_drew1 | refine below_set ?_ GE297.out) | exact HB.out)⟩⟩
       ·rw [if_neg c12] at H
        exact absurd H (by simp)
      ·rw [if_neg c11] at H
       exact absurd H (by simp)
     ·rw [if_neg c10] at H
      exact absurd H (by simp)
    ·rw [if_neg c9] at H
     exact absurd H (by simp)
   ·rw [if_neg c7] at H
    have c7b0 : decide (x2_1 < (a1.size : Int)) = false := decide_eq_false c7
    clear c7
    by_cases c15 : (x7_1.length : Int) = 0
    ·rw [if_pos c15] at H
     have c15b0 : ((x7_1.length : Int) == 0) = true := beq_iff_eq.mpr c15
     have c15b1 : ((x7_1.length : Int) != 0) = false := bne_eq_false_iff_eq.mpr c15
     clear c15
     by_cases c16 : x7_1.length < 2199023255552
     ·rw [if_pos c16] at H
      have LMc16 := Aside0.mk c16
      clear c16
      obtain ⟨y304, hy304⟩ : ∃ y_ : List (S31), y_ = (x7_1 ++ [(⟨(⟨a0_0, a0_1⟩ : S29), (⟨a0_2, a0_3⟩ : S29), (a1.size : Int), a0_5, (⟨#[]⟩ : ByteArray)⟩ : S31)]) := ⟨_, rfl⟩
      replace H : (if 0 ≤ (y304.length : Int) then (if (y304.length : Int) ≤ (y304.length : Int) then (some (y304.take ((y304.length : Int) : Int).toNat)) else (none)) else (none)) = some r := by first | (rw [hy304]; with_reducible exact H) | (have H2_ := (Option.bind_some _ _).symm.trans H; rw [hy304]; with_reducible exact H2_) | (have H2_ := (Option.bind_some _ _).symm.trans H; with_reducible exact H2_) | with_reducible exact H | (rw [hy304]; exact H) | exact H
      have Ny304 := Aside0.mk hy304
      clear hy304
      by_cases c17 : 0 ≤ (y304.length : Int)
      ·rw [if_pos c17] at H
       have c17b0 := eq_true c17
       have c17b1 : decide (0 ≤ (y304.length : Int)) = true := decide_eq_true c17
       clear c17
       by_cases c18 : (y304.length : Int) ≤ (y304.length : Int)
       ·rw [if_pos c18] at H
        have c18b0 := eq_true c18
        have c18b1 : decide ((y304.length : Int) ≤ (y304.length : Int)) = true := decide_eq_true c18
        clear c18
        obtain ⟨y307, hy307⟩ : ∃ y_ : List (S31), y_ = (y304.take ((y304.length : Int) : Int).toNat) := ⟨_, rfl⟩
        replace H : (some y307) = some r := by first | (rw [hy307]; with_reducible exact H) | (have H2_ := (Option.bind_some _ _).symm.trans H; rw [hy307]; with_reducible exact H2_) | (have H2_ := (Option.bind_some _ _).symm.trans H; with_reducible exact H2_) | with_reducible exact H | (rw [hy307]; exact H) | exact H
        have Ny307 := Aside0.mk hy307
        clear hy307
        obtain rfl := Option.some.inj H
        obtain ⟨Ao19, co19, eo19⟩ := Kd.R_slice HO_7.out
        subst eo19
        have hcz20_0 : wr.cell? ⟨gb297, 0, none⟩ = some (.int .i64 a0_0) := (blk_cell BK297.out 0).trans rfl
        have hcz20_1 : wr.cell? ⟨gb297, 1, none⟩ = some (.int .i64 a0_1) := (blk_cell BK297.out 1).trans rfl
        have hcz20_2 : wr.cell? ⟨gb297, 2, none⟩ = some (.int .i64 a0_2) := (blk_cell BK297.out 2).trans rfl
        have hcz20_3 : wr.cell? ⟨gb297, 3, none⟩ = some (.int .i64 a0_3) := (blk_cell BK297.out 3).trans rfl
        have hcz20_4 : wr.cell? ⟨gb297, 4, none⟩ = some (.int .i64 x298004_1) := (blk_cell BK297.out 4).trans rfl
        have hcz20_5 : wr.cell? ⟨gb297, 5, none⟩ = some (.int .i64 a0_5) := (blk_cell BK297.out 5).trans rfl
        have hcz20_6 : wr.cell? ⟨gb297, 6, none⟩ = some (.string x298006_1) := (blk_cell BK297.out 6).trans rfl
        have hfz20_0 := blk_frozen BK297.out 0
        have hfz20_1 := blk_frozen BK297.out 1
        have hfz20_2 := blk_frozen BK297.out 2
        have hfz20_3 := blk_frozen BK297.out 3
        have hfz20_4 := blk_frozen BK297.out 4
        have hfz20_5 := blk_frozen BK297.out 5
        have hfz20_6 := blk_frozen BK297.out 6
        go_wp2_with (first | ((with_reducible refine gate_builtin (b := .append) (xs := #[.tmp 37, .tmp 39]) rfl ?_); at_builtin; refine Kd.R_append k31 (w0 := w) w.heap.size rfl (.tmp 37) (.tmp 39) 48 31 (.agg #[(.int .i64 0), (.int .i64 0), (.int .i64 0), (.int .i64 0), (.int .i64 0), (.int .i64 0), (.string ⟨#[]⟩)]) 64 rfl Try.underlying48 info31 rfl (by decide) (by omega) (.slice Ao19 x7_1.length co19) x7_1 (⟨(⟨a0_0, a0_1⟩ : S29), (⟨a0_2, a0_3⟩ : S29), (a1.size : Int), a0_5, (⟨#[]⟩ : ByteArray)⟩ : S31) [.int .i64 a0_0, .int .i64 a0_1, .int .i64 a0_2, .int .i64 a0_3, .int .i64 (a1.size : Int), .int .i64 a0_5, .string (⟨#[]⟩ : ByteArray)] (fun k_ => k_ ≠ gb297) (fun _ => False) rfl (by first | (go_simp; done) | (go_simp; rfl)) ?aP (fun _ hk => hk.elim) ?aF ?aO ?aB ?aS ?aL ?_; (case aP => exact k31_mkM _ _ _ (⟨(⟨a0_0, a0_1⟩ : S29), (⟨a0_2, a0_3⟩ : S29), (a1.size : Int), a0_5, (⟨#[]⟩ : ByteArray)⟩ : S31)); (case aB => exact (by repeat (first | (with_reducible first | exact HB.out | apply below_alloc | apply pw_below_drewN | apply below_drew1 | refine below_set ?_ GE297.out) | exact HB.out))); (case aF => exact (fun k_ hk => Kd.freshB (g := gb297) (o := .cells #[.int .i64 a0_0, .int .i64 a0_1, .int .i64 a0_2, .int .i64 a0_3, .int .i64 (a1.size : Int), .int .i64 a0_5, .string (⟨#[]⟩ : ByteArray)] 31 (0, 0)) (by (with_reducible repeat (first | refine blk_drewN ?_ _ | refine blk_drew ?_ | refine blk_alloc ?_ _)); refine blk_put (cs := #[.int .i64 a0_0, .int .i64 a0_1, .int .i64 a0_2, .int .i64 a0_3, .int .i64 (a1.size : Int), .int .i64 a0_5, .string x298006_1]) ?_ 6 _ rfl; (with_reducible repeat (first | refine blk_drewN ?_ _ | refine blk_drew ?_ | refine blk_alloc ?_ _)); refine blk_put (cs := #[.int .i64 a0_0, .int .i64 a0_1, .int .i64 a0_2, .int .i64 a0_3, .int .i64 x298004_1, .int .i64 a0_5, .string x298006_1]) ?_ 4 _ rfl; (with_reducible repeat (first | refine blk_drewN ?_ _ | refine blk_drew ?_ | refine blk_alloc ?_ _)); exact BK297.out) k_ hk)); (case aO => exact (by (with_reducible repeat (first | apply Kd.R_alloc | apply Kd.R_drewN | apply Kd.R_drew)); exact Kd.R_mono (Kd.R_far (p := ⟨gb297, 6, none⟩) (Kd.R_far (p := ⟨gb297, 4, none⟩) (Kd.R_mono HO_7.out (fun k_ hk => (⟨hk, hk⟩ : _ ∧ k_ ≠ gb297))) (fun _ hk => hk.2) (.int .i64 (a1.size : Int))) (fun _ hk => hk.2) (.string (⟨#[]⟩ : ByteArray))) (fun _ hk => hk.1))); (case aS => exact (below_size (by repeat (first | (with_reducible first | exact HB.out | apply below_alloc | apply pw_below_drewN | apply below_drew1 | refine below_set ?_ GE297.out) | exact HB.out)))); (case aL => have := LMc16.out; omega); intro v305 w21 ho hb hg hat; rw [← Ny304.out] at ho; have n0_ := Aside0.mk (blk_grown (g := gb297) (o := .cells #[.int .i64 a0_0, .int .i64 a0_1, .int .i64 a0_2, .int .i64 a0_3, .int .i64 (a1.size : Int), .int .i64 a0_5, .string (⟨#[]⟩ : ByteArray)] 31 (0, 0)) (by (with_reducible repeat (first | refine blk_drewN ?_ _ | refine blk_drew ?_ | refine blk_alloc ?_ _)); refine blk_put (cs := #[.int .i64 a0_0, .int .i64 a0_1, .int .i64 a0_2, .int .i64 a0_3, .int .i64 (a1.size : Int), .int .i64 a0_5, .string x298006_1]) ?_ 6 _ rfl; (with_reducible repeat (first | refine blk_drewN ?_ _ | refine blk_drew ?_ | refine blk_alloc ?_ _)); refine blk_put (cs := #[.int .i64 a0_0, .int .i64 a0_1, .int .i64 a0_2, .int .i64 a0_3, .int .i64 x298004_1, .int .i64 a0_5, .string x298006_1]) ?_ 4 _ rfl; (with_reducible repeat (first | refine blk_drewN ?_ _ | refine blk_drew ?_ | refine blk_alloc ?_ _)); exact BK297.out) hg (Kd.R_away HO_7.out (fun _ hk => hk))); have n1_ := Aside0.mk (hb); have n2_ := Aside0.mk (ho); clear BK297; clear HB; clear HO_7; have BK297 := n0_; have HB := n1_; have HO306 := n2_; clear n0_ n1_ n2_; clear ho hb hg hat; obtain ⟨Ao22, co22, eo22⟩ := Kd.R_slice HO306.out; subst eo22; have q23 : ((y304.length : Int) : Int) ≤ ((y304.length : Int) : Int) := of_decide_eq_true (by first | (with_reducible assumption) | assumption); obtain ⟨i023, hi023, _, hsz23, _⟩ := info_parts info31; have hcut23 := cut_max (P := Try.prog) 48 31 .i64 Try.underlying48 hi023 Ao22 y304.length co22 (y304.length : Int) (of_decide_eq_true (by first | (with_reducible assumption) | assumption)) q23 (Kd.R_reads' HO306.out).2.1; have hr23 := Kd.R_take (m := ((y304.length : Int) : Int).toNat) HO306.out (by omega); have hy23 : y307.length = ((y304.length : Int) : Int).toNat := (by rw [Ny307.out, List.length_take]; omega); rw [← Ny307.out] at hr23; rw [← hy23] at hr23 hcut23; clear hy23 hi023 hsz23 HO306; have HO309 := Aside0.mk hr23; clear hr23; replace q23 := eq_true q23))
        go_ret
        exact ⟨_, by first | rfl | (simp [errW_none, errW_some] <;> rfl) | (simp [*, errW_none, errW_some] <;> rfl), (by have h_ := Kd.R_mono HO309.out (fun _ hk => trivial); exact KdRc_intro (by (with_reducible repeat (first | apply Kd.R_alloc | apply Kd.R_drewN | apply Kd.R_drew)); exact h_)), by repeat (first | (with_reducible first | exact HB.out | apply below_alloc | apply pw_below_drewN | apply below_drew1 | refine below_set ?_ GE297.out) | exact HB.out)⟩
       ·rw [if_neg c18] at H
        exact absurd H (by simp)
      ·rw [if_neg c17] at H
       exact absurd H (by simp)
     ·rw [if_neg c16] at H
      exact absurd H (by simp)
    ·rw [if_neg c15] at H
     have c15b0 : ((x7_1.length : Int) == 0) = false := beq_eq_false_iff_ne.mpr c15
     have c15b1 : ((x7_1.length : Int) != 0) = true := bne_iff_ne.mpr c15
     have c15b2 : ¬ (x7_1 = []) := fun h_ => c15 (by rw [h_]; rfl)
     by_cases c24 : 0 ≤ (x7_1.length : Int)
     ·rw [if_pos c24] at H
      have c24b0 := eq_true c24
      have c24b1 : decide (0 ≤ (x7_1.length : Int)) = true := decide_eq_true c24
      clear c24
      by_cases c25 : (x7_1.length : Int) ≤ (x7_1.length : Int)
      ·rw [if_pos c25] at H
       have c25b0 := eq_true c25
       have c25b1 : decide ((x7_1.length : Int) ≤ (x7_1.length : Int)) = true := decide_eq_true c25
       clear c25
       obtain ⟨y310, hy310⟩ : ∃ y_ : List (S31), y_ = (x7_1.take ((x7_1.length : Int) : Int).toNat) := ⟨_, rfl⟩
       replace H : (some y310) = some r := by first | (rw [hy310]; with_reducible exact H) | (have H2_ := (Option.bind_some _ _).symm.trans H; rw [hy310]; with_reducible exact H2_) | (have H2_ := (Option.bind_some _ _).symm.trans H; with_reducible exact H2_) | with_reducible exact H | (rw [hy310]; exact H) | exact H
       have Ny310 := Aside0.mk hy310
       clear hy310
       obtain rfl := Option.some.inj H
       obtain ⟨Ao26, co26, eo26⟩ := Kd.R_slice HO_7.out
       subst eo26
       have q27 : ((x7_1.length : Int) : Int) ≤ ((x7_1.length : Int) : Int) := of_decide_eq_true (by first | (with_reducible assumption) | assumption)
       obtain ⟨i027, hi027, _, hsz27, _⟩ := info_parts info31
       have hcut27 := cut_max (P := Try.prog) 48 31 .i64 Try.underlying48 hi027 Ao26 x7_1.length co26 (x7_1.length : Int) (of_decide_eq_true (by first | (with_reducible assumption) | assumption)) q27 (Kd.R_reads' HO_7.out).2.1
       have hr27 := Kd.R_take (m := ((x7_1.length : Int) : Int).toNat) HO_7.out (by omega)
       have hy27 : y310.length = ((x7_1.length : Int) : Int).toNat := (by rw [Ny310.out, List.length_take]; omega)
       rw [← Ny310.out] at hr27
       rw [← hy27] at hr27 hcut27
       clear hy27 hi027 hsz27 HO_7
       have HO312 := Aside0.mk hr27
       clear hr27
       replace q27 := eq_true q27
       go_wp2
       go_ret
       exact ⟨_, by first | rfl | (simp [errW_none, errW_some] <;> rfl) | (simp [*, errW_none, errW_some] <;> rfl), (by have h_ := Kd.R_mono HO312.out (fun _ hk => trivial); exact KdRc_intro (by (with_reducible repeat (first | apply Kd.R_alloc | apply Kd.R_drewN | apply Kd.R_drew)); exact h_)), by repeat (first | (with_reducible first | exact HB.out | apply below_alloc | apply pw_below_drewN | apply below_drew1 | refine below_set ?_ GE297.out) | exact HB.out)⟩
      ·rw [if_neg c25] at H
       exact absurd H (by simp)
     ·rw [if_neg c24] at H
      exact absurd H (by simp)

end Go.Proofs.Ytdfoelhpeeanlaa.QFnSegCut
