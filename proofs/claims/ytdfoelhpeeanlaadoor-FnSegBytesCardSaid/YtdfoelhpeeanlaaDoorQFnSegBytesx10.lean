-- Laid by a program of this repo (wip/tools/sprint.py): print.py's functions and walks; the contracts named 'BY HAND' are proved by hand.
import Derived.Test.YtdfoelhpeeanlaaDoorQFnSegBytesx8
import Derived.Test.YtdfoelhpeeanlaaDoorQFnSegBytesx6
import Derived.Test.YtdfoelhpeeanlaaDoorQFnSegBytesx2
import Derived.Test.YtdfoelhpeeanlaaDoorQFnSegBytesx0
import Derived.Test.YtdfoelhpeeanlaaDoorQFnSegBytesx1
import Derived.Test.YtdfoelhpeeanlaaDoorQFnSegBytesx3
import Derived.Test.YtdfoelhpeeanlaaDoorQFnSegBytesx4
import Derived.Test.YtdfoelhpeeanlaaDoorQFnSegBytesx5
import Derived.Test.YtdfoelhpeeanlaaDoorQFnSegBytesx7
import Derived.Test.YtdfoelhpeeanlaaDoorQFnSegBytesx9
namespace Go.Proofs.YtdfoelhpeeanlaaDoor.QFnSegBytes
open Go.RowKit Go.Proofs.YtdfoelhpeeanlaaDoorW.PrintWords Go.Proofs.YtdfoelhpeeanlaaDoorW.PrintLast Go.Proofs.YtdfoelhpeeanlaaDoorW.PrintMore
attribute [local go_sem] max2_int min2_int max_two min_two max_three min_three max_four min_four   -- for this text's walks alone
set_option linter.unusedVariables false
set_option linter.unusedSimpArgs false

attribute [local go_sem high] eqA26
/-! ### laws_FnSegBytes: function 4 -/
mutual
def laws_FnSegBytes.j0 : Nat → List Int → List Int → Bool → Option (Bool)
 | 0, _, _, _ => none
 | k + 1, x0, x1, x25 => if x25 = true then (some true) else ((spec_DrawSegBytes.f k x0).bind fun bt474 => ((spec_DrawSegSum.f k x1).bind fun t482 => ((impl_SegBytes.f k bt474.1 bt474.2.1 bt474.2.2.1 bt474.2.2.2.1 bt474.2.2.2.2.1 bt474.2.2.2.2.2.1 bt474.2.2.2.2.2.2).bind fun t485 => ((spec_SegBytes.f k bt474.1 bt474.2.1 bt474.2.2.1 bt474.2.2.2.1 bt474.2.2.2.2.1 bt474.2.2.2.2.2.1 bt474.2.2.2.2.2.2).bind fun t488 => ((laws_haBytes.f k t485 t488).bind fun t491 => (if t491 = true then ((impl_SegOk.f k bt474.1 bt474.2.1 bt474.2.2.1 bt474.2.2.2.1 bt474.2.2.2.2.1 bt474.2.2.2.2.2.1 bt474.2.2.2.2.2.2).bind fun t492 => ((spec_SegOk.f k bt474.1 bt474.2.1 bt474.2.2.1 bt474.2.2.2.1 bt474.2.2.2.2.1 bt474.2.2.2.2.2.1 bt474.2.2.2.2.2.2).bind fun t493 => (if (t492 != t493) = true then (laws_FnSegBytes.j1 k x0 t482 t485 true bt474.1 bt474.2.1 bt474.2.2.1 bt474.2.2.2.1 bt474.2.2.2.2.1 bt474.2.2.2.2.2.1 bt474.2.2.2.2.2.2) else ((impl_SegSum.f k t482).bind fun t494 => ((spec_SegSum.f k t482).bind fun t495 => (laws_FnSegBytes.j1 k x0 t482 t485 (t494 != t495) bt474.1 bt474.2.1 bt474.2.2.1 bt474.2.2.2.1 bt474.2.2.2.2.1 bt474.2.2.2.2.2.1 bt474.2.2.2.2.2.2)))))) else (laws_FnSegBytes.j1 k x0 t482 t485 true bt474.1 bt474.2.1 bt474.2.2.1 bt474.2.2.2.1 bt474.2.2.2.2.1 bt474.2.2.2.2.2.1 bt474.2.2.2.2.2.2)))))))
def laws_FnSegBytes.j1 : Nat → List Int → List Int → List Int → Bool → Int → Int → Int → Int → Int → Int → ByteArray → Option (Bool)
 | 0, _, _, _, _, _, _, _, _, _, _, _ => none
 | k + 1, x0, x6, x7, x50, x482000, x482001, x482002, x482003, x482004, x482005, x482006 => if x50 = true then (some false) else ((spec_SegOk.f k x482000 x482001 x482002 x482003 x482004 x482005 x482006).bind fun t496 => (if t496 = true then ((impl_SegRead.f k x7).bind fun bt498 => (if bt498.2.2.2.2.2.2.2 = true then (laws_FnSegBytes.j2 k x0 x6 x7 ((!(bt498.1 == x482000) || (!(bt498.2.1 == x482001))) || ((!(bt498.2.2.1 == x482002) || (!(bt498.2.2.2.1 == x482003))) || (!(bt498.2.2.2.2.1 == x482004) || (!(bt498.2.2.2.2.2.1 == x482005) || (!(bt498.2.2.2.2.2.2.1.toList == x482006.toList))))))) else (laws_FnSegBytes.j2 k x0 x6 x7 true))) else (if (x7.length : Int) = 0 then ((laws_haOk.f).bind fun t497 => (some t497)) else (some false))))
def laws_FnSegBytes.j2 : Nat → List Int → List Int → List Int → Bool → Option (Bool)
 | 0, _, _, _, _ => none
 | k + 1, x0, x6, x7, x71 => if x71 = true then (some false) else ((some (([] : List Int) : List Int)).bind fun y507 => (if y507.length + x7.length < 140737488355328 then ((some (y507 ++ x7 : List Int)).bind fun y510 => (if y510.length < 140737488355328 then ((impl_SegRead.f k (y510 ++ [0])).bind fun bt516 => (if 0 ≤ (wrap64 ((x7.length : Int) - 1)) then (if (wrap64 ((x7.length : Int) - 1)) ≤ (x7.length : Int) then ((impl_SegRead.f k (x7.take ((wrap64 ((x7.length : Int) - 1)) : Int).toNat)).bind fun bt528 => ((some (([] : List Int) : List Int)).bind fun y536 => (if y536.length + x7.length < 140737488355328 then ((some (y536 ++ x7 : List Int)).bind fun y539 => (if (y539.length : Int) = 0 then (none) else (if 0 ≤ (Int.tmod (wrap64 ((wrap64 ((x6.length : Int) * 37)) + (x0.length : Int))) (y539.length : Int)) then (if (Int.tmod (wrap64 ((wrap64 ((x6.length : Int) * 37)) + (x0.length : Int))) (y539.length : Int)) < (y539.length : Int) then ((impl_SegRead.f k (y539.set ((Int.tmod (wrap64 ((wrap64 ((x6.length : Int) * 37)) + (x0.length : Int))) (y539.length : Int)) : Int).toNat (Go.bits .xor .u8 (rd y539 (Int.tmod (wrap64 ((wrap64 ((x6.length : Int) * 37)) + (x0.length : Int))) (y539.length : Int))) ((wrap64 (1 + (Int.tmod (wrap64 ((wrap64 ((x6.length : Int) * 37)) + (x0.length : Int))) 255))) % 256)))).bind fun bt544 => (if bt516.2.2.2.2.2.2.2 = true then (some false) else (if bt528.2.2.2.2.2.2.2 = true then (some false) else (if bt544.2.2.2.2.2.2.2 = true then (some false) else (some (decide ((x7.length : Int) ≤ 27))))))) else (none)) else (none)))) else (none)))) else (none)) else (none))) else (none))) else (none)))
end
def laws_FnSegBytes.f (k : Nat) (l0 : List Int) (l1 : List Int) : Option (Bool) := if (l0.length : Int) > 1048576 then (laws_FnSegBytes.j0 k l0 l1 true) else (laws_FnSegBytes.j0 k l0 l1 (decide ((l1.length : Int) > 1048576)))
theorem laws_FnSegBytes.mono_l : ∀ k, (∀ y0 y1 y2, LeO (laws_FnSegBytes.j0 k y0 y1 y2) (laws_FnSegBytes.j0 (k + 1) y0 y1 y2)) ∧ (∀ y0 y1 y2 y3 y4 y5 y6 y7 y8 y9 y10, LeO (laws_FnSegBytes.j1 k y0 y1 y2 y3 y4 y5 y6 y7 y8 y9 y10) (laws_FnSegBytes.j1 (k + 1) y0 y1 y2 y3 y4 y5 y6 y7 y8 y9 y10)) ∧ (∀ y0 y1 y2 y3, LeO (laws_FnSegBytes.j2 k y0 y1 y2 y3) (laws_FnSegBytes.j2 (k + 1) y0 y1 y2 y3))
 | 0 => ⟨fun _ _ _ r h => by simp [laws_FnSegBytes.j0] at h, fun _ _ _ _ _ _ _ _ _ _ _ r h => by simp [laws_FnSegBytes.j1] at h, fun _ _ _ _ r h => by simp [laws_FnSegBytes.j2] at h⟩
 | k + 1 => by
  obtain ⟨ih0, ih1, ih2⟩ := laws_FnSegBytes.mono_l k
  refine ⟨?_, ?_, ?_⟩
  ·intro y0 y1 y2
   unfold laws_FnSegBytes.j0
   repeat' first
   | (with_reducible exact ih0 _ _ _)
   | (with_reducible exact ih1 _ _ _ _ _ _ _ _ _ _ _)
   | (with_reducible exact ih2 _ _ _ _)
   | (with_reducible exact impl_SegBytes.mono _ _ _ _ _ _ _ _)
   | (with_reducible exact impl_SegOk.mono _ _ _ _ _ _ _ _)
   | (with_reducible exact impl_SegRead.mono _ _)
   | (with_reducible exact impl_SegSum.mono _ _)
   | (with_reducible exact laws_haBytes.mono _ _ _)
   | (with_reducible exact spec_DrawSegBytes.mono _ _)
   | (with_reducible exact spec_DrawSegSum.mono _ _)
   | (with_reducible exact spec_SegBytes.mono _ _ _ _ _ _ _ _)
   | (with_reducible exact spec_SegOk.mono _ _ _ _ _ _ _ _)
   | (with_reducible exact spec_SegSum.mono _ _)
   | (with_reducible exact LeO.refl _)
   | (with_reducible exact LeO.none _)
   | (with_reducible refine LeO.ite ?_ ?_)
   | (with_reducible refine LeO.bind ?_ (fun _ => ?_))
   | exact ih0 _ _ _
   | exact ih1 _ _ _ _ _ _ _ _ _ _ _
   | exact ih2 _ _ _ _
   | exact impl_SegBytes.mono _ _ _ _ _ _ _ _
   | exact impl_SegOk.mono _ _ _ _ _ _ _ _
   | exact impl_SegRead.mono _ _
   | exact impl_SegSum.mono _ _
   | exact laws_haBytes.mono _ _ _
   | exact spec_DrawSegBytes.mono _ _
   | exact spec_DrawSegSum.mono _ _
   | exact spec_SegBytes.mono _ _ _ _ _ _ _ _
   | exact spec_SegOk.mono _ _ _ _ _ _ _ _
   | exact spec_SegSum.mono _ _
   | exact LeO.none _
   | refine LeO.ite ?_ ?_
   | refine LeO.bind ?_ (fun _ => ?_)
  ·intro y0 y1 y2 y3 y4 y5 y6 y7 y8 y9 y10
   unfold laws_FnSegBytes.j1
   repeat' first
   | (with_reducible exact ih0 _ _ _)
   | (with_reducible exact ih1 _ _ _ _ _ _ _ _ _ _ _)
   | (with_reducible exact ih2 _ _ _ _)
   | (with_reducible exact impl_SegBytes.mono _ _ _ _ _ _ _ _)
   | (with_reducible exact impl_SegOk.mono _ _ _ _ _ _ _ _)
   | (with_reducible exact impl_SegRead.mono _ _)
   | (with_reducible exact impl_SegSum.mono _ _)
   | (with_reducible exact laws_haBytes.mono _ _ _)
   | (with_reducible exact spec_DrawSegBytes.mono _ _)
   | (with_reducible exact spec_DrawSegSum.mono _ _)
   | (with_reducible exact spec_SegBytes.mono _ _ _ _ _ _ _ _)
   | (with_reducible exact spec_SegOk.mono _ _ _ _ _ _ _ _)
   | (with_reducible exact spec_SegSum.mono _ _)
   | (with_reducible exact LeO.refl _)
   | (with_reducible exact LeO.none _)
   | (with_reducible refine LeO.ite ?_ ?_)
   | (with_reducible refine LeO.bind ?_ (fun _ => ?_))
   | exact ih0 _ _ _
   | exact ih1 _ _ _ _ _ _ _ _ _ _ _
   | exact ih2 _ _ _ _
   | exact impl_SegBytes.mono _ _ _ _ _ _ _ _
   | exact impl_SegOk.mono _ _ _ _ _ _ _ _
   | exact impl_SegRead.mono _ _
   | exact impl_SegSum.mono _ _
   | exact laws_haBytes.mono _ _ _
   | exact spec_DrawSegBytes.mono _ _
   | exact spec_DrawSegSum.mono _ _
   | exact spec_SegBytes.mono _ _ _ _ _ _ _ _
   | exact spec_SegOk.mono _ _ _ _ _ _ _ _
   | exact spec_SegSum.mono _ _
   | exact LeO.none _
   | refine LeO.ite ?_ ?_
   | refine LeO.bind ?_ (fun _ => ?_)
  ·intro y0 y1 y2 y3
   unfold laws_FnSegBytes.j2
   repeat' first
   | (with_reducible exact ih0 _ _ _)
   | (with_reducible exact ih1 _ _ _ _ _ _ _ _ _ _ _)
   | (with_reducible exact ih2 _ _ _ _)
   | (with_reducible exact impl_SegBytes.mono _ _ _ _ _ _ _ _)
   | (with_reducible exact impl_SegOk.mono _ _ _ _ _ _ _ _)
   | (with_reducible exact impl_SegRead.mono _ _)
   | (with_reducible exact impl_SegSum.mono _ _)
   | (with_reducible exact laws_haBytes.mono _ _ _)
   | (with_reducible exact spec_DrawSegBytes.mono _ _)
   | (with_reducible exact spec_DrawSegSum.mono _ _)
   | (with_reducible exact spec_SegBytes.mono _ _ _ _ _ _ _ _)
   | (with_reducible exact spec_SegOk.mono _ _ _ _ _ _ _ _)
   | (with_reducible exact spec_SegSum.mono _ _)
   | (with_reducible exact LeO.refl _)
   | (with_reducible exact LeO.none _)
   | (with_reducible refine LeO.ite ?_ ?_)
   | (with_reducible refine LeO.bind ?_ (fun _ => ?_))
   | exact ih0 _ _ _
   | exact ih1 _ _ _ _ _ _ _ _ _ _ _
   | exact ih2 _ _ _ _
   | exact impl_SegBytes.mono _ _ _ _ _ _ _ _
   | exact impl_SegOk.mono _ _ _ _ _ _ _ _
   | exact impl_SegRead.mono _ _
   | exact impl_SegSum.mono _ _
   | exact laws_haBytes.mono _ _ _
   | exact spec_DrawSegBytes.mono _ _
   | exact spec_DrawSegSum.mono _ _
   | exact spec_SegBytes.mono _ _ _ _ _ _ _ _
   | exact spec_SegOk.mono _ _ _ _ _ _ _ _
   | exact spec_SegSum.mono _ _
   | exact LeO.none _
   | refine LeO.ite ?_ ?_
   | refine LeO.bind ?_ (fun _ => ?_)
theorem laws_FnSegBytes.mono : ∀ a0 a1 k, LeO (laws_FnSegBytes.f k a0 a1) (laws_FnSegBytes.f (k + 1) a0 a1) := by
 intro a0 a1 k
 obtain ⟨ih0, ih1, ih2⟩ := laws_FnSegBytes.mono_l k
 unfold laws_FnSegBytes.f
 repeat' first
   | (with_reducible exact ih0 _ _ _)
   | (with_reducible exact ih1 _ _ _ _ _ _ _ _ _ _ _)
   | (with_reducible exact ih2 _ _ _ _)
   | (with_reducible exact impl_SegBytes.mono _ _ _ _ _ _ _ _)
   | (with_reducible exact impl_SegOk.mono _ _ _ _ _ _ _ _)
   | (with_reducible exact impl_SegRead.mono _ _)
   | (with_reducible exact impl_SegSum.mono _ _)
   | (with_reducible exact laws_haBytes.mono _ _ _)
   | (with_reducible exact spec_DrawSegBytes.mono _ _)
   | (with_reducible exact spec_DrawSegSum.mono _ _)
   | (with_reducible exact spec_SegBytes.mono _ _ _ _ _ _ _ _)
   | (with_reducible exact spec_SegOk.mono _ _ _ _ _ _ _ _)
   | (with_reducible exact spec_SegSum.mono _ _)
   | (with_reducible exact LeO.refl _)
   | (with_reducible exact LeO.none _)
   | (with_reducible refine LeO.ite ?_ ?_)
   | (with_reducible refine LeO.bind ?_ (fun _ => ?_))
   | exact ih0 _ _ _
   | exact ih1 _ _ _ _ _ _ _ _ _ _ _
   | exact ih2 _ _ _ _
   | exact impl_SegBytes.mono _ _ _ _ _ _ _ _
   | exact impl_SegOk.mono _ _ _ _ _ _ _ _
   | exact impl_SegRead.mono _ _
   | exact impl_SegSum.mono _ _
   | exact laws_haBytes.mono _ _ _
   | exact spec_DrawSegBytes.mono _ _
   | exact spec_DrawSegSum.mono _ _
   | exact spec_SegBytes.mono _ _ _ _ _ _ _ _
   | exact spec_SegOk.mono _ _ _ _ _ _ _ _
   | exact spec_SegSum.mono _ _
   | exact LeO.none _
   | refine LeO.ite ?_ ?_
   | refine LeO.bind ?_ (fun _ => ?_)
def laws_FnSegBytes.T6 : Bool × List (List Nat × List Nat) := (true, [([], []), ([], []), ([1], [1]), ([0, 2, 2], [0, 2]), ([3], [3]), ([4, 3], [4]), ([5], [5]), ([6, 5, 5], [5, 6]), ([5], [5]), ([8, 7, 5], [5, 8]), ([7, 9, 5], [5, 7, 9]), ([5, 10], [5, 10]), ([11, 9], [11]), ([12], [12]), ([13, 12, 12], [12, 13]), ([12], [12]), ([15, 14, 12], [12, 15]), ([14, 16, 12], [12, 14, 16]), ([12, 17], [12, 17])])
def laws_FnSegBytes.B6 : List Nat := [0, 0, 2, 7, 15, 31, 63, 127, 63, 511, 1023, 2047, 4095, 8191, 16383, 8191, 65535, 131071, 262143]
theorem laws_FnSegBytes.tab6 : rtab .any (opsOf Tryd.f4 6) = laws_FnSegBytes.T6 := by kernel_rfl
theorem laws_FnSegBytes.bits6 : waitsOk laws_FnSegBytes.T6.2 laws_FnSegBytes.B6 = true := by kernel_rfl
def laws_FnSegBytes.T17 : Bool × List (List Nat × List Nat) := (true, [([], []), ([], []), ([], []), ([2], [2]), ([1, 3], [1, 3]), ([], []), ([], []), ([], []), ([7], [7]), ([6, 8], [6, 8]), ([5, 9], [5, 9]), ([10], [10]), ([], []), ([12], [12]), ([13], [13]), ([14], [14]), ([11, 15], [11, 15]), ([0, 4, 0, 1, 2, 3, 4, 5, 6, 7, 8, 9, 10, 11, 12, 13, 14, 15, 16], [0, 4]), ([17, 16, 0, 1, 2, 3, 4, 5, 6, 7, 8, 9, 10, 11, 12, 13, 14, 15, 16], [16, 17])])
def laws_FnSegBytes.B17 : List Nat := [0, 0, 0, 4, 14, 0, 0, 0, 128, 448, 992, 2016, 0, 4096, 12288, 28672, 65504, 131071, 262143]
theorem laws_FnSegBytes.tab17 : rtab .any (opsOf Tryd.f4 17) = laws_FnSegBytes.T17 := by kernel_rfl
theorem laws_FnSegBytes.bits17 : waitsOk laws_FnSegBytes.T17.2 laws_FnSegBytes.B17 = true := by kernel_rfl
set_option maxHeartbeats 8000000 in
set_option maxRecDepth 100000 in
theorem laws_FnSegBytes.calls (k : Nat) (A0 : Option Addr) (c0 : Nat) (l0 : List Int) (A1 : Option Addr) (c1 : Nat) (l1 : List Int) (r : Bool) (hr_ : r = true) (w : World) (hr0 : Kd.C (Kd.int .u8) w A0 l0.length l0) (hc0 : l0.length ≤ c0) (hr1 : Kd.C (Kd.int .u8) w A1 l1.length l1) (hc1 : l1.length ≤ c1) (h : laws_FnSegBytes.f k l0 l1 = some r) (hL_ : Ends.LShort w) :
  Calls Tryd.prog 4 #[.slice A0 l0.length c0, .slice A1 l1.length c1] w fun e w' => e = .returned (.bool r) ∧ Below w.heap.size w w' := by
 have HL_ := Aside0.mk hL_
 clear hL_
 have hu26 := Tryd.underlying26
 have HR0 := Aside0.mk hr0
 have HC0 := Aside0.mk hc0
 clear hr0 hc0
 have HR1 := Aside0.mk hr1
 have HC1 := Aside0.mk hc1
 clear hr1 hc1
 have HR_ := Aside0.mk hr_
 clear hr_
 have HB := Aside0.mk (Below.refl w.heap.size w)
 have H : (if (l0.length : Int) > 1048576 then (laws_FnSegBytes.j0 k l0 l1 true) else (laws_FnSegBytes.j0 k l0 l1 (decide ((l1.length : Int) > 1048576)))) = some r := h
 clear h
 have HC3 := Aside0.mk H
 clear H
 go_enter Tryd.func4, Tryd.ntmps4
 go_upto_region 1 with (fail)
 go_cut [25] (fun v25 wc => ∃ (kq : Nat) (x25_2 : Bool), v25 = .bool x25_2 ∧ Aside0 (laws_FnSegBytes.j0 kq l0 l1 x25_2 = some r) ∧ Aside0 (kq ≤ k) ∧ Aside0 (Below w.heap.size w wc))
 case first =>
  have H := HC3.out
  clear HC3
  by_cases c4 : (l0.length : Int) > 1048576
  ·rw [if_pos c4] at H
   have c4b0 : decide (1048576 < (l0.length : Int)) = true := decide_eq_true c4
   have c4b1 : decide (1048576 < l0.length) = true := decide_eq_true (by omega)
   clear c4
   (first | rw [c4b0] | (simp only [i64_w, i32_w]; rw [c4b0]) | skip)
   have H' := Aside0.mk H
   clear H
   go_wp2
   go_meet
   case rel => exact ⟨_, (true), Z1, H', ⟨by first | omega | exact Nat.le_refl _⟩, ⟨by repeat (first | (with_reducible first | exact HB.out | apply below_alloc | apply pw_below_drewN | apply below_drew1) | exact HB.out)⟩⟩
  ·rw [if_neg c4] at H
   have c4b0 : decide (1048576 < (l0.length : Int)) = false := decide_eq_false c4
   have c4b1 : decide (1048576 < l0.length) = false := decide_eq_false (by omega)
   clear c4
   (first | rw [c4b0] | (simp only [i64_w, i32_w]; rw [c4b0]) | skip)
   have H' := Aside0.mk H
   clear H
   go_wp2
   go_meet
   case rel => exact ⟨_, (decide ((l1.length : Int) > 1048576)), Z1, H', ⟨by first | omega | exact Nat.le_refl _⟩, ⟨by repeat (first | (with_reducible first | exact HB.out | apply below_alloc | apply pw_below_drewN | apply below_drew1) | exact HB.out)⟩⟩
 case rest =>
  clear HC3
  try clear c1
  try clear p2
  try clear c4
  try clear c4b0
  try clear c4b1
  obtain ⟨kq, x25_2, rfl, HA, HJ2, HB⟩ := hcut
  cases kq with
  | zero => exact absurd HA.out (by simp [laws_FnSegBytes.j0])
  | succ kj2 =>
   have H := HA.out
   clear HA
   simp only [laws_FnSegBytes.j0] at H
   by_cases c5 : x25_2 = true
   ·subst c5
    have H1 : (some true) = some r := by rw [if_pos rfl] at H; exact H
    clear H
    have H := H1
    clear H1
    obtain rfl := Option.some.inj H
    go_wp2
    go_ret
    exact ⟨by first | rfl | (simp [errW_none, errW_some] <;> rfl) | (simp [*, errW_none, errW_some] <;> rfl), by repeat (first | (with_reducible first | exact HB.out | apply below_alloc | apply pw_below_drewN | apply below_drew1) | exact HB.out)⟩
   ·replace c5 := Bool.eq_false_iff.mpr c5
    subst c5
    have H1 : ((spec_DrawSegBytes.f kj2 l0).bind fun bt474 => ((spec_DrawSegSum.f kj2 l1).bind fun t482 => ((impl_SegBytes.f kj2 bt474.1 bt474.2.1 bt474.2.2.1 bt474.2.2.2.1 bt474.2.2.2.2.1 bt474.2.2.2.2.2.1 bt474.2.2.2.2.2.2).bind fun t485 => ((spec_SegBytes.f kj2 bt474.1 bt474.2.1 bt474.2.2.1 bt474.2.2.2.1 bt474.2.2.2.2.1 bt474.2.2.2.2.2.1 bt474.2.2.2.2.2.2).bind fun t488 => ((laws_haBytes.f kj2 t485 t488).bind fun t491 => (if t491 = true then ((impl_SegOk.f kj2 bt474.1 bt474.2.1 bt474.2.2.1 bt474.2.2.2.1 bt474.2.2.2.2.1 bt474.2.2.2.2.2.1 bt474.2.2.2.2.2.2).bind fun t492 => ((spec_SegOk.f kj2 bt474.1 bt474.2.1 bt474.2.2.1 bt474.2.2.2.1 bt474.2.2.2.2.1 bt474.2.2.2.2.2.1 bt474.2.2.2.2.2.2).bind fun t493 => (if (t492 != t493) = true then (laws_FnSegBytes.j1 kj2 l0 t482 t485 true bt474.1 bt474.2.1 bt474.2.2.1 bt474.2.2.2.1 bt474.2.2.2.2.1 bt474.2.2.2.2.2.1 bt474.2.2.2.2.2.2) else ((impl_SegSum.f kj2 t482).bind fun t494 => ((spec_SegSum.f kj2 t482).bind fun t495 => (laws_FnSegBytes.j1 kj2 l0 t482 t485 (t494 != t495) bt474.1 bt474.2.1 bt474.2.2.1 bt474.2.2.2.1 bt474.2.2.2.2.1 bt474.2.2.2.2.2.1 bt474.2.2.2.2.2.2)))))) else (laws_FnSegBytes.j1 kj2 l0 t482 t485 true bt474.1 bt474.2.1 bt474.2.2.1 bt474.2.2.2.1 bt474.2.2.2.2.1 bt474.2.2.2.2.2.1 bt474.2.2.2.2.2.2))))))) = some r := by rw [if_neg (show ¬ (false = true) by decide)] at H; exact H
    clear H
    have H := H1
    clear H1
    replace H := Option.bind_eq_some_iff.mp H
    obtain ⟨⟨t474, t475, t476, t477, t478, t479, t480⟩, A60, H⟩ := H
    replace H : ((spec_DrawSegSum.f kj2 l1).bind fun t482 => ((impl_SegBytes.f kj2 t474 t475 t476 t477 t478 t479 t480).bind fun t485 => ((spec_SegBytes.f kj2 t474 t475 t476 t477 t478 t479 t480).bind fun t488 => ((laws_haBytes.f kj2 t485 t488).bind fun t491 => (if t491 = true then ((impl_SegOk.f kj2 t474 t475 t476 t477 t478 t479 t480).bind fun t492 => ((spec_SegOk.f kj2 t474 t475 t476 t477 t478 t479 t480).bind fun t493 => (if (t492 != t493) = true then (laws_FnSegBytes.j1 kj2 l0 t482 t485 true t474 t475 t476 t477 t478 t479 t480) else ((impl_SegSum.f kj2 t482).bind fun t494 => ((spec_SegSum.f kj2 t482).bind fun t495 => (laws_FnSegBytes.j1 kj2 l0 t482 t485 (t494 != t495) t474 t475 t476 t477 t478 t479 t480)))))) else (laws_FnSegBytes.j1 kj2 l0 t482 t485 true t474 t475 t476 t477 t478 t479 t480)))))) = some r := H
    have A6 := Aside0.mk A60
    clear A60
    replace H := Option.bind_eq_some_iff.mp H
    obtain ⟨t482, A70, H⟩ := H
    replace H : ((impl_SegBytes.f kj2 t474 t475 t476 t477 t478 t479 t480).bind fun t485 => ((spec_SegBytes.f kj2 t474 t475 t476 t477 t478 t479 t480).bind fun t488 => ((laws_haBytes.f kj2 t485 t488).bind fun t491 => (if t491 = true then ((impl_SegOk.f kj2 t474 t475 t476 t477 t478 t479 t480).bind fun t492 => ((spec_SegOk.f kj2 t474 t475 t476 t477 t478 t479 t480).bind fun t493 => (if (t492 != t493) = true then (laws_FnSegBytes.j1 kj2 l0 t482 t485 true t474 t475 t476 t477 t478 t479 t480) else ((impl_SegSum.f kj2 t482).bind fun t494 => ((spec_SegSum.f kj2 t482).bind fun t495 => (laws_FnSegBytes.j1 kj2 l0 t482 t485 (t494 != t495) t474 t475 t476 t477 t478 t479 t480)))))) else (laws_FnSegBytes.j1 kj2 l0 t482 t485 true t474 t475 t476 t477 t478 t479 t480))))) = some r := H
    have A7 := Aside0.mk A70
    clear A70
    replace H := Option.bind_eq_some_iff.mp H
    obtain ⟨t485, A80, H⟩ := H
    replace H : ((spec_SegBytes.f kj2 t474 t475 t476 t477 t478 t479 t480).bind fun t488 => ((laws_haBytes.f kj2 t485 t488).bind fun t491 => (if t491 = true then ((impl_SegOk.f kj2 t474 t475 t476 t477 t478 t479 t480).bind fun t492 => ((spec_SegOk.f kj2 t474 t475 t476 t477 t478 t479 t480).bind fun t493 => (if (t492 != t493) = true then (laws_FnSegBytes.j1 kj2 l0 t482 t485 true t474 t475 t476 t477 t478 t479 t480) else ((impl_SegSum.f kj2 t482).bind fun t494 => ((spec_SegSum.f kj2 t482).bind fun t495 => (laws_FnSegBytes.j1 kj2 l0 t482 t485 (t494 != t495) t474 t475 t476 t477 t478 t479 t480)))))) else (laws_FnSegBytes.j1 kj2 l0 t482 t485 true t474 t475 t476 t477 t478 t479 t480)))) = some r := H
    have A8 := Aside0.mk A80
    clear A80
    have HC9 := Aside0.mk H
    clear H
    go_upto_region 6 with (first | ((with_reducible refine gate_callee (f := 11) rfl ?_); refine goesL_ (some 27) rfl rfl Tryd.func11 (by kernel_rfl) rfl #[.slice A0 l0.length c0] rfl Z44 ?_; (with_reducible refine (spec_DrawSegBytes.calls kj2 _ _ l0 t474 t475 t476 t477 t478 t479 t480 _ ?side1 ?side2 A6.out).mono ?_); (case side1 => exact Z60); (case side2 => exact HC0.out); rintro e w10 ⟨rfl, hb⟩; refine ⟨_, rfl, ?_⟩; have n0_ := Aside0.mk (below_step Z42 hb); clear HB; have HB := n0_; clear n0_; (try clear hb)) | ((with_reducible refine gate_dst (N := 5) rfl ?_); (try (refine gate_guard (by rfl) ?_; dsimp only)); refine box_event ?hg (N := 5) ?hd (cs := #[.int .i64 0, .int .i64 0, .int .i64 0, .int .i64 0, .int .i64 0, .int .i64 0, .string (⟨#[]⟩ : ByteArray)]) (t := 26) ?hr ?_; (case hd => rfl); (case hg => rfl); (case hr => first | (go_simp; done) | (go_simp; rfl)); intro gb481 hg w11 hbox hb; have n0_ := Aside0.mk (below_step Z42 hb); have n1_ := Aside0.mk (hbox); have n2_ := Aside0.mk ((Z104 : w.heap.size ≤ gb481)); have n3_ := Aside0.mk ((Z104 : w.heap.size ≤ gb481)); clear HB; have HB := n0_; have BK481 := n1_; have GW481 := n2_; have GE481 := n3_; clear n0_ n1_ n2_ n3_; clear hb hbox hg; have hcz12_0 : w11.cell? ⟨gb481, 0, none⟩ = some (.int .i64 0) := (blk_cell BK481.out 0).trans rfl; have hcz12_1 : w11.cell? ⟨gb481, 1, none⟩ = some (.int .i64 0) := (blk_cell BK481.out 1).trans rfl; have hcz12_2 : w11.cell? ⟨gb481, 2, none⟩ = some (.int .i64 0) := (blk_cell BK481.out 2).trans rfl; have hcz12_3 : w11.cell? ⟨gb481, 3, none⟩ = some (.int .i64 0) := (blk_cell BK481.out 3).trans rfl; have hcz12_4 : w11.cell? ⟨gb481, 4, none⟩ = some (.int .i64 0) := (blk_cell BK481.out 4).trans rfl; have hcz12_5 : w11.cell? ⟨gb481, 5, none⟩ = some (.int .i64 0) := (blk_cell BK481.out 5).trans rfl; have hcz12_6 : w11.cell? ⟨gb481, 6, none⟩ = some (.string (⟨#[]⟩ : ByteArray)) := (blk_cell BK481.out 6).trans rfl; have hfz12_0 := blk_frozen BK481.out 0; have hfz12_1 := blk_frozen BK481.out 1; have hfz12_2 := blk_frozen BK481.out 2; have hfz12_3 := blk_frozen BK481.out 3; have hfz12_4 := blk_frozen BK481.out 4; have hfz12_5 := blk_frozen BK481.out 5; have hfz12_6 := blk_frozen BK481.out 6) | ((with_reducible refine gate_callee (f := 12) rfl ?_); refine goesL_ (some 29) rfl rfl Tryd.func12 (by kernel_rfl) rfl #[.slice A1 l1.length c1] rfl Z44 ?_; (with_reducible refine (spec_DrawSegSum.calls kj2 _ _ l1 t482 _ ?side1 ?side2 A7.out).mono ?_); (case side1 => exact Kd.C_below HR1.out Z58); (case side2 => exact HC1.out); rintro e w13 ⟨v483, rfl, ho0, hb⟩; refine ⟨_, rfl, ?_⟩; have n0_ := Aside0.mk (Kd.R_lower ho0 (below_size Z58)); have n1_ := Aside0.mk (blk_below (g := gb481) (o := .cells #[.int .i64 t474, .int .i64 t475, .int .i64 t476, .int .i64 t477, .int .i64 t478, .int .i64 t479, .string t480] 26 (0, 0)) (by (with_reducible repeat (first | refine blk_drewN ?_ _ | refine blk_drew ?_ | refine blk_alloc ?_ _)); refine blk_put (cs := #[.int .i64 t474, .int .i64 t475, .int .i64 t476, .int .i64 t477, .int .i64 t478, .int .i64 t479, .string (⟨#[]⟩ : ByteArray)]) ?_ 6 _ rfl; (with_reducible repeat (first | refine blk_drewN ?_ _ | refine blk_drew ?_ | refine blk_alloc ?_ _)); refine blk_put (cs := #[.int .i64 t474, .int .i64 t475, .int .i64 t476, .int .i64 t477, .int .i64 t478, .int .i64 0, .string (⟨#[]⟩ : ByteArray)]) ?_ 5 _ rfl; (with_reducible repeat (first | refine blk_drewN ?_ _ | refine blk_drew ?_ | refine blk_alloc ?_ _)); refine blk_put (cs := #[.int .i64 t474, .int .i64 t475, .int .i64 t476, .int .i64 t477, .int .i64 0, .int .i64 0, .string (⟨#[]⟩ : ByteArray)]) ?_ 4 _ rfl; (with_reducible repeat (first | refine blk_drewN ?_ _ | refine blk_drew ?_ | refine blk_alloc ?_ _)); refine blk_put (cs := #[.int .i64 t474, .int .i64 t475, .int .i64 t476, .int .i64 0, .int .i64 0, .int .i64 0, .string (⟨#[]⟩ : ByteArray)]) ?_ 3 _ rfl; (with_reducible repeat (first | refine blk_drewN ?_ _ | refine blk_drew ?_ | refine blk_alloc ?_ _)); refine blk_put (cs := #[.int .i64 t474, .int .i64 t475, .int .i64 0, .int .i64 0, .int .i64 0, .int .i64 0, .string (⟨#[]⟩ : ByteArray)]) ?_ 2 _ rfl; (with_reducible repeat (first | refine blk_drewN ?_ _ | refine blk_drew ?_ | refine blk_alloc ?_ _)); refine blk_put (cs := #[.int .i64 t474, .int .i64 0, .int .i64 0, .int .i64 0, .int .i64 0, .int .i64 0, .string (⟨#[]⟩ : ByteArray)]) ?_ 1 _ rfl; (with_reducible repeat (first | refine blk_drewN ?_ _ | refine blk_drew ?_ | refine blk_alloc ?_ _)); refine blk_put (cs := #[.int .i64 0, .int .i64 0, .int .i64 0, .int .i64 0, .int .i64 0, .int .i64 0, .string (⟨#[]⟩ : ByteArray)]) ?_ 0 _ rfl; (with_reducible repeat (first | refine blk_drewN ?_ _ | refine blk_drew ?_ | refine blk_alloc ?_ _)); exact BK481.out) hb); have n2_ := Aside0.mk (below_step Z58 hb); clear BK481; clear HB; have HO484 := n0_; have BK481 := n1_; have HB := n2_; clear n0_ n1_ n2_; (try clear hb); (try clear ho0); have hcz14_0 : w13.cell? ⟨gb481, 0, none⟩ = some (.int .i64 t474) := (blk_cell BK481.out 0).trans rfl; have hcz14_1 : w13.cell? ⟨gb481, 1, none⟩ = some (.int .i64 t475) := (blk_cell BK481.out 1).trans rfl; have hcz14_2 : w13.cell? ⟨gb481, 2, none⟩ = some (.int .i64 t476) := (blk_cell BK481.out 2).trans rfl; have hcz14_3 : w13.cell? ⟨gb481, 3, none⟩ = some (.int .i64 t477) := (blk_cell BK481.out 3).trans rfl; have hcz14_4 : w13.cell? ⟨gb481, 4, none⟩ = some (.int .i64 t478) := (blk_cell BK481.out 4).trans rfl; have hcz14_5 : w13.cell? ⟨gb481, 5, none⟩ = some (.int .i64 t479) := (blk_cell BK481.out 5).trans rfl; have hcz14_6 : w13.cell? ⟨gb481, 6, none⟩ = some (.string t480) := (blk_cell BK481.out 6).trans rfl; have hfz14_0 := blk_frozen BK481.out 0; have hfz14_1 := blk_frozen BK481.out 1; have hfz14_2 := blk_frozen BK481.out 2; have hfz14_3 := blk_frozen BK481.out 3; have hfz14_4 := blk_frozen BK481.out 4; have hfz14_5 := blk_frozen BK481.out 5; have hfz14_6 := blk_frozen BK481.out 6) | ((with_reducible refine gate_callee (f := 13) rfl ?_); refine goesL_ (some 31) rfl rfl Tryd.func13 (by kernel_rfl) rfl #[.agg #[.int .i64 t474, .int .i64 t475, .int .i64 t476, .int .i64 t477, .int .i64 t478, .int .i64 t479, .string t480]] rfl Z44 ?_; (with_reducible refine (impl_SegBytes.calls kj2 t474 t475 t476 t477 t478 t479 t480 t485 _ A8.out).mono ?_); rintro e w15 ⟨v486, rfl, ho0, hb⟩; refine ⟨_, rfl, ?_⟩; have n0_ := Aside0.mk (Kd.R_elder' Z19 (Kd.R_base ho0) hb); have n1_ := Aside0.mk (Kd.R_lower (Kd.R_new' ho0 (Kd.R_lt Z19)) (below_size Z58)); have n2_ := Aside0.mk (blk_below (g := gb481) (o := .cells #[.int .i64 t474, .int .i64 t475, .int .i64 t476, .int .i64 t477, .int .i64 t478, .int .i64 t479, .string t480] 26 (0, 0)) Z39 hb); have n3_ := Aside0.mk (below_step Z58 hb); clear HO484; clear BK481; clear HB; have HO484 := n0_; have HO487 := n1_; have BK481 := n2_; have HB := n3_; clear n0_ n1_ n2_ n3_; (try clear hb); (try clear ho0)))
    (try simp only [Act.put, List.setIfInBounds_toArray, List.set_cons_zero, List.set_cons_succ])
    go_cut [50] (fun v50 wc => ∃ (kq : Nat) (x50_8 : Bool), v50 = .bool x50_8 ∧ Aside0 (laws_FnSegBytes.j1 kq l0 t482 t485 x50_8 t474 t475 t476 t477 t478 t479 t480 = some r) ∧ Aside0 (kq ≤ kj2) ∧ Aside0 (Kd.R (Kd.int .u8) 5 wc w.heap.size (fun k_ => some k_ ≠ (v486 : Value).ownBlock) v483 t482) ∧ Aside0 (Kd.R (Kd.int .u8) 5 wc w.heap.size (fun k_ => some k_ ≠ (v483 : Value).ownBlock) v486 t485) ∧ Aside0 (wc.heap[gb481]? = some (.cells #[.int .i64 t474, .int .i64 t475, .int .i64 t476, .int .i64 t477, .int .i64 t478, .int .i64 t479, .string t480] 26 (0, 0))) ∧ Aside0 (Below w.heap.size w wc))
    case first =>
     have H := HC9.out
     clear HC9
     replace H := Option.bind_eq_some_iff.mp H
     obtain ⟨t488, A160, H⟩ := H
     replace H : ((laws_haBytes.f kj2 t485 t488).bind fun t491 => (if t491 = true then ((impl_SegOk.f kj2 t474 t475 t476 t477 t478 t479 t480).bind fun t492 => ((spec_SegOk.f kj2 t474 t475 t476 t477 t478 t479 t480).bind fun t493 => (if (t492 != t493) = true then (laws_FnSegBytes.j1 kj2 l0 t482 t485 true t474 t475 t476 t477 t478 t479 t480) else ((impl_SegSum.f kj2 t482).bind fun t494 => ((spec_SegSum.f kj2 t482).bind fun t495 => (laws_FnSegBytes.j1 kj2 l0 t482 t485 (t494 != t495) t474 t475 t476 t477 t478 t479 t480)))))) else (laws_FnSegBytes.j1 kj2 l0 t482 t485 true t474 t475 t476 t477 t478 t479 t480))) = some r := H
     have A16 := Aside0.mk A160
     clear A160
     replace H := Option.bind_eq_some_iff.mp H
     obtain ⟨t491, A170, H⟩ := H
     replace H : (if t491 = true then ((impl_SegOk.f kj2 t474 t475 t476 t477 t478 t479 t480).bind fun t492 => ((spec_SegOk.f kj2 t474 t475 t476 t477 t478 t479 t480).bind fun t493 => (if (t492 != t493) = true then (laws_FnSegBytes.j1 kj2 l0 t482 t485 true t474 t475 t476 t477 t478 t479 t480) else ((impl_SegSum.f kj2 t482).bind fun t494 => ((spec_SegSum.f kj2 t482).bind fun t495 => (laws_FnSegBytes.j1 kj2 l0 t482 t485 (t494 != t495) t474 t475 t476 t477 t478 t479 t480)))))) else (laws_FnSegBytes.j1 kj2 l0 t482 t485 true t474 t475 t476 t477 t478 t479 t480)) = some r := H
     have A17 := Aside0.mk A170
     clear A170
     by_cases c18 : t491 = true
     ·subst c18
      have H1 : ((impl_SegOk.f kj2 t474 t475 t476 t477 t478 t479 t480).bind fun t492 => ((spec_SegOk.f kj2 t474 t475 t476 t477 t478 t479 t480).bind fun t493 => (if (t492 != t493) = true then (laws_FnSegBytes.j1 kj2 l0 t482 t485 true t474 t475 t476 t477 t478 t479 t480) else ((impl_SegSum.f kj2 t482).bind fun t494 => ((spec_SegSum.f kj2 t482).bind fun t495 => (laws_FnSegBytes.j1 kj2 l0 t482 t485 (t494 != t495) t474 t475 t476 t477 t478 t479 t480)))))) = some r := by rw [if_pos rfl] at H; exact H
      clear H
      have H := H1
      clear H1
      replace H := Option.bind_eq_some_iff.mp H
      obtain ⟨t492, A190, H⟩ := H
      replace H : ((spec_SegOk.f kj2 t474 t475 t476 t477 t478 t479 t480).bind fun t493 => (if (t492 != t493) = true then (laws_FnSegBytes.j1 kj2 l0 t482 t485 true t474 t475 t476 t477 t478 t479 t480) else ((impl_SegSum.f kj2 t482).bind fun t494 => ((spec_SegSum.f kj2 t482).bind fun t495 => (laws_FnSegBytes.j1 kj2 l0 t482 t485 (t494 != t495) t474 t475 t476 t477 t478 t479 t480))))) = some r := H
      have A19 := Aside0.mk A190
      clear A190
      replace H := Option.bind_eq_some_iff.mp H
      obtain ⟨t493, A200, H⟩ := H
      replace H : (if (t492 != t493) = true then (laws_FnSegBytes.j1 kj2 l0 t482 t485 true t474 t475 t476 t477 t478 t479 t480) else ((impl_SegSum.f kj2 t482).bind fun t494 => ((spec_SegSum.f kj2 t482).bind fun t495 => (laws_FnSegBytes.j1 kj2 l0 t482 t485 (t494 != t495) t474 t475 t476 t477 t478 t479 t480)))) = some r := H
      have A20 := Aside0.mk A200
      clear A200
      by_cases c21 : (t492 != t493) = true
      ·rw [if_pos c21] at H
       have c21b0 : (t492 != t493) = true := c21
       (try (have c21b1 : decide (t492 = t493) = false := by simpa using c21))
       (try (have c21b2 : (t492 == t493) = false := by simpa using c21))
       (try (have c21b3 : ¬ (t492 = t493) := by simpa using c21))
       clear c21
       (first | rw [c21b0] | (simp only [i64_w, i32_w]; rw [c21b0]) | skip)
       have H' := Aside0.mk H
       clear H
       try go_wp2
       have n0_ := Aside0.mk (Kd.R_drew HO484.out)
       have n1_ := Aside0.mk (Kd.R_drew HO487.out)
       have n2_ := Aside0.mk (blk_drew BK481.out)
       have n3_ := Aside0.mk (below_drew1 HB.out)
       clear HO484
       clear HO487
       clear BK481
       clear HB
       have HO484 := n0_
       have HO487 := n1_
       have BK481 := n2_
       have HB := n3_
       clear n0_ n1_ n2_ n3_
       as_aux_lemma =>
        refine start_ (n := 19) (S := fun w' => w'.cell? ⟨gb481, 0, none⟩ = some (.int .i64 t474) ∧ w'.cell? ⟨gb481, 1, none⟩ = some (.int .i64 t475) ∧ w'.cell? ⟨gb481, 2, none⟩ = some (.int .i64 t476) ∧ w'.cell? ⟨gb481, 3, none⟩ = some (.int .i64 t477) ∧ w'.cell? ⟨gb481, 4, none⟩ = some (.int .i64 t478) ∧ w'.cell? ⟨gb481, 5, none⟩ = some (.int .i64 t479) ∧ w'.cell? ⟨gb481, 6, none⟩ = some (.string t480)) (ds := []) #[false, false, false, false, false, false, false, false, false, false, false, false, false, false, false, false, false, false, false] (by kernel_rfl) rfl rfl ⟨(blk_cell BK481.out 0).trans rfl, (blk_cell BK481.out 1).trans rfl, (blk_cell BK481.out 2).trans rfl, (blk_cell BK481.out 3).trans rfl, (blk_cell BK481.out 4).trans rfl, (blk_cell BK481.out 5).trans rfl, (blk_cell BK481.out 6).trans rfl⟩ (fun hHeld => ?_); refine with_tabW laws_FnSegBytes.tab6 laws_FnSegBytes.bits6 (fun HT_ HW_ => ?_)
        generalize w15.drew = w22 at HO484 HO487 BK481 HB hHeld ⊢
        refine pure_ (i := 0) (N := some 32) (v := ?_) (a' := ?_) #[true, false, false, false, false, false, false, false, false, false, false, false, false, false, false, false, false, false, false] rfl rfl (any_of HT_.out (by kernel_rfl)) (fun _ _ _ h => h) (Or.inl ⟨by rfl, ?_⟩) ?_ ?_
        rotate_left
        ·intro w'
         go_simp
         with_reducible rfl
        rotate_left
        ·simp only [Act.put, List.setIfInBounds_toArray, List.set_cons_zero, List.set_cons_succ, i64_w, i32_w]
         rfl
        refine take_ (i := 1) (N := some 33) (v := ?_) (a' := ?_) #[true, true, false, false, false, false, false, false, false, false, false, false, false, false, false, false, false, false, false] rfl rfl (take_ofW HT_.out HW_.out (by kernel_rfl)) (fun _ _ _ h => h) (Or.inl ⟨by rfl, ?_⟩) hHeld ?_ ?_
        rotate_left
        ·rintro w' ⟨s0, s1, s2, s3, s4, s5, s6⟩
         go_simp
         with_reducible rfl
        rotate_left
        ·simp only [Act.put, List.setIfInBounds_toArray, List.set_cons_zero, List.set_cons_succ, i64_w, i32_w]
         rfl
        refine one_ (i := 2) (N := some 34) #[true, true, true, false, false, false, false, false, false, false, false, false, false, false, false, false, false, false, false] rfl rfl (one_of HT_.out (by kernel_rfl)) (by decide) (fun K hK => ?_)
        refine goes_ Tryd.func15 (by kernel_rfl) rfl #[.agg #[.int .i64 t474, .int .i64 t475, .int .i64 t476, .int .i64 t477, .int .i64 t478, .int .i64 t479, .string t480]] (by rfl) rfl rfl Z44 ?_
        with_reducible refine (spec_SegBytes.calls kj2 t474 t475 t476 t477 t478 t479 t480 t488 _ A16.out).mono ?_
        rintro e w23 ⟨v489, rfl, ho0, hb⟩
        refine ⟨_, rfl, ?_⟩
        have n0_ := Aside0.mk (Kd.R_elder' Z19 (Kd.R_base ho0) hb)
        have n1_ := Aside0.mk (Kd.R_elder' Z20 (Kd.R_base ho0) hb)
        have n2_ := Aside0.mk (Kd.R_lower (Kd.R_new' (Kd.R_new' ho0 (Kd.R_lt Z19)) (Kd.R_lt Z20)) (below_size Z58))
        have n3_ := Aside0.mk (blk_below (g := gb481) (o := .cells #[.int .i64 t474, .int .i64 t475, .int .i64 t476, .int .i64 t477, .int .i64 t478, .int .i64 t479, .string t480] 26 (0, 0)) Z39 hb)
        have n4_ := Aside0.mk (below_step Z58 hb)
        clear HO484
        clear HO487
        clear BK481
        clear HB
        have HO484 := n0_
        have HO487 := n1_
        have HO490 := n2_
        have BK481 := n3_
        have HB := n4_
        clear n0_ n1_ n2_ n3_ n4_
        (try clear hb)
        (try clear hb2)
        (try clear hk)
        (try clear hi)
        (try clear ho0)
        obtain ⟨Ao24, co24, eo24⟩ := Kd.R_slice HO487.out
        (first | subst eo24 | (injection eo24 with f1_ f2_ f3_; have f4_ := f1_.symm; have f5_ := f3_.symm; clear f1_ f2_ f3_; subst f4_; subst f5_))
        obtain ⟨Ao25, co25, eo25⟩ := Kd.R_slice HO490.out
        (first | subst eo25 | (injection eo25 with f1_ f2_ f3_; have f4_ := f1_.symm; have f5_ := f3_.symm; clear f1_ f2_ f3_; subst f4_; subst f5_))
        refine hK.out _ _ ⟨(blk_cell BK481.out 0).trans rfl, (blk_cell BK481.out 1).trans rfl, (blk_cell BK481.out 2).trans rfl, (blk_cell BK481.out 3).trans rfl, (blk_cell BK481.out 4).trans rfl, (blk_cell BK481.out 5).trans rfl, (blk_cell BK481.out 6).trans rfl⟩ (fun hHeld => ?_)
        clear hK K
        refine norm_ (a' := ?_) ?_ ?_
        rotate_left
        ·show Act.put _ (some 34) _ = _
         simp only [Act.put, List.setIfInBounds_toArray, List.set_cons_zero, List.set_cons_succ, i64_w, i32_w]
         rfl
        refine one_ (i := 3) (N := some 35) #[true, true, true, true, false, false, false, false, false, false, false, false, false, false, false, false, false, false, false] rfl rfl (one_of HT_.out (by kernel_rfl)) (by decide) (fun K hK => ?_)
        refine goes_ Tryd.func14 (by kernel_rfl) rfl #[.slice Ao24 t485.length co24, .slice Ao25 t488.length co25] (by rfl) rfl rfl Z44 ?_
        with_reducible refine (laws_haBytes.calls kj2 _ _ t485 _ _ t488 true _ ?side1 ?side2 ?side3 ?side4 A17.out).mono ?_
        (case side1 => exact Z64)
        (case side2 => exact (Kd.R_reads' HO487.out).2.1)
        (case side3 => exact Z65)
        (case side4 => exact (Kd.R_reads' HO490.out).2.1)
        rintro e w' ⟨rfl, ⟨nd, rfl⟩⟩
        refine ⟨_, rfl, ?_⟩
        refine hK.out _ _ ⟨(blk_cell BK481.out 0).trans rfl, (blk_cell BK481.out 1).trans rfl, (blk_cell BK481.out 2).trans rfl, (blk_cell BK481.out 3).trans rfl, (blk_cell BK481.out 4).trans rfl, (blk_cell BK481.out 5).trans rfl, (blk_cell BK481.out 6).trans rfl⟩ (fun hHeld => ?_)
        clear hK K
        refine norm_ (a' := ?_) ?_ ?_
        rotate_left
        ·show Act.put _ (some 35) _ = _
         simp only [Act.put, List.setIfInBounds_toArray, List.set_cons_zero, List.set_cons_succ, i64_w, i32_w]
         rfl
        refine pure_ (i := 4) (N := some 36) (v := ?_) (a' := ?_) #[true, true, true, true, true, false, false, false, false, false, false, false, false, false, false, false, false, false, false] rfl rfl (any_of HT_.out (by kernel_rfl)) (fun _ _ _ h => h) (Or.inl ⟨by rfl, ?_⟩) ?_ ?_
        rotate_left
        ·intro w'
         go_simp
         with_reducible rfl
        rotate_left
        ·simp only [Act.put, List.setIfInBounds_toArray, List.set_cons_zero, List.set_cons_succ, i64_w, i32_w]
         rfl
        refine pure_ (i := 5) (N := some 37) (v := ?_) (a' := ?_) #[true, true, true, true, true, true, false, false, false, false, false, false, false, false, false, false, false, false, false] rfl rfl (any_of HT_.out (by kernel_rfl)) (fun _ _ _ h => h) (Or.inl ⟨by rfl, ?_⟩) ?_ ?_
        rotate_left
        ·intro w'
         go_simp
         with_reducible rfl
        rotate_left
        ·simp only [Act.put, List.setIfInBounds_toArray, List.set_cons_zero, List.set_cons_succ, i64_w, i32_w]
         rfl
        refine take_ (i := 6) (N := some 38) (v := ?_) (a' := ?_) #[true, true, true, true, true, true, true, false, false, false, false, false, false, false, false, false, false, false, false] rfl rfl (take_ofW HT_.out HW_.out (by kernel_rfl)) (fun _ _ _ h => h) (Or.inl ⟨by rfl, ?_⟩) hHeld ?_ ?_
        rotate_left
        ·rintro w' ⟨s0, s1, s2, s3, s4, s5, s6⟩
         go_simp
         with_reducible rfl
        rotate_left
        ·simp only [Act.put, List.setIfInBounds_toArray, List.set_cons_zero, List.set_cons_succ, i64_w, i32_w]
         rfl
        refine take_ (i := 8) (N := some 40) (v := ?_) (a' := ?_) #[true, true, true, true, true, true, true, false, true, false, false, false, false, false, false, false, false, false, false] rfl rfl (take_ofW HT_.out HW_.out (by kernel_rfl)) (fun _ _ _ h => h) (Or.inl ⟨by rfl, ?_⟩) hHeld ?_ ?_
        rotate_left
        ·rintro w' ⟨s0, s1, s2, s3, s4, s5, s6⟩
         go_simp
         with_reducible rfl
        rotate_left
        ·simp only [Act.put, List.setIfInBounds_toArray, List.set_cons_zero, List.set_cons_succ, i64_w, i32_w]
         rfl
        refine one_ (i := 7) (N := some 39) #[true, true, true, true, true, true, true, true, true, false, false, false, false, false, false, false, false, false, false] rfl rfl (one_of HT_.out (by kernel_rfl)) (by decide) (fun K hK => ?_)
        refine goes_ Tryd.func16 (by kernel_rfl) rfl #[.agg #[.int .i64 t474, .int .i64 t475, .int .i64 t476, .int .i64 t477, .int .i64 t478, .int .i64 t479, .string t480]] (by rfl) rfl rfl Z44 ?_
        with_reducible refine (impl_SegOk.calls kj2 t474 t475 t476 t477 t478 t479 t480 t492 _ A19.out).mono ?_
        rintro e w26 ⟨rfl, hb⟩
        refine ⟨_, rfl, ?_⟩
        have n0_ := Aside0.mk (Kd.R_below Z19 hb)
        have n1_ := Aside0.mk (Kd.R_below Z20 hb)
        have n2_ := Aside0.mk (Kd.R_below Z21 hb)
        have n3_ := Aside0.mk (blk_below (g := gb481) (o := .cells #[.int .i64 t474, .int .i64 t475, .int .i64 t476, .int .i64 t477, .int .i64 t478, .int .i64 t479, .string t480] 26 (0, 0)) Z39 hb)
        have n4_ := Aside0.mk (below_step Z58 hb)
        clear HO484
        clear HO487
        clear HO490
        clear BK481
        clear HB
        have HO484 := n0_
        have HO487 := n1_
        have HO490 := n2_
        have BK481 := n3_
        have HB := n4_
        clear n0_ n1_ n2_ n3_ n4_
        (try clear hb)
        (try clear hb2)
        (try clear hk)
        (try clear hi)
        refine hK.out _ _ ⟨(blk_cell BK481.out 0).trans rfl, (blk_cell BK481.out 1).trans rfl, (blk_cell BK481.out 2).trans rfl, (blk_cell BK481.out 3).trans rfl, (blk_cell BK481.out 4).trans rfl, (blk_cell BK481.out 5).trans rfl, (blk_cell BK481.out 6).trans rfl⟩ (fun hHeld => ?_)
        clear hK K
        refine norm_ (a' := ?_) ?_ ?_
        rotate_left
        ·show Act.put _ (some 39) _ = _
         simp only [Act.put, List.setIfInBounds_toArray, List.set_cons_zero, List.set_cons_succ, i64_w, i32_w]
         rfl
        refine one_ (i := 9) (N := some 41) #[true, true, true, true, true, true, true, true, true, true, false, false, false, false, false, false, false, false, false] rfl rfl (one_of HT_.out (by kernel_rfl)) (by decide) (fun K hK => ?_)
        refine goes_ Tryd.func17 (by kernel_rfl) rfl #[.agg #[.int .i64 t474, .int .i64 t475, .int .i64 t476, .int .i64 t477, .int .i64 t478, .int .i64 t479, .string t480]] (by rfl) rfl rfl Z44 ?_
        with_reducible refine (spec_SegOk.calls kj2 t474 t475 t476 t477 t478 t479 t480 t493 _ A20.out).mono ?_
        rintro e w27 ⟨rfl, hb⟩
        refine ⟨_, rfl, ?_⟩
        have n0_ := Aside0.mk (Kd.R_below Z19 hb)
        have n1_ := Aside0.mk (Kd.R_below Z20 hb)
        have n2_ := Aside0.mk (Kd.R_below Z21 hb)
        have n3_ := Aside0.mk (blk_below (g := gb481) (o := .cells #[.int .i64 t474, .int .i64 t475, .int .i64 t476, .int .i64 t477, .int .i64 t478, .int .i64 t479, .string t480] 26 (0, 0)) Z39 hb)
        have n4_ := Aside0.mk (below_step Z58 hb)
        clear HO484
        clear HO487
        clear HO490
        clear BK481
        clear HB
        have HO484 := n0_
        have HO487 := n1_
        have HO490 := n2_
        have BK481 := n3_
        have HB := n4_
        clear n0_ n1_ n2_ n3_ n4_
        (try clear hb)
        (try clear hb2)
        (try clear hk)
        (try clear hi)
        refine hK.out _ _ ⟨(blk_cell BK481.out 0).trans rfl, (blk_cell BK481.out 1).trans rfl, (blk_cell BK481.out 2).trans rfl, (blk_cell BK481.out 3).trans rfl, (blk_cell BK481.out 4).trans rfl, (blk_cell BK481.out 5).trans rfl, (blk_cell BK481.out 6).trans rfl⟩ (fun hHeld => ?_)
        clear hK K
        refine norm_ (a' := ?_) ?_ ?_
        rotate_left
        ·show Act.put _ (some 41) _ = _
         simp only [Act.put, List.setIfInBounds_toArray, List.set_cons_zero, List.set_cons_succ, i64_w, i32_w]
         rfl
        refine pure_ (i := 10) (N := some 42) (v := ?_) (a' := ?_) #[true, true, true, true, true, true, true, true, true, true, true, false, false, false, false, false, false, false, false] rfl rfl (any_of HT_.out (by kernel_rfl)) (fun _ _ _ h => h) (Or.inl ⟨by rfl, ?_⟩) ?_ ?_
        rotate_left
        ·intro w'
         go_simp
         with_reducible rfl
        rotate_left
        ·simp only [Act.put, List.setIfInBounds_toArray, List.set_cons_zero, List.set_cons_succ, i64_w, i32_w]
         rfl
        refine pure_ (i := 11) (N := some 43) (v := ?_) (a' := ?_) #[true, true, true, true, true, true, true, true, true, true, true, true, false, false, false, false, false, false, false] rfl rfl (any_of HT_.out (by kernel_rfl)) (fun _ _ _ h => h) (Or.inl ⟨by rfl, ?_⟩) ?_ ?_
        rotate_left
        ·intro w'
         go_simp
         with_reducible rfl
        rotate_left
        ·simp only [Act.put, List.setIfInBounds_toArray, List.set_cons_zero, List.set_cons_succ, i64_w, i32_w]
         rfl
        refine pure_ (i := 12) (N := some 44) (v := ?_) (a' := ?_) #[true, true, true, true, true, true, true, true, true, true, true, true, true, false, false, false, false, false, false] rfl rfl (any_of HT_.out (by kernel_rfl)) (fun _ _ _ h => h) (Or.inl ⟨by rfl, ?_⟩) ?_ ?_
        rotate_left
        ·intro w'
         go_simp
         with_reducible rfl
        rotate_left
        ·simp only [Act.put, List.setIfInBounds_toArray, List.set_cons_zero, List.set_cons_succ, i64_w, i32_w]
         rfl
        refine pure_ (i := 13) (N := some 45) (v := undef) (a' := ?_) #[true, true, true, true, true, true, true, true, true, true, true, true, true, true, false, false, false, false, false] rfl rfl (any_of HT_.out (by kernel_rfl)) (fun _ _ _ h => h) (Or.inr ⟨by rfl, rfl⟩) ?_ ?_
        rotate_left
        ·simp only [Act.put, List.setIfInBounds_toArray, List.set_cons_zero, List.set_cons_succ, i64_w, i32_w]
         rfl
        refine pure_ (i := 14) (N := some 46) (v := undef) (a' := ?_) #[true, true, true, true, true, true, true, true, true, true, true, true, true, true, true, false, false, false, false] rfl rfl (any_of HT_.out (by kernel_rfl)) (fun _ _ _ h => h) (Or.inr ⟨by rfl, rfl⟩) ?_ ?_
        rotate_left
        ·simp only [Act.put, List.setIfInBounds_toArray, List.set_cons_zero, List.set_cons_succ, i64_w, i32_w]
         rfl
        refine pure_ (i := 15) (N := some 47) (v := undef) (a' := ?_) #[true, true, true, true, true, true, true, true, true, true, true, true, true, true, true, true, false, false, false] rfl rfl (any_of HT_.out (by kernel_rfl)) (fun _ _ _ h => h) (Or.inr ⟨by rfl, rfl⟩) ?_ ?_
        rotate_left
        ·simp only [Act.put, List.setIfInBounds_toArray, List.set_cons_zero, List.set_cons_succ, i64_w, i32_w]
         rfl
        refine pure_ (i := 16) (N := some 48) (v := undef) (a' := ?_) #[true, true, true, true, true, true, true, true, true, true, true, true, true, true, true, true, true, false, false] rfl rfl (any_of HT_.out (by kernel_rfl)) (fun _ _ _ h => h) (Or.inr ⟨by rfl, rfl⟩) ?_ ?_
        rotate_left
        ·simp only [Act.put, List.setIfInBounds_toArray, List.set_cons_zero, List.set_cons_succ, i64_w, i32_w]
         rfl
        refine pure_ (i := 17) (N := some 49) (v := undef) (a' := ?_) #[true, true, true, true, true, true, true, true, true, true, true, true, true, true, true, true, true, true, false] rfl rfl (any_of HT_.out (by kernel_rfl)) (fun _ _ _ h => h) (Or.inr ⟨by rfl, rfl⟩) ?_ ?_
        rotate_left
        ·simp only [Act.put, List.setIfInBounds_toArray, List.set_cons_zero, List.set_cons_succ, i64_w, i32_w]
         rfl
        refine pure_ (i := 18) (N := some 50) (v := ?_) (a' := ?_) #[true, true, true, true, true, true, true, true, true, true, true, true, true, true, true, true, true, true, true] rfl rfl (any_of HT_.out (by kernel_rfl)) (fun _ _ _ h => h) (Or.inl ⟨by rfl, ?_⟩) ?_ ?_
        rotate_left
        ·intro w'
         go_simp
         with_reducible rfl
        rotate_left
        ·simp only [Act.put, List.setIfInBounds_toArray, List.set_cons_zero, List.set_cons_succ, i64_w, i32_w]
         rfl
        refine done_ (done_of HT_.out (by kernel_rfl)) ?_
        as_aux_lemma =>
         try go_wp2
         go_meet
         case rel => exact ⟨_, (true), Z1, H', ⟨by have := HJ2.out; first | omega | exact Nat.le_refl _⟩, ⟨by (with_reducible repeat (first | apply Kd.R_alloc | apply Kd.R_drewN | apply Kd.R_drew)); exact Kd.R_mono HO484.out (fun _ hk => hk.1.2)⟩, ⟨by (with_reducible repeat (first | apply Kd.R_alloc | apply Kd.R_drewN | apply Kd.R_drew)); exact Kd.R_mono HO487.out (fun _ hk => hk.1.2)⟩, ⟨by (with_reducible repeat (first | refine blk_drewN ?_ _ | refine blk_drew ?_ | refine blk_alloc ?_ _)); exact BK481.out⟩, ⟨by repeat (first | (with_reducible first | exact HB.out | apply below_alloc | apply pw_below_drewN | apply below_drew1 | refine below_set ?_ GE481.out) | exact HB.out)⟩⟩
      ·rw [if_neg c21] at H
       have c21b0 : (t492 != t493) = false := by simpa using c21
       (try (have c21b1 : decide (t492 = t493) = true := by simpa using c21))
       (try (have c21b2 : (t492 == t493) = true := by simpa using c21))
       clear c21
       (first | rw [c21b0] | (simp only [i64_w, i32_w]; rw [c21b0]) | skip)
       replace H := Option.bind_eq_some_iff.mp H
       obtain ⟨t494, A280, H⟩ := H
       replace H : ((spec_SegSum.f kj2 t482).bind fun t495 => (laws_FnSegBytes.j1 kj2 l0 t482 t485 (t494 != t495) t474 t475 t476 t477 t478 t479 t480)) = some r := H
       have A28 := Aside0.mk A280
       clear A280
       replace H := Option.bind_eq_some_iff.mp H
       obtain ⟨t495, A290, H⟩ := H
       replace H : (laws_FnSegBytes.j1 kj2 l0 t482 t485 (t494 != t495) t474 t475 t476 t477 t478 t479 t480) = some r := H
       have A29 := Aside0.mk A290
       clear A290
       have H' := Aside0.mk H
       clear H
       try go_wp2
       have n0_ := Aside0.mk (Kd.R_drew HO484.out)
       have n1_ := Aside0.mk (Kd.R_drew HO487.out)
       have n2_ := Aside0.mk (blk_drew BK481.out)
       have n3_ := Aside0.mk (below_drew1 HB.out)
       clear HO484
       clear HO487
       clear BK481
       clear HB
       have HO484 := n0_
       have HO487 := n1_
       have BK481 := n2_
       have HB := n3_
       clear n0_ n1_ n2_ n3_
       as_aux_lemma =>
        refine start_ (n := 19) (S := fun w' => w'.cell? ⟨gb481, 0, none⟩ = some (.int .i64 t474) ∧ w'.cell? ⟨gb481, 1, none⟩ = some (.int .i64 t475) ∧ w'.cell? ⟨gb481, 2, none⟩ = some (.int .i64 t476) ∧ w'.cell? ⟨gb481, 3, none⟩ = some (.int .i64 t477) ∧ w'.cell? ⟨gb481, 4, none⟩ = some (.int .i64 t478) ∧ w'.cell? ⟨gb481, 5, none⟩ = some (.int .i64 t479) ∧ w'.cell? ⟨gb481, 6, none⟩ = some (.string t480)) (ds := []) #[false, false, false, false, false, false, false, false, false, false, false, false, false, false, false, false, false, false, false] (by kernel_rfl) rfl rfl ⟨(blk_cell BK481.out 0).trans rfl, (blk_cell BK481.out 1).trans rfl, (blk_cell BK481.out 2).trans rfl, (blk_cell BK481.out 3).trans rfl, (blk_cell BK481.out 4).trans rfl, (blk_cell BK481.out 5).trans rfl, (blk_cell BK481.out 6).trans rfl⟩ (fun hHeld => ?_); refine with_tabW laws_FnSegBytes.tab6 laws_FnSegBytes.bits6 (fun HT_ HW_ => ?_)
        generalize w15.drew = w30 at HO484 HO487 BK481 HB hHeld ⊢
        refine pure_ (i := 0) (N := some 32) (v := ?_) (a' := ?_) #[true, false, false, false, false, false, false, false, false, false, false, false, false, false, false, false, false, false, false] rfl rfl (any_of HT_.out (by kernel_rfl)) (fun _ _ _ h => h) (Or.inl ⟨by rfl, ?_⟩) ?_ ?_
        rotate_left
        ·intro w'
         go_simp
         with_reducible rfl
        rotate_left
        ·simp only [Act.put, List.setIfInBounds_toArray, List.set_cons_zero, List.set_cons_succ, i64_w, i32_w]
         rfl
        refine take_ (i := 1) (N := some 33) (v := ?_) (a' := ?_) #[true, true, false, false, false, false, false, false, false, false, false, false, false, false, false, false, false, false, false] rfl rfl (take_ofW HT_.out HW_.out (by kernel_rfl)) (fun _ _ _ h => h) (Or.inl ⟨by rfl, ?_⟩) hHeld ?_ ?_
        rotate_left
        ·rintro w' ⟨s0, s1, s2, s3, s4, s5, s6⟩
         go_simp
         with_reducible rfl
        rotate_left
        ·simp only [Act.put, List.setIfInBounds_toArray, List.set_cons_zero, List.set_cons_succ, i64_w, i32_w]
         rfl
        refine one_ (i := 2) (N := some 34) #[true, true, true, false, false, false, false, false, false, false, false, false, false, false, false, false, false, false, false] rfl rfl (one_of HT_.out (by kernel_rfl)) (by decide) (fun K hK => ?_)
        refine goes_ Tryd.func15 (by kernel_rfl) rfl #[.agg #[.int .i64 t474, .int .i64 t475, .int .i64 t476, .int .i64 t477, .int .i64 t478, .int .i64 t479, .string t480]] (by rfl) rfl rfl Z44 ?_
        with_reducible refine (spec_SegBytes.calls kj2 t474 t475 t476 t477 t478 t479 t480 t488 _ A16.out).mono ?_
        rintro e w31 ⟨v489, rfl, ho0, hb⟩
        refine ⟨_, rfl, ?_⟩
        have n0_ := Aside0.mk (Kd.R_elder' Z19 (Kd.R_base ho0) hb)
        have n1_ := Aside0.mk (Kd.R_elder' Z20 (Kd.R_base ho0) hb)
        have n2_ := Aside0.mk (Kd.R_lower (Kd.R_new' (Kd.R_new' ho0 (Kd.R_lt Z19)) (Kd.R_lt Z20)) (below_size Z58))
        have n3_ := Aside0.mk (blk_below (g := gb481) (o := .cells #[.int .i64 t474, .int .i64 t475, .int .i64 t476, .int .i64 t477, .int .i64 t478, .int .i64 t479, .string t480] 26 (0, 0)) Z39 hb)
        have n4_ := Aside0.mk (below_step Z58 hb)
        clear HO484
        clear HO487
        clear BK481
        clear HB
        have HO484 := n0_
        have HO487 := n1_
        have HO490 := n2_
        have BK481 := n3_
        have HB := n4_
        clear n0_ n1_ n2_ n3_ n4_
        (try clear hb)
        (try clear hb2)
        (try clear hk)
        (try clear hi)
        (try clear ho0)
        obtain ⟨Ao32, co32, eo32⟩ := Kd.R_slice HO487.out
        (first | subst eo32 | (injection eo32 with f1_ f2_ f3_; have f4_ := f1_.symm; have f5_ := f3_.symm; clear f1_ f2_ f3_; subst f4_; subst f5_))
        obtain ⟨Ao33, co33, eo33⟩ := Kd.R_slice HO490.out
        (first | subst eo33 | (injection eo33 with f1_ f2_ f3_; have f4_ := f1_.symm; have f5_ := f3_.symm; clear f1_ f2_ f3_; subst f4_; subst f5_))
        refine hK.out _ _ ⟨(blk_cell BK481.out 0).trans rfl, (blk_cell BK481.out 1).trans rfl, (blk_cell BK481.out 2).trans rfl, (blk_cell BK481.out 3).trans rfl, (blk_cell BK481.out 4).trans rfl, (blk_cell BK481.out 5).trans rfl, (blk_cell BK481.out 6).trans rfl⟩ (fun hHeld => ?_)
        clear hK K
        refine norm_ (a' := ?_) ?_ ?_
        rotate_left
        ·show Act.put _ (some 34) _ = _
         simp only [Act.put, List.setIfInBounds_toArray, List.set_cons_zero, List.set_cons_succ, i64_w, i32_w]
         rfl
        refine one_ (i := 3) (N := some 35) #[true, true, true, true, false, false, false, false, false, false, false, false, false, false, false, false, false, false, false] rfl rfl (one_of HT_.out (by kernel_rfl)) (by decide) (fun K hK => ?_)
        refine goes_ Tryd.func14 (by kernel_rfl) rfl #[.slice Ao32 t485.length co32, .slice Ao33 t488.length co33] (by rfl) rfl rfl Z44 ?_
        with_reducible refine (laws_haBytes.calls kj2 _ _ t485 _ _ t488 true _ ?side1 ?side2 ?side3 ?side4 A17.out).mono ?_
        (case side1 => exact Z64)
        (case side2 => exact (Kd.R_reads' HO487.out).2.1)
        (case side3 => exact Z65)
        (case side4 => exact (Kd.R_reads' HO490.out).2.1)
        rintro e w' ⟨rfl, ⟨nd, rfl⟩⟩
        refine ⟨_, rfl, ?_⟩
        refine hK.out _ _ ⟨(blk_cell BK481.out 0).trans rfl, (blk_cell BK481.out 1).trans rfl, (blk_cell BK481.out 2).trans rfl, (blk_cell BK481.out 3).trans rfl, (blk_cell BK481.out 4).trans rfl, (blk_cell BK481.out 5).trans rfl, (blk_cell BK481.out 6).trans rfl⟩ (fun hHeld => ?_)
        clear hK K
        refine norm_ (a' := ?_) ?_ ?_
        rotate_left
        ·show Act.put _ (some 35) _ = _
         simp only [Act.put, List.setIfInBounds_toArray, List.set_cons_zero, List.set_cons_succ, i64_w, i32_w]
         rfl
        refine pure_ (i := 4) (N := some 36) (v := ?_) (a' := ?_) #[true, true, true, true, true, false, false, false, false, false, false, false, false, false, false, false, false, false, false] rfl rfl (any_of HT_.out (by kernel_rfl)) (fun _ _ _ h => h) (Or.inl ⟨by rfl, ?_⟩) ?_ ?_
        rotate_left
        ·intro w'
         go_simp
         with_reducible rfl
        rotate_left
        ·simp only [Act.put, List.setIfInBounds_toArray, List.set_cons_zero, List.set_cons_succ, i64_w, i32_w]
         rfl
        refine pure_ (i := 5) (N := some 37) (v := ?_) (a' := ?_) #[true, true, true, true, true, true, false, false, false, false, false, false, false, false, false, false, false, false, false] rfl rfl (any_of HT_.out (by kernel_rfl)) (fun _ _ _ h => h) (Or.inl ⟨by rfl, ?_⟩) ?_ ?_
        rotate_left
        ·intro w'
         go_simp
         with_reducible rfl
        rotate_left
        ·simp only [Act.put, List.setIfInBounds_toArray, List.set_cons_zero, List.set_cons_succ, i64_w, i32_w]
         rfl
        refine take_ (i := 6) (N := some 38) (v := ?_) (a' := ?_) #[true, true, true, true, true, true, true, false, false, false, false, false, false, false, false, false, false, false, false] rfl rfl (take_ofW HT_.out HW_.out (by kernel_rfl)) (fun _ _ _ h => h) (Or.inl ⟨by rfl, ?_⟩) hHeld ?_ ?_
        rotate_left
        ·rintro w' ⟨s0, s1, s2, s3, s4, s5, s6⟩
         go_simp
         with_reducible rfl
        rotate_left
        ·simp only [Act.put, List.setIfInBounds_toArray, List.set_cons_zero, List.set_cons_succ, i64_w, i32_w]
         rfl
        refine take_ (i := 8) (N := some 40) (v := ?_) (a' := ?_) #[true, true, true, true, true, true, true, false, true, false, false, false, false, false, false, false, false, false, false] rfl rfl (take_ofW HT_.out HW_.out (by kernel_rfl)) (fun _ _ _ h => h) (Or.inl ⟨by rfl, ?_⟩) hHeld ?_ ?_
        rotate_left
        ·rintro w' ⟨s0, s1, s2, s3, s4, s5, s6⟩
         go_simp
         with_reducible rfl
        rotate_left
        ·simp only [Act.put, List.setIfInBounds_toArray, List.set_cons_zero, List.set_cons_succ, i64_w, i32_w]
         rfl
        refine one_ (i := 7) (N := some 39) #[true, true, true, true, true, true, true, true, true, false, false, false, false, false, false, false, false, false, false] rfl rfl (one_of HT_.out (by kernel_rfl)) (by decide) (fun K hK => ?_)
        refine goes_ Tryd.func16 (by kernel_rfl) rfl #[.agg #[.int .i64 t474, .int .i64 t475, .int .i64 t476, .int .i64 t477, .int .i64 t478, .int .i64 t479, .string t480]] (by rfl) rfl rfl Z44 ?_
        with_reducible refine (impl_SegOk.calls kj2 t474 t475 t476 t477 t478 t479 t480 t492 _ A19.out).mono ?_
        rintro e w34 ⟨rfl, hb⟩
        refine ⟨_, rfl, ?_⟩
        have n0_ := Aside0.mk (Kd.R_below Z19 hb)
        have n1_ := Aside0.mk (Kd.R_below Z20 hb)
        have n2_ := Aside0.mk (Kd.R_below Z21 hb)
        have n3_ := Aside0.mk (blk_below (g := gb481) (o := .cells #[.int .i64 t474, .int .i64 t475, .int .i64 t476, .int .i64 t477, .int .i64 t478, .int .i64 t479, .string t480] 26 (0, 0)) Z39 hb)
        have n4_ := Aside0.mk (below_step Z58 hb)
        clear HO484
        clear HO487
        clear HO490
        clear BK481
        clear HB
        have HO484 := n0_
        have HO487 := n1_
        have HO490 := n2_
        have BK481 := n3_
        have HB := n4_
        clear n0_ n1_ n2_ n3_ n4_
        (try clear hb)
        (try clear hb2)
        (try clear hk)
        (try clear hi)
        refine hK.out _ _ ⟨(blk_cell BK481.out 0).trans rfl, (blk_cell BK481.out 1).trans rfl, (blk_cell BK481.out 2).trans rfl, (blk_cell BK481.out 3).trans rfl, (blk_cell BK481.out 4).trans rfl, (blk_cell BK481.out 5).trans rfl, (blk_cell BK481.out 6).trans rfl⟩ (fun hHeld => ?_)
        clear hK K
        refine norm_ (a' := ?_) ?_ ?_
        rotate_left
        ·show Act.put _ (some 39) _ = _
         simp only [Act.put, List.setIfInBounds_toArray, List.set_cons_zero, List.set_cons_succ, i64_w, i32_w]
         rfl
        refine one_ (i := 9) (N := some 41) #[true, true, true, true, true, true, true, true, true, true, false, false, false, false, false, false, false, false, false] rfl rfl (one_of HT_.out (by kernel_rfl)) (by decide) (fun K hK => ?_)
        refine goes_ Tryd.func17 (by kernel_rfl) rfl #[.agg #[.int .i64 t474, .int .i64 t475, .int .i64 t476, .int .i64 t477, .int .i64 t478, .int .i64 t479, .string t480]] (by rfl) rfl rfl Z44 ?_
        with_reducible refine (spec_SegOk.calls kj2 t474 t475 t476 t477 t478 t479 t480 t493 _ A20.out).mono ?_
        rintro e w35 ⟨rfl, hb⟩
        refine ⟨_, rfl, ?_⟩
        have n0_ := Aside0.mk (Kd.R_below Z19 hb)
        have n1_ := Aside0.mk (Kd.R_below Z20 hb)
        have n2_ := Aside0.mk (Kd.R_below Z21 hb)
        have n3_ := Aside0.mk (blk_below (g := gb481) (o := .cells #[.int .i64 t474, .int .i64 t475, .int .i64 t476, .int .i64 t477, .int .i64 t478, .int .i64 t479, .string t480] 26 (0, 0)) Z39 hb)
        have n4_ := Aside0.mk (below_step Z58 hb)
        clear HO484
        clear HO487
        clear HO490
        clear BK481
        clear HB
        have HO484 := n0_
        have HO487 := n1_
        have HO490 := n2_
        have BK481 := n3_
        have HB := n4_
        clear n0_ n1_ n2_ n3_ n4_
        (try clear hb)
        (try clear hb2)
        (try clear hk)
        (try clear hi)
        obtain ⟨Ao36, co36, eo36⟩ := Kd.R_slice HO484.out
        (first | subst eo36 | (injection eo36 with f1_ f2_ f3_; have f4_ := f1_.symm; have f5_ := f3_.symm; clear f1_ f2_ f3_; subst f4_; subst f5_))
        refine hK.out _ _ ⟨(blk_cell BK481.out 0).trans rfl, (blk_cell BK481.out 1).trans rfl, (blk_cell BK481.out 2).trans rfl, (blk_cell BK481.out 3).trans rfl, (blk_cell BK481.out 4).trans rfl, (blk_cell BK481.out 5).trans rfl, (blk_cell BK481.out 6).trans rfl⟩ (fun hHeld => ?_)
        clear hK K
        refine norm_ (a' := ?_) ?_ ?_
        rotate_left
        ·show Act.put _ (some 41) _ = _
         simp only [Act.put, List.setIfInBounds_toArray, List.set_cons_zero, List.set_cons_succ, i64_w, i32_w]
         rfl
        refine pure_ (i := 10) (N := some 42) (v := ?_) (a' := ?_) #[true, true, true, true, true, true, true, true, true, true, true, false, false, false, false, false, false, false, false] rfl rfl (any_of HT_.out (by kernel_rfl)) (fun _ _ _ h => h) (Or.inl ⟨by rfl, ?_⟩) ?_ ?_
        rotate_left
        ·intro w'
         go_simp
         with_reducible rfl
        rotate_left
        ·simp only [Act.put, List.setIfInBounds_toArray, List.set_cons_zero, List.set_cons_succ, i64_w, i32_w]
         rfl
        refine pure_ (i := 11) (N := some 43) (v := ?_) (a' := ?_) #[true, true, true, true, true, true, true, true, true, true, true, true, false, false, false, false, false, false, false] rfl rfl (any_of HT_.out (by kernel_rfl)) (fun _ _ _ h => h) (Or.inl ⟨by rfl, ?_⟩) ?_ ?_
        rotate_left
        ·intro w'
         go_simp
         with_reducible rfl
        rotate_left
        ·simp only [Act.put, List.setIfInBounds_toArray, List.set_cons_zero, List.set_cons_succ, i64_w, i32_w]
         rfl
        refine pure_ (i := 12) (N := some 44) (v := ?_) (a' := ?_) #[true, true, true, true, true, true, true, true, true, true, true, true, true, false, false, false, false, false, false] rfl rfl (any_of HT_.out (by kernel_rfl)) (fun _ _ _ h => h) (Or.inl ⟨by rfl, ?_⟩) ?_ ?_
        rotate_left
        ·intro w'
         go_simp
         with_reducible rfl
        rotate_left
        ·simp only [Act.put, List.setIfInBounds_toArray, List.set_cons_zero, List.set_cons_succ, i64_w, i32_w]
         rfl
        refine pure_ (i := 13) (N := some 45) (v := ?_) (a' := ?_) #[true, true, true, true, true, true, true, true, true, true, true, true, true, true, false, false, false, false, false] rfl rfl (any_of HT_.out (by kernel_rfl)) (fun _ _ _ h => h) (Or.inl ⟨by rfl, ?_⟩) ?_ ?_
        rotate_left
        ·intro w'
         go_simp
         with_reducible rfl
        rotate_left
        ·simp only [Act.put, List.setIfInBounds_toArray, List.set_cons_zero, List.set_cons_succ, i64_w, i32_w]
         rfl
        refine pure_ (i := 15) (N := some 47) (v := ?_) (a' := ?_) #[true, true, true, true, true, true, true, true, true, true, true, true, true, true, false, true, false, false, false] rfl rfl (any_of HT_.out (by kernel_rfl)) (fun _ _ _ h => h) (Or.inl ⟨by rfl, ?_⟩) ?_ ?_
        rotate_left
        ·intro w'
         go_simp
         with_reducible rfl
        rotate_left
        ·simp only [Act.put, List.setIfInBounds_toArray, List.set_cons_zero, List.set_cons_succ, i64_w, i32_w]
         rfl
        refine one_ (i := 14) (N := some 46) #[true, true, true, true, true, true, true, true, true, true, true, true, true, true, true, true, false, false, false] rfl rfl (one_of HT_.out (by kernel_rfl)) (by decide) (fun K hK => ?_)
        refine goes_ Tryd.func18 (by kernel_rfl) rfl #[.slice Ao36 t482.length co36] (by rfl) rfl rfl Z44 ?_
        with_reducible refine (impl_SegSum.calls kj2 _ _ t482 t494 _ ?side1 ?side2 A28.out).mono ?_
        (case side1 => exact Z66)
        (case side2 => exact (Kd.R_reads' HO484.out).2.1)
        rintro e w' ⟨rfl, ⟨nd, rfl⟩⟩
        refine ⟨_, rfl, ?_⟩
        refine hK.out _ _ ⟨(blk_cell BK481.out 0).trans rfl, (blk_cell BK481.out 1).trans rfl, (blk_cell BK481.out 2).trans rfl, (blk_cell BK481.out 3).trans rfl, (blk_cell BK481.out 4).trans rfl, (blk_cell BK481.out 5).trans rfl, (blk_cell BK481.out 6).trans rfl⟩ (fun hHeld => ?_)
        clear hK K
        refine norm_ (a' := ?_) ?_ ?_
        rotate_left
        ·show Act.put _ (some 46) _ = _
         simp only [Act.put, List.setIfInBounds_toArray, List.set_cons_zero, List.set_cons_succ, i64_w, i32_w]
         rfl
        refine one_ (i := 16) (N := some 48) #[true, true, true, true, true, true, true, true, true, true, true, true, true, true, true, true, true, false, false] rfl rfl (one_of HT_.out (by kernel_rfl)) (by decide) (fun K hK => ?_)
        refine goes_ Tryd.func19 (by kernel_rfl) rfl #[.slice Ao36 t482.length co36] (by rfl) rfl rfl Z44 ?_
        with_reducible refine (spec_SegSum.calls kj2 _ _ t482 t495 _ ?side1 ?side2 A29.out).mono ?_
        (case side1 => exact Z66)
        (case side2 => exact (Kd.R_reads' HO484.out).2.1)
        rintro e w' ⟨rfl, ⟨nd, rfl⟩⟩
        refine ⟨_, rfl, ?_⟩
        refine hK.out _ _ ⟨(blk_cell BK481.out 0).trans rfl, (blk_cell BK481.out 1).trans rfl, (blk_cell BK481.out 2).trans rfl, (blk_cell BK481.out 3).trans rfl, (blk_cell BK481.out 4).trans rfl, (blk_cell BK481.out 5).trans rfl, (blk_cell BK481.out 6).trans rfl⟩ (fun hHeld => ?_)
        clear hK K
        refine norm_ (a' := ?_) ?_ ?_
        rotate_left
        ·show Act.put _ (some 48) _ = _
         simp only [Act.put, List.setIfInBounds_toArray, List.set_cons_zero, List.set_cons_succ, i64_w, i32_w]
         rfl
        refine pure_ (i := 17) (N := some 49) (v := ?_) (a' := ?_) #[true, true, true, true, true, true, true, true, true, true, true, true, true, true, true, true, true, true, false] rfl rfl (any_of HT_.out (by kernel_rfl)) (fun _ _ _ h => h) (Or.inl ⟨by rfl, ?_⟩) ?_ ?_
        rotate_left
        ·intro w'
         go_simp
         with_reducible rfl
        rotate_left
        ·simp only [Act.put, List.setIfInBounds_toArray, List.set_cons_zero, List.set_cons_succ, i64_w, i32_w]
         rfl
        refine pure_ (i := 18) (N := some 50) (v := ?_) (a' := ?_) #[true, true, true, true, true, true, true, true, true, true, true, true, true, true, true, true, true, true, true] rfl rfl (any_of HT_.out (by kernel_rfl)) (fun _ _ _ h => h) (Or.inl ⟨by rfl, ?_⟩) ?_ ?_
        rotate_left
        ·intro w'
         go_simp
         with_reducible rfl
        rotate_left
        ·simp only [Act.put, List.setIfInBounds_toArray, List.set_cons_zero, List.set_cons_succ, i64_w, i32_w]
         rfl
        refine done_ (done_of HT_.out (by kernel_rfl)) ?_
        as_aux_lemma =>
         try go_wp2
         go_meet
         case rel => exact ⟨_, ((t494 != t495)), Z1, H', ⟨by have := HJ2.out; first | omega | exact Nat.le_refl _⟩, ⟨by (with_reducible repeat (first | apply Kd.R_alloc | apply Kd.R_drewN | apply Kd.R_drew)); exact Kd.R_mono HO484.out (fun _ hk => hk.1.2)⟩, ⟨by (with_reducible repeat (first | apply Kd.R_alloc | apply Kd.R_drewN | apply Kd.R_drew)); exact Kd.R_mono HO487.out (fun _ hk => hk.1.2)⟩, ⟨by (with_reducible repeat (first | refine blk_drewN ?_ _ | refine blk_drew ?_ | refine blk_alloc ?_ _)); exact BK481.out⟩, ⟨by repeat (first | (with_reducible first | exact HB.out | apply below_alloc | apply pw_below_drewN | apply below_drew1 | refine below_set ?_ GE481.out) | exact HB.out)⟩⟩
     ·replace c18 := Bool.eq_false_iff.mpr c18
      subst c18
      have H1 : (laws_FnSegBytes.j1 kj2 l0 t482 t485 true t474 t475 t476 t477 t478 t479 t480) = some r := by rw [if_neg (show ¬ (false = true) by decide)] at H; exact H
      clear H
      have H := H1
      clear H1
      have H' := Aside0.mk H
      clear H
      try go_wp2
      have n0_ := Aside0.mk (Kd.R_drew HO484.out)
      have n1_ := Aside0.mk (Kd.R_drew HO487.out)
      have n2_ := Aside0.mk (blk_drew BK481.out)
      have n3_ := Aside0.mk (below_drew1 HB.out)
      clear HO484
      clear HO487
      clear BK481
      clear HB
      have HO484 := n0_
      have HO487 := n1_
      have BK481 := n2_
      have HB := n3_
      clear n0_ n1_ n2_ n3_
      as_aux_lemma =>
       refine start_ (n := 19) (S := fun w' => w'.cell? ⟨gb481, 0, none⟩ = some (.int .i64 t474) ∧ w'.cell? ⟨gb481, 1, none⟩ = some (.int .i64 t475) ∧ w'.cell? ⟨gb481, 2, none⟩ = some (.int .i64 t476) ∧ w'.cell? ⟨gb481, 3, none⟩ = some (.int .i64 t477) ∧ w'.cell? ⟨gb481, 4, none⟩ = some (.int .i64 t478) ∧ w'.cell? ⟨gb481, 5, none⟩ = some (.int .i64 t479) ∧ w'.cell? ⟨gb481, 6, none⟩ = some (.string t480)) (ds := []) #[false, false, false, false, false, false, false, false, false, false, false, false, false, false, false, false, false, false, false] (by kernel_rfl) rfl rfl ⟨(blk_cell BK481.out 0).trans rfl, (blk_cell BK481.out 1).trans rfl, (blk_cell BK481.out 2).trans rfl, (blk_cell BK481.out 3).trans rfl, (blk_cell BK481.out 4).trans rfl, (blk_cell BK481.out 5).trans rfl, (blk_cell BK481.out 6).trans rfl⟩ (fun hHeld => ?_); refine with_tabW laws_FnSegBytes.tab6 laws_FnSegBytes.bits6 (fun HT_ HW_ => ?_)
       generalize w15.drew = w37 at HO484 HO487 BK481 HB hHeld ⊢
       refine pure_ (i := 0) (N := some 32) (v := ?_) (a' := ?_) #[true, false, false, false, false, false, false, false, false, false, false, false, false, false, false, false, false, false, false] rfl rfl (any_of HT_.out (by kernel_rfl)) (fun _ _ _ h => h) (Or.inl ⟨by rfl, ?_⟩) ?_ ?_
       rotate_left
       ·intro w'
        go_simp
        with_reducible rfl
       rotate_left
       ·simp only [Act.put, List.setIfInBounds_toArray, List.set_cons_zero, List.set_cons_succ, i64_w, i32_w]
        rfl
       refine take_ (i := 1) (N := some 33) (v := ?_) (a' := ?_) #[true, true, false, false, false, false, false, false, false, false, false, false, false, false, false, false, false, false, false] rfl rfl (take_ofW HT_.out HW_.out (by kernel_rfl)) (fun _ _ _ h => h) (Or.inl ⟨by rfl, ?_⟩) hHeld ?_ ?_
       rotate_left
       ·rintro w' ⟨s0, s1, s2, s3, s4, s5, s6⟩
        go_simp
        with_reducible rfl
       rotate_left
       ·simp only [Act.put, List.setIfInBounds_toArray, List.set_cons_zero, List.set_cons_succ, i64_w, i32_w]
        rfl
       refine one_ (i := 2) (N := some 34) #[true, true, true, false, false, false, false, false, false, false, false, false, false, false, false, false, false, false, false] rfl rfl (one_of HT_.out (by kernel_rfl)) (by decide) (fun K hK => ?_)
       refine goes_ Tryd.func15 (by kernel_rfl) rfl #[.agg #[.int .i64 t474, .int .i64 t475, .int .i64 t476, .int .i64 t477, .int .i64 t478, .int .i64 t479, .string t480]] (by rfl) rfl rfl Z44 ?_
       with_reducible refine (spec_SegBytes.calls kj2 t474 t475 t476 t477 t478 t479 t480 t488 _ A16.out).mono ?_
       rintro e w38 ⟨v489, rfl, ho0, hb⟩
       refine ⟨_, rfl, ?_⟩
       have n0_ := Aside0.mk (Kd.R_elder' Z19 (Kd.R_base ho0) hb)
       have n1_ := Aside0.mk (Kd.R_elder' Z20 (Kd.R_base ho0) hb)
       have n2_ := Aside0.mk (Kd.R_lower (Kd.R_new' (Kd.R_new' ho0 (Kd.R_lt Z19)) (Kd.R_lt Z20)) (below_size Z58))
       have n3_ := Aside0.mk (blk_below (g := gb481) (o := .cells #[.int .i64 t474, .int .i64 t475, .int .i64 t476, .int .i64 t477, .int .i64 t478, .int .i64 t479, .string t480] 26 (0, 0)) Z39 hb)
       have n4_ := Aside0.mk (below_step Z58 hb)
       clear HO484
       clear HO487
       clear BK481
       clear HB
       have HO484 := n0_
       have HO487 := n1_
       have HO490 := n2_
       have BK481 := n3_
       have HB := n4_
       clear n0_ n1_ n2_ n3_ n4_
       (try clear hb)
       (try clear hb2)
       (try clear hk)
       (try clear hi)
       (try clear ho0)
       obtain ⟨Ao39, co39, eo39⟩ := Kd.R_slice HO487.out
       (first | subst eo39 | (injection eo39 with f1_ f2_ f3_; have f4_ := f1_.symm; have f5_ := f3_.symm; clear f1_ f2_ f3_; subst f4_; subst f5_))
       obtain ⟨Ao40, co40, eo40⟩ := Kd.R_slice HO490.out
       (first | subst eo40 | (injection eo40 with f1_ f2_ f3_; have f4_ := f1_.symm; have f5_ := f3_.symm; clear f1_ f2_ f3_; subst f4_; subst f5_))
       refine hK.out _ _ ⟨(blk_cell BK481.out 0).trans rfl, (blk_cell BK481.out 1).trans rfl, (blk_cell BK481.out 2).trans rfl, (blk_cell BK481.out 3).trans rfl, (blk_cell BK481.out 4).trans rfl, (blk_cell BK481.out 5).trans rfl, (blk_cell BK481.out 6).trans rfl⟩ (fun hHeld => ?_)
       clear hK K
       refine norm_ (a' := ?_) ?_ ?_
       rotate_left
       ·show Act.put _ (some 34) _ = _
        simp only [Act.put, List.setIfInBounds_toArray, List.set_cons_zero, List.set_cons_succ, i64_w, i32_w]
        rfl
       refine one_ (i := 3) (N := some 35) #[true, true, true, true, false, false, false, false, false, false, false, false, false, false, false, false, false, false, false] rfl rfl (one_of HT_.out (by kernel_rfl)) (by decide) (fun K hK => ?_)
       refine goes_ Tryd.func14 (by kernel_rfl) rfl #[.slice Ao39 t485.length co39, .slice Ao40 t488.length co40] (by rfl) rfl rfl Z44 ?_
       with_reducible refine (laws_haBytes.calls kj2 _ _ t485 _ _ t488 false _ ?side1 ?side2 ?side3 ?side4 A17.out).mono ?_
       (case side1 => exact Z64)
       (case side2 => exact (Kd.R_reads' HO487.out).2.1)
       (case side3 => exact Z65)
       (case side4 => exact (Kd.R_reads' HO490.out).2.1)
       rintro e w' ⟨rfl, ⟨nd, rfl⟩⟩
       refine ⟨_, rfl, ?_⟩
       refine hK.out _ _ ⟨(blk_cell BK481.out 0).trans rfl, (blk_cell BK481.out 1).trans rfl, (blk_cell BK481.out 2).trans rfl, (blk_cell BK481.out 3).trans rfl, (blk_cell BK481.out 4).trans rfl, (blk_cell BK481.out 5).trans rfl, (blk_cell BK481.out 6).trans rfl⟩ (fun hHeld => ?_)
       clear hK K
       refine norm_ (a' := ?_) ?_ ?_
       rotate_left
       ·show Act.put _ (some 35) _ = _
        simp only [Act.put, List.setIfInBounds_toArray, List.set_cons_zero, List.set_cons_succ, i64_w, i32_w]
        rfl
       refine pure_ (i := 4) (N := some 36) (v := ?_) (a' := ?_) #[true, true, true, true, true, false, false, false, false, false, false, false, false, false, false, false, false, false, false] rfl rfl (any_of HT_.out (by kernel_rfl)) (fun _ _ _ h => h) (Or.inl ⟨by rfl, ?_⟩) ?_ ?_
       rotate_left
       ·intro w'
        go_simp
        with_reducible rfl
       rotate_left
       ·simp only [Act.put, List.setIfInBounds_toArray, List.set_cons_zero, List.set_cons_succ, i64_w, i32_w]
        rfl
       refine pure_ (i := 5) (N := some 37) (v := ?_) (a' := ?_) #[true, true, true, true, true, true, false, false, false, false, false, false, false, false, false, false, false, false, false] rfl rfl (any_of HT_.out (by kernel_rfl)) (fun _ _ _ h => h) (Or.inl ⟨by rfl, ?_⟩) ?_ ?_
       rotate_left
       ·intro w'
        go_simp
        with_reducible rfl
       rotate_left
       ·simp only [Act.put, List.setIfInBounds_toArray, List.set_cons_zero, List.set_cons_succ, i64_w, i32_w]
        rfl
       refine pure_ (i := 6) (N := some 38) (v := undef) (a' := ?_) #[true, true, true, true, true, true, true, false, false, false, false, false, false, false, false, false, false, false, false] rfl rfl (any_of HT_.out (by kernel_rfl)) (fun _ _ _ h => h) (Or.inr ⟨by rfl, rfl⟩) ?_ ?_
       rotate_left
       ·simp only [Act.put, List.setIfInBounds_toArray, List.set_cons_zero, List.set_cons_succ, i64_w, i32_w]
        rfl
       refine pure_ (i := 7) (N := some 39) (v := undef) (a' := ?_) #[true, true, true, true, true, true, true, true, false, false, false, false, false, false, false, false, false, false, false] rfl rfl (any_of HT_.out (by kernel_rfl)) (fun _ _ _ h => h) (Or.inr ⟨by rfl, rfl⟩) ?_ ?_
       rotate_left
       ·simp only [Act.put, List.setIfInBounds_toArray, List.set_cons_zero, List.set_cons_succ, i64_w, i32_w]
        rfl
       refine pure_ (i := 8) (N := some 40) (v := undef) (a' := ?_) #[true, true, true, true, true, true, true, true, true, false, false, false, false, false, false, false, false, false, false] rfl rfl (any_of HT_.out (by kernel_rfl)) (fun _ _ _ h => h) (Or.inr ⟨by rfl, rfl⟩) ?_ ?_
       rotate_left
       ·simp only [Act.put, List.setIfInBounds_toArray, List.set_cons_zero, List.set_cons_succ, i64_w, i32_w]
        rfl
       refine pure_ (i := 9) (N := some 41) (v := undef) (a' := ?_) #[true, true, true, true, true, true, true, true, true, true, false, false, false, false, false, false, false, false, false] rfl rfl (any_of HT_.out (by kernel_rfl)) (fun _ _ _ h => h) (Or.inr ⟨by rfl, rfl⟩) ?_ ?_
       rotate_left
       ·simp only [Act.put, List.setIfInBounds_toArray, List.set_cons_zero, List.set_cons_succ, i64_w, i32_w]
        rfl
       refine pure_ (i := 10) (N := some 42) (v := undef) (a' := ?_) #[true, true, true, true, true, true, true, true, true, true, true, false, false, false, false, false, false, false, false] rfl rfl (any_of HT_.out (by kernel_rfl)) (fun _ _ _ h => h) (Or.inr ⟨by rfl, rfl⟩) ?_ ?_
       rotate_left
       ·simp only [Act.put, List.setIfInBounds_toArray, List.set_cons_zero, List.set_cons_succ, i64_w, i32_w]
        rfl
       refine pure_ (i := 11) (N := some 43) (v := ?_) (a' := ?_) #[true, true, true, true, true, true, true, true, true, true, true, true, false, false, false, false, false, false, false] rfl rfl (any_of HT_.out (by kernel_rfl)) (fun _ _ _ h => h) (Or.inl ⟨by rfl, ?_⟩) ?_ ?_
       rotate_left
       ·intro w'
        go_simp
        with_reducible rfl
       rotate_left
       ·simp only [Act.put, List.setIfInBounds_toArray, List.set_cons_zero, List.set_cons_succ, i64_w, i32_w]
        rfl
       refine pure_ (i := 12) (N := some 44) (v := ?_) (a' := ?_) #[true, true, true, true, true, true, true, true, true, true, true, true, true, false, false, false, false, false, false] rfl rfl (any_of HT_.out (by kernel_rfl)) (fun _ _ _ h => h) (Or.inl ⟨by rfl, ?_⟩) ?_ ?_
       rotate_left
       ·intro w'
        go_simp
        with_reducible rfl
       rotate_left
       ·simp only [Act.put, List.setIfInBounds_toArray, List.set_cons_zero, List.set_cons_succ, i64_w, i32_w]
        rfl
       refine pure_ (i := 13) (N := some 45) (v := undef) (a' := ?_) #[true, true, true, true, true, true, true, true, true, true, true, true, true, true, false, false, false, false, false] rfl rfl (any_of HT_.out (by kernel_rfl)) (fun _ _ _ h => h) (Or.inr ⟨by rfl, rfl⟩) ?_ ?_
       rotate_left
       ·simp only [Act.put, List.setIfInBounds_toArray, List.set_cons_zero, List.set_cons_succ, i64_w, i32_w]
        rfl
       refine pure_ (i := 14) (N := some 46) (v := undef) (a' := ?_) #[true, true, true, true, true, true, true, true, true, true, true, true, true, true, true, false, false, false, false] rfl rfl (any_of HT_.out (by kernel_rfl)) (fun _ _ _ h => h) (Or.inr ⟨by rfl, rfl⟩) ?_ ?_
       rotate_left
       ·simp only [Act.put, List.setIfInBounds_toArray, List.set_cons_zero, List.set_cons_succ, i64_w, i32_w]
        rfl
       refine pure_ (i := 15) (N := some 47) (v := undef) (a' := ?_) #[true, true, true, true, true, true, true, true, true, true, true, true, true, true, true, true, false, false, false] rfl rfl (any_of HT_.out (by kernel_rfl)) (fun _ _ _ h => h) (Or.inr ⟨by rfl, rfl⟩) ?_ ?_
       rotate_left
       ·simp only [Act.put, List.setIfInBounds_toArray, List.set_cons_zero, List.set_cons_succ, i64_w, i32_w]
        rfl
       refine pure_ (i := 16) (N := some 48) (v := undef) (a' := ?_) #[true, true, true, true, true, true, true, true, true, true, true, true, true, true, true, true, true, false, false] rfl rfl (any_of HT_.out (by kernel_rfl)) (fun _ _ _ h => h) (Or.inr ⟨by rfl, rfl⟩) ?_ ?_
       rotate_left
       ·simp only [Act.put, List.setIfInBounds_toArray, List.set_cons_zero, List.set_cons_succ, i64_w, i32_w]
        rfl
       refine pure_ (i := 17) (N := some 49) (v := undef) (a' := ?_) #[true, true, true, true, true, true, true, true, true, true, true, true, true, true, true, true, true, true, false] rfl rfl (any_of HT_.out (by kernel_rfl)) (fun _ _ _ h => h) (Or.inr ⟨by rfl, rfl⟩) ?_ ?_
       rotate_left
       ·simp only [Act.put, List.setIfInBounds_toArray, List.set_cons_zero, List.set_cons_succ, i64_w, i32_w]
        rfl
       refine pure_ (i := 18) (N := some 50) (v := ?_) (a' := ?_) #[true, true, true, true, true, true, true, true, true, true, true, true, true, true, true, true, true, true, true] rfl rfl (any_of HT_.out (by kernel_rfl)) (fun _ _ _ h => h) (Or.inl ⟨by rfl, ?_⟩) ?_ ?_
       rotate_left
       ·intro w'
        go_simp
        with_reducible rfl
       rotate_left
       ·simp only [Act.put, List.setIfInBounds_toArray, List.set_cons_zero, List.set_cons_succ, i64_w, i32_w]
        rfl
       refine done_ (done_of HT_.out (by kernel_rfl)) ?_
       as_aux_lemma =>
        try go_wp2
        go_meet
        case rel => exact ⟨_, (true), Z1, H', ⟨by have := HJ2.out; first | omega | exact Nat.le_refl _⟩, ⟨by (with_reducible repeat (first | apply Kd.R_alloc | apply Kd.R_drewN | apply Kd.R_drew)); exact Kd.R_mono HO484.out (fun _ hk => hk.1.2)⟩, ⟨by (with_reducible repeat (first | apply Kd.R_alloc | apply Kd.R_drewN | apply Kd.R_drew)); exact Kd.R_mono HO487.out (fun _ hk => hk.1.2)⟩, ⟨by (with_reducible repeat (first | refine blk_drewN ?_ _ | refine blk_drew ?_ | refine blk_alloc ?_ _)); exact BK481.out⟩, ⟨by repeat (first | (with_reducible first | exact HB.out | apply below_alloc | apply pw_below_drewN | apply below_drew1 | refine below_set ?_ GE481.out) | exact HB.out)⟩⟩
    case rest =>
     clear HC9
     try clear c1
     try clear c2
     try clear p2
     try clear c14
     try clear c15
     try clear c16
     try clear c17
     try clear c18
     try clear c19
     try clear c21
     try clear c21b0
     try clear c21b1
     try clear c21b2
     obtain ⟨kq, x50_8, rfl, HA, HJ8, HO_6, HO_7, BK481, HB⟩ := hcut
     cases kq with
     | zero => exact absurd HA.out (by simp [laws_FnSegBytes.j1])
     | succ kj8 =>
      have H := HA.out
      clear HA
      simp only [laws_FnSegBytes.j1] at H
      by_cases c41 : x50_8 = true
      ·subst c41
       have H1 : (some false) = some r := by rw [if_pos rfl] at H; exact H
       clear H
       have H := H1
       clear H1
       exact absurd (H.trans (congrArg some HR_.out)) (by simp)
      ·replace c41 := Bool.eq_false_iff.mpr c41
       subst c41
       have H1 : ((spec_SegOk.f kj8 t474 t475 t476 t477 t478 t479 t480).bind fun t496 => (if t496 = true then ((impl_SegRead.f kj8 t485).bind fun bt498 => (if bt498.2.2.2.2.2.2.2 = true then (laws_FnSegBytes.j2 kj8 l0 t482 t485 ((!(bt498.1 == t474) || (!(bt498.2.1 == t475))) || ((!(bt498.2.2.1 == t476) || (!(bt498.2.2.2.1 == t477))) || (!(bt498.2.2.2.2.1 == t478) || (!(bt498.2.2.2.2.2.1 == t479) || (!(bt498.2.2.2.2.2.2.1.toList == t480.toList))))))) else (laws_FnSegBytes.j2 kj8 l0 t482 t485 true))) else (if (t485.length : Int) = 0 then ((laws_haOk.f).bind fun t497 => (some t497)) else (some false)))) = some r := by rw [if_neg (show ¬ (false = true) by decide)] at H; exact H
       clear H
       have H := H1
       clear H1
       replace H := Option.bind_eq_some_iff.mp H
       obtain ⟨t496, A420, H⟩ := H
       replace H : (if t496 = true then ((impl_SegRead.f kj8 t485).bind fun bt498 => (if bt498.2.2.2.2.2.2.2 = true then (laws_FnSegBytes.j2 kj8 l0 t482 t485 ((!(bt498.1 == t474) || (!(bt498.2.1 == t475))) || ((!(bt498.2.2.1 == t476) || (!(bt498.2.2.2.1 == t477))) || (!(bt498.2.2.2.2.1 == t478) || (!(bt498.2.2.2.2.2.1 == t479) || (!(bt498.2.2.2.2.2.2.1.toList == t480.toList))))))) else (laws_FnSegBytes.j2 kj8 l0 t482 t485 true))) else (if (t485.length : Int) = 0 then ((laws_haOk.f).bind fun t497 => (some t497)) else (some false))) = some r := H
       have A42 := Aside0.mk A420
       clear A420
       by_cases c43 : t496 = true
       ·subst c43
        have H1 : ((impl_SegRead.f kj8 t485).bind fun bt498 => (if bt498.2.2.2.2.2.2.2 = true then (laws_FnSegBytes.j2 kj8 l0 t482 t485 ((!(bt498.1 == t474) || (!(bt498.2.1 == t475))) || ((!(bt498.2.2.1 == t476) || (!(bt498.2.2.2.1 == t477))) || (!(bt498.2.2.2.2.1 == t478) || (!(bt498.2.2.2.2.2.1 == t479) || (!(bt498.2.2.2.2.2.2.1.toList == t480.toList))))))) else (laws_FnSegBytes.j2 kj8 l0 t482 t485 true))) = some r := by rw [if_pos rfl] at H; exact H
        clear H
        have H := H1
        clear H1
        replace H := Option.bind_eq_some_iff.mp H
        obtain ⟨⟨t498, t499, t500, t501, t502, t503, t504, t505⟩, A440, H⟩ := H
        replace H : (if t505 = true then (laws_FnSegBytes.j2 kj8 l0 t482 t485 ((!(t498 == t474) || (!(t499 == t475))) || ((!(t500 == t476) || (!(t501 == t477))) || (!(t502 == t478) || (!(t503 == t479) || (!(t504.toList == t480.toList))))))) else (laws_FnSegBytes.j2 kj8 l0 t482 t485 true)) = some r := H
        have A44 := Aside0.mk A440
        clear A440
        have HC45 := Aside0.mk H
        clear H
        have hcz46_0 : wc.cell? ⟨gb481, 0, none⟩ = some (.int .i64 t474) := (blk_cell BK481.out 0).trans rfl
        have hcz46_1 : wc.cell? ⟨gb481, 1, none⟩ = some (.int .i64 t475) := (blk_cell BK481.out 1).trans rfl
        have hcz46_2 : wc.cell? ⟨gb481, 2, none⟩ = some (.int .i64 t476) := (blk_cell BK481.out 2).trans rfl
        have hcz46_3 : wc.cell? ⟨gb481, 3, none⟩ = some (.int .i64 t477) := (blk_cell BK481.out 3).trans rfl
        have hcz46_4 : wc.cell? ⟨gb481, 4, none⟩ = some (.int .i64 t478) := (blk_cell BK481.out 4).trans rfl
        have hcz46_5 : wc.cell? ⟨gb481, 5, none⟩ = some (.int .i64 t479) := (blk_cell BK481.out 5).trans rfl
        have hcz46_6 : wc.cell? ⟨gb481, 6, none⟩ = some (.string t480) := (blk_cell BK481.out 6).trans rfl
        have hfz46_0 := blk_frozen BK481.out 0
        have hfz46_1 := blk_frozen BK481.out 1
        have hfz46_2 := blk_frozen BK481.out 2
        have hfz46_3 := blk_frozen BK481.out 3
        have hfz46_4 := blk_frozen BK481.out 4
        have hfz46_5 := blk_frozen BK481.out 5
        have hfz46_6 := blk_frozen BK481.out 6
        go_upto_region 11 with (first | ((with_reducible refine gate_callee (f := 17) rfl ?_); refine goesL_ (some 52) rfl rfl Tryd.func17 (by kernel_rfl) rfl #[.agg #[.int .i64 t474, .int .i64 t475, .int .i64 t476, .int .i64 t477, .int .i64 t478, .int .i64 t479, .string t480]] rfl Z44 ?_; (with_reducible refine (spec_SegOk.calls kj8 t474 t475 t476 t477 t478 t479 t480 true _ A42.out).mono ?_); rintro e w47 ⟨rfl, hb⟩; refine ⟨_, rfl, ?_⟩; have n0_ := Aside0.mk (Kd.R_below Z5 hb); have n1_ := Aside0.mk (Kd.R_below Z6 hb); have n2_ := Aside0.mk (blk_below (g := gb481) (o := .cells #[.int .i64 t474, .int .i64 t475, .int .i64 t476, .int .i64 t477, .int .i64 t478, .int .i64 t479, .string t480] 26 (0, 0)) Z39 hb); have n3_ := Aside0.mk (below_step Z58 hb); clear HO_6; clear HO_7; clear BK481; clear HB; have HO_6 := n0_; have HO_7 := n1_; have BK481 := n2_; have HB := n3_; clear n0_ n1_ n2_ n3_; (try clear hb); obtain ⟨Ao48, co48, eo48⟩ := Kd.R_slice HO_7.out; subst eo48) | ((with_reducible refine gate_callee (f := 8) rfl ?_); refine goesL_ (some 62) rfl rfl Tryd.func8 (by kernel_rfl) rfl #[.slice Ao48 t485.length co48] rfl Z44 ?_; (with_reducible refine (impl_SegRead.calls kj8 _ _ t485 t498 t499 t500 t501 t502 t503 t504 t505 _ ?side1 ?side2 A44.out ?sideL_).mono ?_); (case sideL_ => exact (Ends.LShort.below HL_.out Z94)); (case side1 => exact Z59); (case side2 => exact (Kd.R_reads' HO_7.out).2.1); rintro e w49 ⟨rfl, hb⟩; refine ⟨_, rfl, ?_⟩; have n0_ := Aside0.mk (Kd.R_below Z5 hb); have n1_ := Aside0.mk (Kd.R_below Z6 hb); have n2_ := Aside0.mk (blk_below (g := gb481) (o := .cells #[.int .i64 t474, .int .i64 t475, .int .i64 t476, .int .i64 t477, .int .i64 t478, .int .i64 t479, .string t480] 26 (0, 0)) Z39 hb); have n3_ := Aside0.mk (below_step Z58 hb); clear HO_6; clear HO_7; clear BK481; clear HB; have HO_6 := n0_; have HO_7 := n1_; have BK481 := n2_; have HB := n3_; clear n0_ n1_ n2_ n3_; (try clear hb)) | ((with_reducible refine gate_dst (N := 8) rfl ?_); (try (refine gate_guard (by rfl) ?_; dsimp only)); refine box_event ?hg (N := 8) ?hd (cs := #[.int .i64 0, .int .i64 0, .int .i64 0, .int .i64 0, .int .i64 0, .int .i64 0, .string (⟨#[]⟩ : ByteArray)]) (t := 26) ?hr ?_; (case hd => rfl); (case hg => rfl); (case hr => first | (go_simp; done) | (go_simp; rfl)); intro gb506 hg w50 hbox hb; have n0_ := Aside0.mk (Kd.R_below Z5 hb); have n1_ := Aside0.mk (Kd.R_below Z6 hb); have n2_ := Aside0.mk (blk_below (g := gb481) (o := .cells #[.int .i64 t474, .int .i64 t475, .int .i64 t476, .int .i64 t477, .int .i64 t478, .int .i64 t479, .string t480] 26 (0, 0)) Z39 hb); have n3_ := Aside0.mk (below_step Z58 hb); have n4_ := Aside0.mk (hbox); have n5_ := Aside0.mk ((by rw [hg]; exact (below_size Z58) : w.heap.size ≤ gb506)); have n6_ := Aside0.mk ((by rw [hg]; exact (below_size Z58) : w.heap.size ≤ gb506)); have n7_ := Aside0.mk ((by rw [hg]; exact Nat.ne_of_lt (blk_lt (g := gb481) (o := .cells #[.int .i64 t474, .int .i64 t475, .int .i64 t476, .int .i64 t477, .int .i64 t478, .int .i64 t479, .string t480] 26 (0, 0)) Z39) : gb481 ≠ gb506)); have n8_ := Aside0.mk ((by rw [hg]; exact Nat.ne_of_gt (blk_lt (g := gb481) (o := .cells #[.int .i64 t474, .int .i64 t475, .int .i64 t476, .int .i64 t477, .int .i64 t478, .int .i64 t479, .string t480] 26 (0, 0)) Z39) : gb506 ≠ gb481)); clear HO_6; clear HO_7; clear BK481; clear HB; have HO_6 := n0_; have HO_7 := n1_; have BK481 := n2_; have HB := n3_; have BK506 := n4_; have GW506 := n5_; have GE506 := n6_; have NB481_506 := n7_; have NB506_481 := n8_; clear n0_ n1_ n2_ n3_ n4_ n5_ n6_ n7_ n8_; clear hb hbox hg; have hnb51 := NB506_481.out; have hnc51 := NB481_506.out; have hcz52_0 : w50.cell? ⟨gb506, 0, none⟩ = some (.int .i64 0) := (blk_cell BK506.out 0).trans rfl; have hcz52_1 : w50.cell? ⟨gb506, 1, none⟩ = some (.int .i64 0) := (blk_cell BK506.out 1).trans rfl; have hcz52_2 : w50.cell? ⟨gb506, 2, none⟩ = some (.int .i64 0) := (blk_cell BK506.out 2).trans rfl; have hcz52_3 : w50.cell? ⟨gb506, 3, none⟩ = some (.int .i64 0) := (blk_cell BK506.out 3).trans rfl; have hcz52_4 : w50.cell? ⟨gb506, 4, none⟩ = some (.int .i64 0) := (blk_cell BK506.out 4).trans rfl; have hcz52_5 : w50.cell? ⟨gb506, 5, none⟩ = some (.int .i64 0) := (blk_cell BK506.out 5).trans rfl; have hcz52_6 : w50.cell? ⟨gb506, 6, none⟩ = some (.string (⟨#[]⟩ : ByteArray)) := (blk_cell BK506.out 6).trans rfl; have hfz52_0 := blk_frozen BK506.out 0; have hfz52_1 := blk_frozen BK506.out 1; have hfz52_2 := blk_frozen BK506.out 2; have hfz52_3 := blk_frozen BK506.out 3; have hfz52_4 := blk_frozen BK506.out 4; have hfz52_5 := blk_frozen BK506.out 5; have hfz52_6 := blk_frozen BK506.out 6))
        (try simp only [Act.put, List.setIfInBounds_toArray, List.set_cons_zero, List.set_cons_succ])
        go_cut [71] (fun v71 wc => ∃ (kq : Nat) (x71_44 : Bool), v71 = .bool x71_44 ∧ Aside0 (laws_FnSegBytes.j2 kq l0 t482 t485 x71_44 = some r) ∧ Aside0 (kq ≤ kj8) ∧ Aside0 (Kd.R (Kd.int .u8) 5 wc w.heap.size (fun k_ => some k_ ≠ ((.slice Ao48 t485.length co48) : Value).ownBlock) v483 t482) ∧ Aside0 (Kd.R (Kd.int .u8) 5 wc w.heap.size (fun k_ => some k_ ≠ (v483 : Value).ownBlock) (.slice Ao48 t485.length co48) t485) ∧ Aside0 (wc.heap[gb481]? = some (.cells #[.int .i64 t474, .int .i64 t475, .int .i64 t476, .int .i64 t477, .int .i64 t478, .int .i64 t479, .string t480] 26 (0, 0))) ∧ Aside0 (wc.heap[gb506]? = some (.cells #[.int .i64 t498, .int .i64 t499, .int .i64 t500, .int .i64 t501, .int .i64 t502, .int .i64 t503, .string t504] 26 (0, 0))) ∧ Aside0 (Below w.heap.size w wc))
        case first =>
         have H := HC45.out
         clear HC45
         by_cases c53 : t505 = true
         ·subst c53
          have H1 : (laws_FnSegBytes.j2 kj8 l0 t482 t485 ((!(t498 == t474) || (!(t499 == t475))) || ((!(t500 == t476) || (!(t501 == t477))) || (!(t502 == t478) || (!(t503 == t479) || (!(t504.toList == t480.toList))))))) = some r := by rw [if_pos rfl] at H; exact H
          clear H
          have H := H1
          clear H1
          have H' := Aside0.mk H
          clear H
          have hnb54 := NB506_481.out
          have hnc54 := NB481_506.out
          have hcz55_0 : w50.cell? ⟨gb506, 0, none⟩ = some (.int .i64 0) := (blk_cell BK506.out 0).trans rfl
          have hcz55_1 : w50.cell? ⟨gb506, 1, none⟩ = some (.int .i64 0) := (blk_cell BK506.out 1).trans rfl
          have hcz55_2 : w50.cell? ⟨gb506, 2, none⟩ = some (.int .i64 0) := (blk_cell BK506.out 2).trans rfl
          have hcz55_3 : w50.cell? ⟨gb506, 3, none⟩ = some (.int .i64 0) := (blk_cell BK506.out 3).trans rfl
          have hcz55_4 : w50.cell? ⟨gb506, 4, none⟩ = some (.int .i64 0) := (blk_cell BK506.out 4).trans rfl
          have hcz55_5 : w50.cell? ⟨gb506, 5, none⟩ = some (.int .i64 0) := (blk_cell BK506.out 5).trans rfl
          have hcz55_6 : w50.cell? ⟨gb506, 6, none⟩ = some (.string (⟨#[]⟩ : ByteArray)) := (blk_cell BK506.out 6).trans rfl
          have hfz55_0 := blk_frozen BK506.out 0
          have hfz55_1 := blk_frozen BK506.out 1
          have hfz55_2 := blk_frozen BK506.out 2
          have hfz55_3 := blk_frozen BK506.out 3
          have hfz55_4 := blk_frozen BK506.out 4
          have hfz55_5 := blk_frozen BK506.out 5
          have hfz55_6 := blk_frozen BK506.out 6
          have hcz56_0 : w50.cell? ⟨gb481, 0, none⟩ = some (.int .i64 t474) := (blk_cell BK481.out 0).trans rfl
          have hcz56_1 : w50.cell? ⟨gb481, 1, none⟩ = some (.int .i64 t475) := (blk_cell BK481.out 1).trans rfl
          have hcz56_2 : w50.cell? ⟨gb481, 2, none⟩ = some (.int .i64 t476) := (blk_cell BK481.out 2).trans rfl
          have hcz56_3 : w50.cell? ⟨gb481, 3, none⟩ = some (.int .i64 t477) := (blk_cell BK481.out 3).trans rfl
          have hcz56_4 : w50.cell? ⟨gb481, 4, none⟩ = some (.int .i64 t478) := (blk_cell BK481.out 4).trans rfl
          have hcz56_5 : w50.cell? ⟨gb481, 5, none⟩ = some (.int .i64 t479) := (blk_cell BK481.out 5).trans rfl
          have hcz56_6 : w50.cell? ⟨gb481, 6, none⟩ = some (.string t480) := (blk_cell BK481.out 6).trans rfl
          have hfz56_0 := blk_frozen BK481.out 0
          have hfz56_1 := blk_frozen BK481.out 1
          have hfz56_2 := blk_frozen BK481.out 2
          have hfz56_3 := blk_frozen BK481.out 3
          have hfz56_4 := blk_frozen BK481.out 4
          have hfz56_5 := blk_frozen BK481.out 5
          have hfz56_6 := blk_frozen BK481.out 6
          go_wp2
          go_meet
          case rel => exact ⟨_, (((!(t498 == t474) || (!(t499 == t475))) || ((!(t500 == t476) || (!(t501 == t477))) || (!(t502 == t478) || (!(t503 == t479) || (!(t504.toList == t480.toList))))))), Z1, H', ⟨by have := HJ2.out; have := HJ8.out; first | omega | exact Nat.le_refl _⟩, ⟨by (with_reducible repeat (first | apply Kd.R_alloc | apply Kd.R_drewN | apply Kd.R_drew)); exact Kd.R_mono (Kd.R_far (p := ⟨gb506, 6, none⟩) (Kd.R_far (p := ⟨gb506, 5, none⟩) (Kd.R_far (p := ⟨gb506, 4, none⟩) (Kd.R_far (p := ⟨gb506, 3, none⟩) (Kd.R_far (p := ⟨gb506, 2, none⟩) (Kd.R_far (p := ⟨gb506, 1, none⟩) (Kd.R_far (p := ⟨gb506, 0, none⟩) (Kd.R_types HO_6.out BK506.out (by decide)) (fun _ hk => hk.2) (.int .i64 t498)) (fun _ hk => hk.2) (.int .i64 t499)) (fun _ hk => hk.2) (.int .i64 t500)) (fun _ hk => hk.2) (.int .i64 t501)) (fun _ hk => hk.2) (.int .i64 t502)) (fun _ hk => hk.2) (.int .i64 t503)) (fun _ hk => hk.2) (.string t504)) (fun _ hk => hk.1)⟩, ⟨by (with_reducible repeat (first | apply Kd.R_alloc | apply Kd.R_drewN | apply Kd.R_drew)); exact Kd.R_mono (Kd.R_far (p := ⟨gb506, 6, none⟩) (Kd.R_far (p := ⟨gb506, 5, none⟩) (Kd.R_far (p := ⟨gb506, 4, none⟩) (Kd.R_far (p := ⟨gb506, 3, none⟩) (Kd.R_far (p := ⟨gb506, 2, none⟩) (Kd.R_far (p := ⟨gb506, 1, none⟩) (Kd.R_far (p := ⟨gb506, 0, none⟩) (Kd.R_types HO_7.out BK506.out (by decide)) (fun _ hk => hk.2) (.int .i64 t498)) (fun _ hk => hk.2) (.int .i64 t499)) (fun _ hk => hk.2) (.int .i64 t500)) (fun _ hk => hk.2) (.int .i64 t501)) (fun _ hk => hk.2) (.int .i64 t502)) (fun _ hk => hk.2) (.int .i64 t503)) (fun _ hk => hk.2) (.string t504)) (fun _ hk => hk.1)⟩, ⟨by (with_reducible repeat (first | refine blk_drewN ?_ _ | refine blk_drew ?_ | refine blk_alloc ?_ _)); refine blk_far ?_ NB481_506.out _; (with_reducible repeat (first | refine blk_drewN ?_ _ | refine blk_drew ?_ | refine blk_alloc ?_ _)); refine blk_far ?_ NB481_506.out _; (with_reducible repeat (first | refine blk_drewN ?_ _ | refine blk_drew ?_ | refine blk_alloc ?_ _)); refine blk_far ?_ NB481_506.out _; (with_reducible repeat (first | refine blk_drewN ?_ _ | refine blk_drew ?_ | refine blk_alloc ?_ _)); refine blk_far ?_ NB481_506.out _; (with_reducible repeat (first | refine blk_drewN ?_ _ | refine blk_drew ?_ | refine blk_alloc ?_ _)); refine blk_far ?_ NB481_506.out _; (with_reducible repeat (first | refine blk_drewN ?_ _ | refine blk_drew ?_ | refine blk_alloc ?_ _)); refine blk_far ?_ NB481_506.out _; (with_reducible repeat (first | refine blk_drewN ?_ _ | refine blk_drew ?_ | refine blk_alloc ?_ _)); refine blk_far ?_ NB481_506.out _; (with_reducible repeat (first | refine blk_drewN ?_ _ | refine blk_drew ?_ | refine blk_alloc ?_ _)); exact BK481.out⟩, ⟨by (with_reducible repeat (first | refine blk_drewN ?_ _ | refine blk_drew ?_ | refine blk_alloc ?_ _)); refine blk_put (cs := #[.int .i64 t498, .int .i64 t499, .int .i64 t500, .int .i64 t501, .int .i64 t502, .int .i64 t503, .string (⟨#[]⟩ : ByteArray)]) ?_ 6 _ rfl; (with_reducible repeat (first | refine blk_drewN ?_ _ | refine blk_drew ?_ | refine blk_alloc ?_ _)); refine blk_put (cs := #[.int .i64 t498, .int .i64 t499, .int .i64 t500, .int .i64 t501, .int .i64 t502, .int .i64 0, .string (⟨#[]⟩ : ByteArray)]) ?_ 5 _ rfl; (with_reducible repeat (first | refine blk_drewN ?_ _ | refine blk_drew ?_ | refine blk_alloc ?_ _)); refine blk_put (cs := #[.int .i64 t498, .int .i64 t499, .int .i64 t500, .int .i64 t501, .int .i64 0, .int .i64 0, .string (⟨#[]⟩ : ByteArray)]) ?_ 4 _ rfl; (with_reducible repeat (first | refine blk_drewN ?_ _ | refine blk_drew ?_ | refine blk_alloc ?_ _)); refine blk_put (cs := #[.int .i64 t498, .int .i64 t499, .int .i64 t500, .int .i64 0, .int .i64 0, .int .i64 0, .string (⟨#[]⟩ : ByteArray)]) ?_ 3 _ rfl; (with_reducible repeat (first | refine blk_drewN ?_ _ | refine blk_drew ?_ | refine blk_alloc ?_ _)); refine blk_put (cs := #[.int .i64 t498, .int .i64 t499, .int .i64 0, .int .i64 0, .int .i64 0, .int .i64 0, .string (⟨#[]⟩ : ByteArray)]) ?_ 2 _ rfl; (with_reducible repeat (first | refine blk_drewN ?_ _ | refine blk_drew ?_ | refine blk_alloc ?_ _)); refine blk_put (cs := #[.int .i64 t498, .int .i64 0, .int .i64 0, .int .i64 0, .int .i64 0, .int .i64 0, .string (⟨#[]⟩ : ByteArray)]) ?_ 1 _ rfl; (with_reducible repeat (first | refine blk_drewN ?_ _ | refine blk_drew ?_ | refine blk_alloc ?_ _)); refine blk_put (cs := #[.int .i64 0, .int .i64 0, .int .i64 0, .int .i64 0, .int .i64 0, .int .i64 0, .string (⟨#[]⟩ : ByteArray)]) ?_ 0 _ rfl; (with_reducible repeat (first | refine blk_drewN ?_ _ | refine blk_drew ?_ | refine blk_alloc ?_ _)); exact BK506.out⟩, ⟨by repeat (first | (with_reducible first | exact HB.out | apply below_alloc | apply pw_below_drewN | apply below_drew1 | refine below_set ?_ GE481.out | refine below_set ?_ GE506.out) | exact HB.out)⟩⟩
         ·replace c53 := Bool.eq_false_iff.mpr c53
          subst c53
          have H1 : (laws_FnSegBytes.j2 kj8 l0 t482 t485 true) = some r := by rw [if_neg (show ¬ (false = true) by decide)] at H; exact H
          clear H
          have H := H1
          clear H1
          have H' := Aside0.mk H
          clear H
          go_wp2
          go_meet
          case rel => exact ⟨_, (true), Z1, H', ⟨by have := HJ2.out; have := HJ8.out; first | omega | exact Nat.le_refl _⟩, ⟨by (with_reducible repeat (first | apply Kd.R_alloc | apply Kd.R_drewN | apply Kd.R_drew)); exact Kd.R_mono (Kd.R_far (p := ⟨gb506, 6, none⟩) (Kd.R_far (p := ⟨gb506, 5, none⟩) (Kd.R_far (p := ⟨gb506, 4, none⟩) (Kd.R_far (p := ⟨gb506, 3, none⟩) (Kd.R_far (p := ⟨gb506, 2, none⟩) (Kd.R_far (p := ⟨gb506, 1, none⟩) (Kd.R_far (p := ⟨gb506, 0, none⟩) (Kd.R_types HO_6.out BK506.out (by decide)) (fun _ hk => hk.2) (.int .i64 t498)) (fun _ hk => hk.2) (.int .i64 t499)) (fun _ hk => hk.2) (.int .i64 t500)) (fun _ hk => hk.2) (.int .i64 t501)) (fun _ hk => hk.2) (.int .i64 t502)) (fun _ hk => hk.2) (.int .i64 t503)) (fun _ hk => hk.2) (.string t504)) (fun _ hk => hk.1)⟩, ⟨by (with_reducible repeat (first | apply Kd.R_alloc | apply Kd.R_drewN | apply Kd.R_drew)); exact Kd.R_mono (Kd.R_far (p := ⟨gb506, 6, none⟩) (Kd.R_far (p := ⟨gb506, 5, none⟩) (Kd.R_far (p := ⟨gb506, 4, none⟩) (Kd.R_far (p := ⟨gb506, 3, none⟩) (Kd.R_far (p := ⟨gb506, 2, none⟩) (Kd.R_far (p := ⟨gb506, 1, none⟩) (Kd.R_far (p := ⟨gb506, 0, none⟩) (Kd.R_types HO_7.out BK506.out (by decide)) (fun _ hk => hk.2) (.int .i64 t498)) (fun _ hk => hk.2) (.int .i64 t499)) (fun _ hk => hk.2) (.int .i64 t500)) (fun _ hk => hk.2) (.int .i64 t501)) (fun _ hk => hk.2) (.int .i64 t502)) (fun _ hk => hk.2) (.int .i64 t503)) (fun _ hk => hk.2) (.string t504)) (fun _ hk => hk.1)⟩, ⟨by (with_reducible repeat (first | refine blk_drewN ?_ _ | refine blk_drew ?_ | refine blk_alloc ?_ _)); refine blk_far ?_ NB481_506.out _; (with_reducible repeat (first | refine blk_drewN ?_ _ | refine blk_drew ?_ | refine blk_alloc ?_ _)); refine blk_far ?_ NB481_506.out _; (with_reducible repeat (first | refine blk_drewN ?_ _ | refine blk_drew ?_ | refine blk_alloc ?_ _)); refine blk_far ?_ NB481_506.out _; (with_reducible repeat (first | refine blk_drewN ?_ _ | refine blk_drew ?_ | refine blk_alloc ?_ _)); refine blk_far ?_ NB481_506.out _; (with_reducible repeat (first | refine blk_drewN ?_ _ | refine blk_drew ?_ | refine blk_alloc ?_ _)); refine blk_far ?_ NB481_506.out _; (with_reducible repeat (first | refine blk_drewN ?_ _ | refine blk_drew ?_ | refine blk_alloc ?_ _)); refine blk_far ?_ NB481_506.out _; (with_reducible repeat (first | refine blk_drewN ?_ _ | refine blk_drew ?_ | refine blk_alloc ?_ _)); refine blk_far ?_ NB481_506.out _; (with_reducible repeat (first | refine blk_drewN ?_ _ | refine blk_drew ?_ | refine blk_alloc ?_ _)); exact BK481.out⟩, ⟨by (with_reducible repeat (first | refine blk_drewN ?_ _ | refine blk_drew ?_ | refine blk_alloc ?_ _)); refine blk_put (cs := #[.int .i64 t498, .int .i64 t499, .int .i64 t500, .int .i64 t501, .int .i64 t502, .int .i64 t503, .string (⟨#[]⟩ : ByteArray)]) ?_ 6 _ rfl; (with_reducible repeat (first | refine blk_drewN ?_ _ | refine blk_drew ?_ | refine blk_alloc ?_ _)); refine blk_put (cs := #[.int .i64 t498, .int .i64 t499, .int .i64 t500, .int .i64 t501, .int .i64 t502, .int .i64 0, .string (⟨#[]⟩ : ByteArray)]) ?_ 5 _ rfl; (with_reducible repeat (first | refine blk_drewN ?_ _ | refine blk_drew ?_ | refine blk_alloc ?_ _)); refine blk_put (cs := #[.int .i64 t498, .int .i64 t499, .int .i64 t500, .int .i64 t501, .int .i64 0, .int .i64 0, .string (⟨#[]⟩ : ByteArray)]) ?_ 4 _ rfl; (with_reducible repeat (first | refine blk_drewN ?_ _ | refine blk_drew ?_ | refine blk_alloc ?_ _)); refine blk_put (cs := #[.int .i64 t498, .int .i64 t499, .int .i64 t500, .int .i64 0, .int .i64 0, .int .i64 0, .string (⟨#[]⟩ : ByteArray)]) ?_ 3 _ rfl; (with_reducible repeat (first | refine blk_drewN ?_ _ | refine blk_drew ?_ | refine blk_alloc ?_ _)); refine blk_put (cs := #[.int .i64 t498, .int .i64 t499, .int .i64 0, .int .i64 0, .int .i64 0, .int .i64 0, .string (⟨#[]⟩ : ByteArray)]) ?_ 2 _ rfl; (with_reducible repeat (first | refine blk_drewN ?_ _ | refine blk_drew ?_ | refine blk_alloc ?_ _)); refine blk_put (cs := #[.int .i64 t498, .int .i64 0, .int .i64 0, .int .i64 0, .int .i64 0, .int .i64 0, .string (⟨#[]⟩ : ByteArray)]) ?_ 1 _ rfl; (with_reducible repeat (first | refine blk_drewN ?_ _ | refine blk_drew ?_ | refine blk_alloc ?_ _)); refine blk_put (cs := #[.int .i64 0, .int .i64 0, .int .i64 0, .int .i64 0, .int .i64 0, .int .i64 0, .string (⟨#[]⟩ : ByteArray)]) ?_ 0 _ rfl; (with_reducible repeat (first | refine blk_drewN ?_ _ | refine blk_drew ?_ | refine blk_alloc ?_ _)); exact BK506.out⟩, ⟨by repeat (first | (with_reducible first | exact HB.out | apply below_alloc | apply pw_below_drewN | apply below_drew1 | refine below_set ?_ GE481.out | refine below_set ?_ GE506.out) | exact HB.out)⟩⟩
        case rest =>
         clear HC45
         try clear c1
         try clear c2
         try clear p2
         try clear c4
         try clear c5
         try clear c8
         try clear c14
         try clear c15
         try clear c16
         try clear c17
         try clear c18
         try clear c19
         try clear c21
         try clear c21b0
         try clear c21b1
         try clear c21b2
         try clear c41
         try clear c43
         try clear c51
         try clear c53
         try clear c54
         try clear hcz46_0
         try clear hcz46_1
         try clear hcz46_2
         try clear hcz46_3
         try clear hcz46_4
         try clear hcz46_5
         try clear hcz46_6
         try clear hcz52_0
         try clear hcz52_1
         try clear hcz52_2
         try clear hcz52_3
         try clear hcz52_4
         try clear hcz52_5
         try clear hcz52_6
         try clear hcz55_0
         try clear hcz55_1
         try clear hcz55_2
         try clear hcz55_3
         try clear hcz55_4
         try clear hcz55_5
         try clear hcz55_6
         try clear hcz56_0
         try clear hcz56_1
         try clear hcz56_2
         try clear hcz56_3
         try clear hcz56_4
         try clear hcz56_5
         try clear hcz56_6
         try clear hfz46_0
         try clear hfz46_1
         try clear hfz46_2
         try clear hfz46_3
         try clear hfz46_4
         try clear hfz46_5
         try clear hfz46_6
         try clear hfz52_0
         try clear hfz52_1
         try clear hfz52_2
         try clear hfz52_3
         try clear hfz52_4
         try clear hfz52_5
         try clear hfz52_6
         try clear hfz55_0
         try clear hfz55_1
         try clear hfz55_2
         try clear hfz55_3
         try clear hfz55_4
         try clear hfz55_5
         try clear hfz55_6
         try clear hfz56_0
         try clear hfz56_1
         try clear hfz56_2
         try clear hfz56_3
         try clear hfz56_4
         try clear hfz56_5
         try clear hfz56_6
         try clear p2
         obtain ⟨kq, x71_44, rfl, HA, HJ44, HO_6, HO_7, BK481, BK506, HB⟩ := hcut
         cases kq with
         | zero => exact absurd HA.out (by simp [laws_FnSegBytes.j2])
         | succ kj44 =>
          have H := HA.out
          clear HA
          simp only [laws_FnSegBytes.j2] at H
          by_cases c57 : x71_44 = true
          ·subst c57
           have H1 : (some false) = some r := by rw [if_pos rfl] at H; exact H
           clear H
           have H := H1
           clear H1
           exact absurd (H.trans (congrArg some HR_.out)) (by simp)
          ·replace c57 := Bool.eq_false_iff.mpr c57
           subst c57
           have H1 : ((some (([] : List Int) : List Int)).bind fun y507 => (if y507.length + t485.length < 140737488355328 then ((some (y507 ++ t485 : List Int)).bind fun y510 => (if y510.length < 140737488355328 then ((impl_SegRead.f kj44 (y510 ++ [0])).bind fun bt516 => (if 0 ≤ (wrap64 ((t485.length : Int) - 1)) then (if (wrap64 ((t485.length : Int) - 1)) ≤ (t485.length : Int) then ((impl_SegRead.f kj44 (t485.take ((wrap64 ((t485.length : Int) - 1)) : Int).toNat)).bind fun bt528 => ((some (([] : List Int) : List Int)).bind fun y536 => (if y536.length + t485.length < 140737488355328 then ((some (y536 ++ t485 : List Int)).bind fun y539 => (if (y539.length : Int) = 0 then (none) else (if 0 ≤ (Int.tmod (wrap64 ((wrap64 ((t482.length : Int) * 37)) + (l0.length : Int))) (y539.length : Int)) then (if (Int.tmod (wrap64 ((wrap64 ((t482.length : Int) * 37)) + (l0.length : Int))) (y539.length : Int)) < (y539.length : Int) then ((impl_SegRead.f kj44 (y539.set ((Int.tmod (wrap64 ((wrap64 ((t482.length : Int) * 37)) + (l0.length : Int))) (y539.length : Int)) : Int).toNat (Go.bits .xor .u8 (rd y539 (Int.tmod (wrap64 ((wrap64 ((t482.length : Int) * 37)) + (l0.length : Int))) (y539.length : Int))) ((wrap64 (1 + (Int.tmod (wrap64 ((wrap64 ((t482.length : Int) * 37)) + (l0.length : Int))) 255))) % 256)))).bind fun bt544 => (if bt516.2.2.2.2.2.2.2 = true then (some false) else (if bt528.2.2.2.2.2.2.2 = true then (some false) else (if bt544.2.2.2.2.2.2.2 = true then (some false) else (some (decide ((t485.length : Int) ≤ 27))))))) else (none)) else (none)))) else (none)))) else (none)) else (none))) else (none))) else (none))) = some r := by rw [if_neg (show ¬ (false = true) by decide)] at H; exact H
           clear H
           have H := H1
           clear H1
           obtain ⟨y507, hy507⟩ : ∃ y_ : List Int, y_ = (([] : List Int)) := ⟨_, rfl⟩
           replace H : (if y507.length + t485.length < 140737488355328 then ((some (y507 ++ t485 : List Int)).bind fun y510 => (if y510.length < 140737488355328 then ((impl_SegRead.f kj44 (y510 ++ [0])).bind fun bt516 => (if 0 ≤ (wrap64 ((t485.length : Int) - 1)) then (if (wrap64 ((t485.length : Int) - 1)) ≤ (t485.length : Int) then ((impl_SegRead.f kj44 (t485.take ((wrap64 ((t485.length : Int) - 1)) : Int).toNat)).bind fun bt528 => ((some (([] : List Int) : List Int)).bind fun y536 => (if y536.length + t485.length < 140737488355328 then ((some (y536 ++ t485 : List Int)).bind fun y539 => (if (y539.length : Int) = 0 then (none) else (if 0 ≤ (Int.tmod (wrap64 ((wrap64 ((t482.length : Int) * 37)) + (l0.length : Int))) (y539.length : Int)) then (if (Int.tmod (wrap64 ((wrap64 ((t482.length : Int) * 37)) + (l0.length : Int))) (y539.length : Int)) < (y539.length : Int) then ((impl_SegRead.f kj44 (y539.set ((Int.tmod (wrap64 ((wrap64 ((t482.length : Int) * 37)) + (l0.length : Int))) (y539.length : Int)) : Int).toNat (Go.bits .xor .u8 (rd y539 (Int.tmod (wrap64 ((wrap64 ((t482.length : Int) * 37)) + (l0.length : Int))) (y539.length : Int))) ((wrap64 (1 + (Int.tmod (wrap64 ((wrap64 ((t482.length : Int) * 37)) + (l0.length : Int))) 255))) % 256)))).bind fun bt544 => (if bt516.2.2.2.2.2.2.2 = true then (some false) else (if bt528.2.2.2.2.2.2.2 = true then (some false) else (if bt544.2.2.2.2.2.2.2 = true then (some false) else (some (decide ((t485.length : Int) ≤ 27))))))) else (none)) else (none)))) else (none)))) else (none)) else (none))) else (none))) else (none)) = some r := by first | (rw [hy507]; with_reducible exact H) | (have H2_ := (Option.bind_some _ _).symm.trans H; rw [hy507]; with_reducible exact H2_) | (have H2_ := (Option.bind_some _ _).symm.trans H; with_reducible exact H2_) | with_reducible exact H | (rw [hy507]; exact H) | exact H
           have Ny507 := Aside0.mk hy507
           clear hy507
           by_cases c58 : y507.length + t485.length < 140737488355328
           ·rw [if_pos c58] at H
            have LMc58 := Aside0.mk c58
            clear c58
            obtain ⟨y510, hy510⟩ : ∃ y_ : List Int, y_ = (y507 ++ t485) := ⟨_, rfl⟩
            replace H : (if y510.length < 140737488355328 then ((impl_SegRead.f kj44 (y510 ++ [0])).bind fun bt516 => (if 0 ≤ (wrap64 ((t485.length : Int) - 1)) then (if (wrap64 ((t485.length : Int) - 1)) ≤ (t485.length : Int) then ((impl_SegRead.f kj44 (t485.take ((wrap64 ((t485.length : Int) - 1)) : Int).toNat)).bind fun bt528 => ((some (([] : List Int) : List Int)).bind fun y536 => (if y536.length + t485.length < 140737488355328 then ((some (y536 ++ t485 : List Int)).bind fun y539 => (if (y539.length : Int) = 0 then (none) else (if 0 ≤ (Int.tmod (wrap64 ((wrap64 ((t482.length : Int) * 37)) + (l0.length : Int))) (y539.length : Int)) then (if (Int.tmod (wrap64 ((wrap64 ((t482.length : Int) * 37)) + (l0.length : Int))) (y539.length : Int)) < (y539.length : Int) then ((impl_SegRead.f kj44 (y539.set ((Int.tmod (wrap64 ((wrap64 ((t482.length : Int) * 37)) + (l0.length : Int))) (y539.length : Int)) : Int).toNat (Go.bits .xor .u8 (rd y539 (Int.tmod (wrap64 ((wrap64 ((t482.length : Int) * 37)) + (l0.length : Int))) (y539.length : Int))) ((wrap64 (1 + (Int.tmod (wrap64 ((wrap64 ((t482.length : Int) * 37)) + (l0.length : Int))) 255))) % 256)))).bind fun bt544 => (if bt516.2.2.2.2.2.2.2 = true then (some false) else (if bt528.2.2.2.2.2.2.2 = true then (some false) else (if bt544.2.2.2.2.2.2.2 = true then (some false) else (some (decide ((t485.length : Int) ≤ 27))))))) else (none)) else (none)))) else (none)))) else (none)) else (none))) else (none)) = some r := by first | (rw [hy510]; with_reducible exact H) | (have H2_ := (Option.bind_some _ _).symm.trans H; rw [hy510]; with_reducible exact H2_) | (have H2_ := (Option.bind_some _ _).symm.trans H; with_reducible exact H2_) | with_reducible exact H | (rw [hy510]; exact H) | exact H
            have Ny510 := Aside0.mk hy510
            clear hy510
            by_cases c59 : y510.length < 140737488355328
            ·rw [if_pos c59] at H
             have LMc59 := Aside0.mk c59
             clear c59
             obtain ⟨y513, hy513⟩ : ∃ y_ : List Int, y_ = (y510 ++ [0]) := ⟨_, rfl⟩
             replace H : ((impl_SegRead.f kj44 y513).bind fun bt516 => (if 0 ≤ (wrap64 ((t485.length : Int) - 1)) then (if (wrap64 ((t485.length : Int) - 1)) ≤ (t485.length : Int) then ((impl_SegRead.f kj44 (t485.take ((wrap64 ((t485.length : Int) - 1)) : Int).toNat)).bind fun bt528 => ((some (([] : List Int) : List Int)).bind fun y536 => (if y536.length + t485.length < 140737488355328 then ((some (y536 ++ t485 : List Int)).bind fun y539 => (if (y539.length : Int) = 0 then (none) else (if 0 ≤ (Int.tmod (wrap64 ((wrap64 ((t482.length : Int) * 37)) + (l0.length : Int))) (y539.length : Int)) then (if (Int.tmod (wrap64 ((wrap64 ((t482.length : Int) * 37)) + (l0.length : Int))) (y539.length : Int)) < (y539.length : Int) then ((impl_SegRead.f kj44 (y539.set ((Int.tmod (wrap64 ((wrap64 ((t482.length : Int) * 37)) + (l0.length : Int))) (y539.length : Int)) : Int).toNat (Go.bits .xor .u8 (rd y539 (Int.tmod (wrap64 ((wrap64 ((t482.length : Int) * 37)) + (l0.length : Int))) (y539.length : Int))) ((wrap64 (1 + (Int.tmod (wrap64 ((wrap64 ((t482.length : Int) * 37)) + (l0.length : Int))) 255))) % 256)))).bind fun bt544 => (if bt516.2.2.2.2.2.2.2 = true then (some false) else (if bt528.2.2.2.2.2.2.2 = true then (some false) else (if bt544.2.2.2.2.2.2.2 = true then (some false) else (some (decide ((t485.length : Int) ≤ 27))))))) else (none)) else (none)))) else (none)))) else (none)) else (none))) = some r := by first | (rw [hy513]; with_reducible exact H) | (have H2_ := (Option.bind_some _ _).symm.trans H; rw [hy513]; with_reducible exact H2_) | (have H2_ := (Option.bind_some _ _).symm.trans H; with_reducible exact H2_) | with_reducible exact H | (rw [hy513]; exact H) | exact H
             have Ny513 := Aside0.mk hy513
             clear hy513
             replace H := Option.bind_eq_some_iff.mp H
             obtain ⟨⟨t516, t517, t518, t519, t520, t521, t522, t523⟩, A600, H⟩ := H
             replace H : (if 0 ≤ (wrap64 ((t485.length : Int) - 1)) then (if (wrap64 ((t485.length : Int) - 1)) ≤ (t485.length : Int) then ((impl_SegRead.f kj44 (t485.take ((wrap64 ((t485.length : Int) - 1)) : Int).toNat)).bind fun bt528 => ((some (([] : List Int) : List Int)).bind fun y536 => (if y536.length + t485.length < 140737488355328 then ((some (y536 ++ t485 : List Int)).bind fun y539 => (if (y539.length : Int) = 0 then (none) else (if 0 ≤ (Int.tmod (wrap64 ((wrap64 ((t482.length : Int) * 37)) + (l0.length : Int))) (y539.length : Int)) then (if (Int.tmod (wrap64 ((wrap64 ((t482.length : Int) * 37)) + (l0.length : Int))) (y539.length : Int)) < (y539.length : Int) then ((impl_SegRead.f kj44 (y539.set ((Int.tmod (wrap64 ((wrap64 ((t482.length : Int) * 37)) + (l0.length : Int))) (y539.length : Int)) : Int).toNat (Go.bits .xor .u8 (rd y539 (Int.tmod (wrap64 ((wrap64 ((t482.length : Int) * 37)) + (l0.length : Int))) (y539.length : Int))) ((wrap64 (1 + (Int.tmod (wrap64 ((wrap64 ((t482.length : Int) * 37)) + (l0.length : Int))) 255))) % 256)))).bind fun bt544 => (if t523 = true then (some false) else (if bt528.2.2.2.2.2.2.2 = true then (some false) else (if bt544.2.2.2.2.2.2.2 = true then (some false) else (some (decide ((t485.length : Int) ≤ 27))))))) else (none)) else (none)))) else (none)))) else (none)) else (none)) = some r := H
             have A60 := Aside0.mk A600
             clear A600
             obtain ⟨ji61, hji61⟩ : ∃ j_ : Int, (wrap64 ((t485.length : Int) - 1)) = j_ := ⟨_, rfl⟩
             replace H : (if 0 ≤ (ji61) then (if (ji61) ≤ (t485.length : Int) then ((impl_SegRead.f kj44 (t485.take ((ji61) : Int).toNat)).bind fun bt528 => ((some (([] : List Int) : List Int)).bind fun y536 => (if y536.length + t485.length < 140737488355328 then ((some (y536 ++ t485 : List Int)).bind fun y539 => (if (y539.length : Int) = 0 then (none) else (if 0 ≤ (Int.tmod (wrap64 ((wrap64 ((t482.length : Int) * 37)) + (l0.length : Int))) (y539.length : Int)) then (if (Int.tmod (wrap64 ((wrap64 ((t482.length : Int) * 37)) + (l0.length : Int))) (y539.length : Int)) < (y539.length : Int) then ((impl_SegRead.f kj44 (y539.set ((Int.tmod (wrap64 ((wrap64 ((t482.length : Int) * 37)) + (l0.length : Int))) (y539.length : Int)) : Int).toNat (Go.bits .xor .u8 (rd y539 (Int.tmod (wrap64 ((wrap64 ((t482.length : Int) * 37)) + (l0.length : Int))) (y539.length : Int))) ((wrap64 (1 + (Int.tmod (wrap64 ((wrap64 ((t482.length : Int) * 37)) + (l0.length : Int))) 255))) % 256)))).bind fun bt544 => (if t523 = true then (some false) else (if bt528.2.2.2.2.2.2.2 = true then (some false) else (if bt544.2.2.2.2.2.2.2 = true then (some false) else (some (decide ((t485.length : Int) ≤ 27))))))) else (none)) else (none)))) else (none)))) else (none)) else (none)) = some r := by first | (rw [hji61] at H; exact H) | (simp only [hji61] at H ⊢; exact H)
             (try rw [hji61] at A60)
             have hji61w : (IntKind.i64.wrap ((t485.length : Int) - 1)) = ji61 := (i64_w _).trans hji61
             by_cases c62 : 0 ≤ (ji61)
             ·rw [if_pos c62] at H
              have c62b0 := eq_true c62
              have c62b1 : decide (0 ≤ (ji61)) = true := decide_eq_true c62
              clear c62
              by_cases c63 : (ji61) ≤ (t485.length : Int)
              ·rw [if_pos c63] at H
               have c63b0 := eq_true c63
               have c63b1 : decide ((ji61) ≤ (t485.length : Int)) = true := decide_eq_true c63
               clear c63
               obtain ⟨y524, hy524⟩ : ∃ y_ : List Int, y_ = (t485.take ((ji61) : Int).toNat) := ⟨_, rfl⟩
               replace H : ((impl_SegRead.f kj44 y524).bind fun bt528 => ((some (([] : List Int) : List Int)).bind fun y536 => (if y536.length + t485.length < 140737488355328 then ((some (y536 ++ t485 : List Int)).bind fun y539 => (if (y539.length : Int) = 0 then (none) else (if 0 ≤ (Int.tmod (wrap64 ((wrap64 ((t482.length : Int) * 37)) + (l0.length : Int))) (y539.length : Int)) then (if (Int.tmod (wrap64 ((wrap64 ((t482.length : Int) * 37)) + (l0.length : Int))) (y539.length : Int)) < (y539.length : Int) then ((impl_SegRead.f kj44 (y539.set ((Int.tmod (wrap64 ((wrap64 ((t482.length : Int) * 37)) + (l0.length : Int))) (y539.length : Int)) : Int).toNat (Go.bits .xor .u8 (rd y539 (Int.tmod (wrap64 ((wrap64 ((t482.length : Int) * 37)) + (l0.length : Int))) (y539.length : Int))) ((wrap64 (1 + (Int.tmod (wrap64 ((wrap64 ((t482.length : Int) * 37)) + (l0.length : Int))) 255))) % 256)))).bind fun bt544 => (if t523 = true then (some false) else (if bt528.2.2.2.2.2.2.2 = true then (some false) else (if bt544.2.2.2.2.2.2.2 = true then (some false) else (some (decide ((t485.length : Int) ≤ 27))))))) else (none)) else (none)))) else (none)))) = some r := by first | (rw [hy524]; with_reducible exact H) | (have H2_ := (Option.bind_some _ _).symm.trans H; rw [hy524]; with_reducible exact H2_) | (have H2_ := (Option.bind_some _ _).symm.trans H; with_reducible exact H2_) | with_reducible exact H | (rw [hy524]; exact H) | exact H
               have Ny524 := Aside0.mk hy524
               clear hy524
               replace H := Option.bind_eq_some_iff.mp H
               obtain ⟨⟨t528, t529, t530, t531, t532, t533, t534, t535⟩, A640, H⟩ := H
               replace H : ((some (([] : List Int) : List Int)).bind fun y536 => (if y536.length + t485.length < 140737488355328 then ((some (y536 ++ t485 : List Int)).bind fun y539 => (if (y539.length : Int) = 0 then (none) else (if 0 ≤ (Int.tmod (wrap64 ((wrap64 ((t482.length : Int) * 37)) + (l0.length : Int))) (y539.length : Int)) then (if (Int.tmod (wrap64 ((wrap64 ((t482.length : Int) * 37)) + (l0.length : Int))) (y539.length : Int)) < (y539.length : Int) then ((impl_SegRead.f kj44 (y539.set ((Int.tmod (wrap64 ((wrap64 ((t482.length : Int) * 37)) + (l0.length : Int))) (y539.length : Int)) : Int).toNat (Go.bits .xor .u8 (rd y539 (Int.tmod (wrap64 ((wrap64 ((t482.length : Int) * 37)) + (l0.length : Int))) (y539.length : Int))) ((wrap64 (1 + (Int.tmod (wrap64 ((wrap64 ((t482.length : Int) * 37)) + (l0.length : Int))) 255))) % 256)))).bind fun bt544 => (if t523 = true then (some false) else (if t535 = true then (some false) else (if bt544.2.2.2.2.2.2.2 = true then (some false) else (some (decide ((t485.length : Int) ≤ 27))))))) else (none)) else (none)))) else (none))) = some r := H
               have A64 := Aside0.mk A640
               clear A640
               obtain ⟨y536, hy536⟩ : ∃ y_ : List Int, y_ = (([] : List Int)) := ⟨_, rfl⟩
               replace H : (if y536.length + t485.length < 140737488355328 then ((some (y536 ++ t485 : List Int)).bind fun y539 => (if (y539.length : Int) = 0 then (none) else (if 0 ≤ (Int.tmod (wrap64 ((wrap64 ((t482.length : Int) * 37)) + (l0.length : Int))) (y539.length : Int)) then (if (Int.tmod (wrap64 ((wrap64 ((t482.length : Int) * 37)) + (l0.length : Int))) (y539.length : Int)) < (y539.length : Int) then ((impl_SegRead.f kj44 (y539.set ((Int.tmod (wrap64 ((wrap64 ((t482.length : Int) * 37)) + (l0.length : Int))) (y539.length : Int)) : Int).toNat (Go.bits .xor .u8 (rd y539 (Int.tmod (wrap64 ((wrap64 ((t482.length : Int) * 37)) + (l0.length : Int))) (y539.length : Int))) ((wrap64 (1 + (Int.tmod (wrap64 ((wrap64 ((t482.length : Int) * 37)) + (l0.length : Int))) 255))) % 256)))).bind fun bt544 => (if t523 = true then (some false) else (if t535 = true then (some false) else (if bt544.2.2.2.2.2.2.2 = true then (some false) else (some (decide ((t485.length : Int) ≤ 27))))))) else (none)) else (none)))) else (none)) = some r := by first | (rw [hy536]; with_reducible exact H) | (have H2_ := (Option.bind_some _ _).symm.trans H; rw [hy536]; with_reducible exact H2_) | (have H2_ := (Option.bind_some _ _).symm.trans H; with_reducible exact H2_) | with_reducible exact H | (rw [hy536]; exact H) | exact H
               have Ny536 := Aside0.mk hy536
               clear hy536
               by_cases c65 : y536.length + t485.length < 140737488355328
               ·rw [if_pos c65] at H
                have LMc65 := Aside0.mk c65
                clear c65
                obtain ⟨y539, hy539⟩ : ∃ y_ : List Int, y_ = (y536 ++ t485) := ⟨_, rfl⟩
                replace H : (if (y539.length : Int) = 0 then (none) else (if 0 ≤ (Int.tmod (wrap64 ((wrap64 ((t482.length : Int) * 37)) + (l0.length : Int))) (y539.length : Int)) then (if (Int.tmod (wrap64 ((wrap64 ((t482.length : Int) * 37)) + (l0.length : Int))) (y539.length : Int)) < (y539.length : Int) then ((impl_SegRead.f kj44 (y539.set ((Int.tmod (wrap64 ((wrap64 ((t482.length : Int) * 37)) + (l0.length : Int))) (y539.length : Int)) : Int).toNat (Go.bits .xor .u8 (rd y539 (Int.tmod (wrap64 ((wrap64 ((t482.length : Int) * 37)) + (l0.length : Int))) (y539.length : Int))) ((wrap64 (1 + (Int.tmod (wrap64 ((wrap64 ((t482.length : Int) * 37)) + (l0.length : Int))) 255))) % 256)))).bind fun bt544 => (if t523 = true then (some false) else (if t535 = true then (some false) else (if bt544.2.2.2.2.2.2.2 = true then (some false) else (some (decide ((t485.length : Int) ≤ 27))))))) else (none)) else (none))) = some r := by first | (rw [hy539]; with_reducible exact H) | (have H2_ := (Option.bind_some _ _).symm.trans H; rw [hy539]; with_reducible exact H2_) | (have H2_ := (Option.bind_some _ _).symm.trans H; with_reducible exact H2_) | with_reducible exact H | (rw [hy539]; exact H) | exact H
                have Ny539 := Aside0.mk hy539
                clear hy539
                by_cases c66 : (y539.length : Int) = 0
                ·rw [if_pos c66] at H
                 exact absurd H (by simp)
                ·rw [if_neg c66] at H
                 have c66b0 : ((y539.length : Int) == 0) = false := beq_eq_false_iff_ne.mpr c66
                 have c66b1 : ((y539.length : Int) != 0) = true := bne_iff_ne.mpr c66
                 have c66b2 : ¬ (y539 = []) := fun h_ => c66 (by rw [h_]; rfl)
                 obtain ⟨ji67, hji67⟩ : ∃ j_ : Int, (Int.tmod (wrap64 ((wrap64 ((t482.length : Int) * 37)) + (l0.length : Int))) (y539.length : Int)) = j_ := ⟨_, rfl⟩
                 replace H : (if 0 ≤ (ji67) then (if (ji67) < (y539.length : Int) then ((impl_SegRead.f kj44 (y539.set ((ji67) : Int).toNat (Go.bits .xor .u8 (rd y539 (ji67)) ((wrap64 (1 + (Int.tmod (wrap64 ((wrap64 ((t482.length : Int) * 37)) + (l0.length : Int))) 255))) % 256)))).bind fun bt544 => (if t523 = true then (some false) else (if t535 = true then (some false) else (if bt544.2.2.2.2.2.2.2 = true then (some false) else (some (decide ((t485.length : Int) ≤ 27))))))) else (none)) else (none)) = some r := by first | (rw [hji67] at H; exact H) | (simp only [hji67] at H ⊢; exact H)
                 (try rw [hji67] at A60)
                 (try rw [hji67] at A64)
                 have HJM_ := Aside0.mk hji67
                 clear hji67
                 by_cases c68 : 0 ≤ (ji67)
                 ·rw [if_pos c68] at H
                  have c68b0 : decide (0 ≤ (ji67)) = true := decide_eq_true c68
                  clear c68
                  by_cases c69 : (ji67) < (y539.length : Int)
                  ·rw [if_pos c69] at H
                   have c69b0 : decide ((ji67) < (y539.length : Int)) = true := decide_eq_true c69
                   clear c69
                   obtain ⟨y543, hy543⟩ : ∃ y_ : List Int, y_ = (y539.set ((ji67) : Int).toNat (Go.bits .xor .u8 (rd y539 (ji67)) ((wrap64 (1 + (Int.tmod (wrap64 ((wrap64 ((t482.length : Int) * 37)) + (l0.length : Int))) 255))) % 256))) := ⟨_, rfl⟩
                   replace H : ((impl_SegRead.f kj44 y543).bind fun bt544 => (if t523 = true then (some false) else (if t535 = true then (some false) else (if bt544.2.2.2.2.2.2.2 = true then (some false) else (some (decide ((t485.length : Int) ≤ 27))))))) = some r := by first | (rw [hy543]; with_reducible exact H) | (have H2_ := (Option.bind_some _ _).symm.trans H; rw [hy543]; with_reducible exact H2_) | (have H2_ := (Option.bind_some _ _).symm.trans H; with_reducible exact H2_) | with_reducible exact H | (rw [hy543]; exact H) | exact H
                   have Ny543 := Aside0.mk hy543
                   clear hy543
                   replace H := Option.bind_eq_some_iff.mp H
                   obtain ⟨⟨t544, t545, t546, t547, t548, t549, t550, t551⟩, A710, H⟩ := H
                   replace H : (if t523 = true then (some false) else (if t535 = true then (some false) else (if t551 = true then (some false) else (some (decide ((t485.length : Int) ≤ 27)))))) = some r := H
                   have A71 := Aside0.mk A710
                   clear A710
                   by_cases c72 : t523 = true
                   ·subst c72
                    have H1 : (some false) = some r := by rw [if_pos rfl] at H; exact H
                    clear H
                    have H := H1
                    clear H1
                    exact absurd (H.trans (congrArg some HR_.out)) (by simp)
                   ·replace c72 := Bool.eq_false_iff.mpr c72
                    subst c72
                    have H1 : (if t535 = true then (some false) else (if t551 = true then (some false) else (some (decide ((t485.length : Int) ≤ 27))))) = some r := by rw [if_neg (show ¬ (false = true) by decide)] at H; exact H
                    clear H
                    have H := H1
                    clear H1
                    by_cases c89 : t535 = true
                    ·subst c89
                     have H1 : (some false) = some r := by rw [if_pos rfl] at H; exact H
                     clear H
                     have H := H1
                     clear H1
                     exact absurd (H.trans (congrArg some HR_.out)) (by simp)
                    ·replace c89 := Bool.eq_false_iff.mpr c89
                     subst c89
                     have H1 : (if t551 = true then (some false) else (some (decide ((t485.length : Int) ≤ 27)))) = some r := by rw [if_neg (show ¬ (false = true) by decide)] at H; exact H
                     clear H
                     have H := H1
                     clear H1
                     by_cases c106 : t551 = true
                     ·subst c106
                      have H1 : (some false) = some r := by rw [if_pos rfl] at H; exact H
                      clear H
                      have H := H1
                      clear H1
                      exact absurd (H.trans (congrArg some HR_.out)) (by simp)
                     ·replace c106 := Bool.eq_false_iff.mpr c106
                      subst c106
                      have H1 : (some (decide ((t485.length : Int) ≤ 27))) = some r := by rw [if_neg (show ¬ (false = true) by decide)] at H; exact H
                      clear H
                      have H := H1
                      clear H1
                      obtain rfl := Option.some.inj H
                      try go_wp2_with (first | ((with_reducible refine gate_dst (N := 73) rfl ?_); (try (refine gate_guard (by rfl) ?_; dsimp only)); refine Kd.R_lit (Kd.int .u8) _ 5 ?hg (N := 73) ?hd (xs := ([] : List Int)) (inner := []) (ok := fun _ => True) (okp := fun _ => True) ?hr ?hp (fun _ hk => hk) trivial (Below.refl _ _) (Nat.le_refl _) (by simp) ?_; (case hd => rfl); (case hg => rfl); (case hr => first | (go_simp; done) | (go_simp; rfl)); (case hp => exact (Reps.none _ _)); intro v508 w123 ho124 hb hg_ hnew_; clear hg_ hnew_; (first | rw [← Ny507.out] at ho124 | (simp only [Int.reduceToNat] at ho124; rw [← Ny507.out] at ho124)); have n0_ := Aside0.mk (Kd.R_elder' Z5 (Kd.R_base ho124) hb); have n1_ := Aside0.mk (Kd.R_elder' Z6 (Kd.R_base ho124) hb); have n2_ := Aside0.mk (Kd.R_lower (Kd.R_new' (Kd.R_new' ho124 (Kd.R_lt Z5)) (Kd.R_lt Z6)) (below_size Z84)); have n3_ := Aside0.mk (blk_below (g := gb481) (o := .cells #[.int .i64 t474, .int .i64 t475, .int .i64 t476, .int .i64 t477, .int .i64 t478, .int .i64 t479, .string t480] 26 (0, 0)) Z39 hb); have n4_ := Aside0.mk (blk_below (g := gb506) (o := .cells #[.int .i64 t498, .int .i64 t499, .int .i64 t500, .int .i64 t501, .int .i64 t502, .int .i64 t503, .string t504] 26 (0, 0)) Z40 hb); have n5_ := Aside0.mk (below_step Z84 hb); clear HO_6; clear HO_7; clear BK481; clear BK506; clear HB; have HO_6 := n0_; have HO_7 := n1_; have HO509 := n2_; have BK481 := n3_; have BK506 := n4_; have HB := n5_; clear n0_ n1_ n2_ n3_ n4_ n5_; clear hb ho124) | ((with_reducible refine gate_builtin (b := .append) (xs := #[.tmp 73, .tmp 74]) rfl ?_); (try (refine gate_guard (by rfl) ?_; dsimp only)); at_builtin; refine Kd.R_append_rows (Kd.int .u8) (w0 := w) w.heap.size rfl (.tmp 73) (.tmp 74) 22 5 (.int .u8 0) 1 rfl Tryd.underlying22 info5 rfl (by decide) (by omega) v508 y507 t485 _ _ _ (fun k_ => some k_ ≠ (v483 : Value).ownBlock ∧ some k_ ≠ (.slice Ao48 t485.length co48 : Value).ownBlock) (fun _ => False) rfl rfl ?aO ?aR (fun _ _ h => h) (fun _ h => h.elim) ?aF ?aB ?aS ?aL ?_; (case aR => exact Z59); (case aB => exact Z84); (case aF => exact (fun k_ hk => ⟨Kd.fresh' (Kd.R_lt Z5) k_ hk, Kd.fresh' (Kd.R_lt Z6) k_ hk⟩)); (case aO => exact (by (with_reducible repeat (first | apply Kd.R_alloc | apply Kd.R_drewN | apply Kd.R_drew)); exact Kd.R_mono HO509.out (fun _ hk => ⟨hk.1.2, hk.2⟩))); (case aS => exact (below_size Z84)); (case aL => have := LMc58.out; omega); intro v511 w125 ho hb hg hat; rw [← Ny510.out] at ho; have n0_ := Aside0.mk (Kd.R_after (ok := (fun k_ => some k_ ≠ (.slice Ao48 t485.length co48 : Value).ownBlock)) Z5 hg hat); have n1_ := Aside0.mk (Kd.R_after (ok := (fun k_ => some k_ ≠ (v483 : Value).ownBlock)) Z6 hg hat); have n2_ := Aside0.mk (blk_grown (g := gb481) (o := .cells #[.int .i64 t474, .int .i64 t475, .int .i64 t476, .int .i64 t477, .int .i64 t478, .int .i64 t479, .string t480] 26 (0, 0)) Z39 hg (Kd.R_ne HO509.out BK481.out (by decide))); have n3_ := Aside0.mk (blk_grown (g := gb506) (o := .cells #[.int .i64 t498, .int .i64 t499, .int .i64 t500, .int .i64 t501, .int .i64 t502, .int .i64 t503, .string t504] 26 (0, 0)) Z40 hg (Kd.R_ne HO509.out BK506.out (by decide))); have n4_ := Aside0.mk (hb); have n5_ := Aside0.mk (ho); clear HO_6; clear HO_7; clear BK481; clear BK506; clear HB; clear HO509; have HO_6 := n0_; have HO_7 := n1_; have BK481 := n2_; have BK506 := n3_; have HB := n4_; have HO512 := n5_; clear n0_ n1_ n2_ n3_ n4_ n5_; clear ho hb hg hat) | ((with_reducible refine gate_builtin (b := .append) (xs := #[.tmp 75, .tmp 76]) rfl ?_); (try (refine gate_guard (by rfl) ?_; dsimp only)); at_builtin; refine Kd.R_append (Kd.int .u8) (w0 := w) w.heap.size rfl (.tmp 75) (.tmp 76) 22 5 (.int .u8 0) 1 rfl Tryd.underlying22 info5 rfl (by decide) (by omega) v511 y510 0 [.int .u8 0] (fun k_ => some k_ ≠ (v483 : Value).ownBlock ∧ some k_ ≠ (.slice Ao48 t485.length co48 : Value).ownBlock) (fun _ => False) rfl rfl ?aP (fun _ hk => hk.elim) ?aF ?aO ?aB ?aS ?aL ?_; (case aP => exact rfl); (case aB => exact Z84); (case aF => exact (fun k_ hk => ⟨Kd.fresh' (Kd.R_lt Z5) k_ hk, Kd.fresh' (Kd.R_lt Z6) k_ hk⟩)); (case aO => exact (by (with_reducible repeat (first | apply Kd.R_alloc | apply Kd.R_drewN | apply Kd.R_drew)); exact HO512.out)); (case aS => exact (below_size Z84)); (case aL => have := LMc59.out; omega); intro v514 w126 ho hb hg hat; rw [← Ny513.out] at ho; have n0_ := Aside0.mk (Kd.R_after (ok := (fun k_ => some k_ ≠ (.slice Ao48 t485.length co48 : Value).ownBlock)) Z5 hg hat); have n1_ := Aside0.mk (Kd.R_after (ok := (fun k_ => some k_ ≠ (v483 : Value).ownBlock)) Z6 hg hat); have n2_ := Aside0.mk (blk_grown (g := gb481) (o := .cells #[.int .i64 t474, .int .i64 t475, .int .i64 t476, .int .i64 t477, .int .i64 t478, .int .i64 t479, .string t480] 26 (0, 0)) Z39 hg (Kd.R_ne HO512.out BK481.out (by decide))); have n3_ := Aside0.mk (blk_grown (g := gb506) (o := .cells #[.int .i64 t498, .int .i64 t499, .int .i64 t500, .int .i64 t501, .int .i64 t502, .int .i64 t503, .string t504] 26 (0, 0)) Z40 hg (Kd.R_ne HO512.out BK506.out (by decide))); have n4_ := Aside0.mk (hb); have n5_ := Aside0.mk (ho); clear HO_6; clear HO_7; clear BK481; clear BK506; clear HB; clear HO512; have HO_6 := n0_; have HO_7 := n1_; have BK481 := n2_; have BK506 := n3_; have HB := n4_; have HO515 := n5_; clear n0_ n1_ n2_ n3_ n4_ n5_; clear ho hb hg hat; obtain ⟨Ao127, co127, eo127⟩ := Kd.R_slice HO515.out; subst eo127) | ((with_reducible refine gate_callee (f := 8) rfl ?_); refine goesL_ (some 78) rfl rfl Tryd.func8 (by kernel_rfl) rfl #[.slice Ao127 y513.length co127] rfl Z44 ?_; (with_reducible refine (impl_SegRead.calls kj44 _ _ y513 t516 t517 t518 t519 t520 t521 t522 false _ ?side1 ?side2 A60.out ?sideL_).mono ?_); (case sideL_ => exact (Ends.LShort.below HL_.out Z94)); (case side1 => repeat (first | exact (Kd.R_reads' HO515.out).2.2 | (with_reducible refine Kd.C_alloc ?_ _) | (with_reducible refine Kd.C_drewN ?_ _) | (with_reducible refine Kd.C_drew ?_))); (case side2 => exact (Kd.R_reads' HO515.out).2.1); rintro e w128 ⟨rfl, hb⟩; refine ⟨_, rfl, ?_⟩; have n0_ := Aside0.mk (Kd.R_below Z5 hb); have n1_ := Aside0.mk (Kd.R_below Z6 hb); have n2_ := Aside0.mk (Kd.R_below Z22 hb); have n3_ := Aside0.mk (blk_below (g := gb481) (o := .cells #[.int .i64 t474, .int .i64 t475, .int .i64 t476, .int .i64 t477, .int .i64 t478, .int .i64 t479, .string t480] 26 (0, 0)) Z39 hb); have n4_ := Aside0.mk (blk_below (g := gb506) (o := .cells #[.int .i64 t498, .int .i64 t499, .int .i64 t500, .int .i64 t501, .int .i64 t502, .int .i64 t503, .string t504] 26 (0, 0)) Z40 hb); have n5_ := Aside0.mk (below_step Z84 hb); clear HO_6; clear HO_7; clear HO515; clear BK481; clear BK506; clear HB; have HO_6 := n0_; have HO_7 := n1_; have HO515 := n2_; have BK481 := n3_; have BK506 := n4_; have HB := n5_; clear n0_ n1_ n2_ n3_ n4_ n5_; (try clear hb); have q129 : ((ji61) : Int) ≤ ((t485.length : Int) : Int) := of_decide_eq_true Z2; obtain ⟨i0129, hi0129, _, hsz129, _⟩ := info_parts info5; have hroom129 : t485.length ≤ co48 := (Kd.R_reads' HO_7.out).2.1; have hC129 : Kd.C (Kd.int .u8) _ Ao48 t485.length t485 := (Kd.R_reads' HO_7.out).2.2; have hcut129 := cut_to (P := Tryd.prog) 22 5 .i64 Tryd.underlying22 hi0129 Ao48 t485.length co48 (ji61) (of_decide_eq_true Z2) q129 hroom129; have hr129 := Kd.C_take (m := ((ji61) : Int).toNat) hC129 (by omega); have hy129 : y524.length = ((ji61) : Int).toNat := (by rw [Ny524.out, List.length_take]; omega); rw [← Ny524.out] at hr129; rw [← hy129] at hcut129; have HR527 := Aside0.mk hr129; have HC527 := Aside0.mk (show y524.length ≤ co48 from by omega); clear hr129 hC129 hroom129 hi0129 hsz129; have KY129 := Aside0.mk hy129; clear hy129; have KL129 := Aside0.mk (show ((ji61) : Int).toNat ≤ t485.length from by omega); replace q129 := eq_true q129) | ((with_reducible refine gate_callee (f := 8) rfl ?_); refine goesL_ (some 87) rfl rfl Tryd.func8 (by kernel_rfl) rfl #[.slice Ao48 y524.length co48] rfl Z44 ?_; (with_reducible refine (impl_SegRead.calls kj44 _ _ y524 t528 t529 t530 t531 t532 t533 t534 false _ ?side1 ?side2 A64.out ?sideL_).mono ?_); (case sideL_ => exact (Ends.LShort.below HL_.out Z94)); (case side1 => repeat (first | exact Z82 | (with_reducible refine Kd.C_alloc ?_ _) | (with_reducible refine Kd.C_drewN ?_ _) | (with_reducible refine Kd.C_drew ?_))); (case side2 => exact HC527.out); rintro e w130 ⟨rfl, hb⟩; refine ⟨_, rfl, ?_⟩; have n0_ := Aside0.mk (Kd.R_below Z5 hb); have n1_ := Aside0.mk (Kd.R_below Z6 hb); have n2_ := Aside0.mk (Kd.R_below Z22 hb); have n3_ := Aside0.mk (blk_below (g := gb481) (o := .cells #[.int .i64 t474, .int .i64 t475, .int .i64 t476, .int .i64 t477, .int .i64 t478, .int .i64 t479, .string t480] 26 (0, 0)) Z39 hb); have n4_ := Aside0.mk (blk_below (g := gb506) (o := .cells #[.int .i64 t498, .int .i64 t499, .int .i64 t500, .int .i64 t501, .int .i64 t502, .int .i64 t503, .string t504] 26 (0, 0)) Z40 hb); have n5_ := Aside0.mk (show Kd.C (Kd.int .u8) _ Ao48 y524.length y524 from Kd.C_below Z82 hb); have n6_ := Aside0.mk (below_step Z84 hb); clear HO_6; clear HO_7; clear HO515; clear BK481; clear BK506; clear HR527; clear HB; have HO_6 := n0_; have HO_7 := n1_; have HO515 := n2_; have BK481 := n3_; have BK506 := n4_; have HR527 := n5_; have HB := n6_; clear n0_ n1_ n2_ n3_ n4_ n5_ n6_; (try clear hb)) | ((with_reducible refine gate_dst (N := 90) rfl ?_); (try (refine gate_guard (by rfl) ?_; dsimp only)); refine Kd.R_lit (Kd.int .u8) _ 5 ?hg (N := 90) ?hd (xs := ([] : List Int)) (inner := []) (ok := fun _ => True) (okp := fun _ => True) ?hr ?hp (fun _ hk => hk) trivial (Below.refl _ _) (Nat.le_refl _) (by simp) ?_; (case hd => rfl); (case hg => rfl); (case hr => first | (go_simp; done) | (go_simp; rfl)); (case hp => exact (Reps.none _ _)); intro v537 w131 ho132 hb hg_ hnew_; clear hg_ hnew_; (first | rw [← Ny536.out] at ho132 | (simp only [Int.reduceToNat] at ho132; rw [← Ny536.out] at ho132)); have n0_ := Aside0.mk (Kd.R_elder' Z5 (Kd.R_base ho132) hb); have n1_ := Aside0.mk (Kd.R_elder' Z6 (Kd.R_base ho132) hb); have n2_ := Aside0.mk (Kd.R_elder' Z22 (Kd.R_base ho132) hb); have n3_ := Aside0.mk (Kd.R_lower (Kd.R_new' (Kd.R_new' (Kd.R_new' ho132 (Kd.R_lt Z5)) (Kd.R_lt Z6)) (Kd.R_lt Z22)) (below_size Z84)); have n4_ := Aside0.mk (blk_below (g := gb481) (o := .cells #[.int .i64 t474, .int .i64 t475, .int .i64 t476, .int .i64 t477, .int .i64 t478, .int .i64 t479, .string t480] 26 (0, 0)) Z39 hb); have n5_ := Aside0.mk (blk_below (g := gb506) (o := .cells #[.int .i64 t498, .int .i64 t499, .int .i64 t500, .int .i64 t501, .int .i64 t502, .int .i64 t503, .string t504] 26 (0, 0)) Z40 hb); have n6_ := Aside0.mk (show Kd.C (Kd.int .u8) _ Ao48 y524.length y524 from Kd.C_below Z82 hb); have n7_ := Aside0.mk (below_step Z84 hb); clear HO_6; clear HO_7; clear HO515; clear BK481; clear BK506; clear HR527; clear HB; have HO_6 := n0_; have HO_7 := n1_; have HO515 := n2_; have HO538 := n3_; have BK481 := n4_; have BK506 := n5_; have HR527 := n6_; have HB := n7_; clear n0_ n1_ n2_ n3_ n4_ n5_ n6_ n7_; clear hb ho132) | ((with_reducible refine gate_builtin (b := .append) (xs := #[.tmp 90, .tmp 91]) rfl ?_); (try (refine gate_guard (by rfl) ?_; dsimp only)); at_builtin; refine Kd.R_append_rows (Kd.int .u8) (w0 := w) w.heap.size rfl (.tmp 90) (.tmp 91) 22 5 (.int .u8 0) 1 rfl Tryd.underlying22 info5 rfl (by decide) (by omega) v537 y536 t485 _ _ _ (fun k_ => some k_ ≠ (v483 : Value).ownBlock ∧ some k_ ≠ (.slice Ao48 t485.length co48 : Value).ownBlock ∧ some k_ ≠ (.slice Ao127 y513.length co127 : Value).ownBlock) (fun _ => False) rfl rfl ?aO ?aR (fun _ _ h => h) (fun _ h => h.elim) ?aF ?aB ?aS ?aL ?_; (case aR => exact Z59); (case aB => exact Z84); (case aF => exact (fun k_ hk => ⟨Kd.fresh' (Kd.R_lt Z5) k_ hk, Kd.fresh' (Kd.R_lt Z6) k_ hk, Kd.fresh' (Kd.R_lt Z22) k_ hk⟩)); (case aO => exact (by (with_reducible repeat (first | apply Kd.R_alloc | apply Kd.R_drewN | apply Kd.R_drew)); exact Kd.R_mono HO538.out (fun _ hk => ⟨hk.1.1.2, ⟨hk.1.2, hk.2⟩⟩))); (case aS => exact (below_size Z84)); (case aL => have := LMc65.out; omega); intro v540 w133 ho hb hg hat; rw [← Ny539.out] at ho; have n0_ := Aside0.mk (Kd.R_after (ok := (fun k_ => some k_ ≠ (.slice Ao48 t485.length co48 : Value).ownBlock ∧ some k_ ≠ (.slice Ao127 y513.length co127 : Value).ownBlock)) Z5 hg hat); have n1_ := Aside0.mk (Kd.R_after (ok := (fun k_ => some k_ ≠ (v483 : Value).ownBlock ∧ some k_ ≠ (.slice Ao127 y513.length co127 : Value).ownBlock)) Z6 hg hat); have n2_ := Aside0.mk (blk_grown (g := gb481) (o := .cells #[.int .i64 t474, .int .i64 t475, .int .i64 t476, .int .i64 t477, .int .i64 t478, .int .i64 t479, .string t480] 26 (0, 0)) Z39 hg (Kd.R_ne HO538.out BK481.out (by decide))); have n3_ := Aside0.mk (blk_grown (g := gb506) (o := .cells #[.int .i64 t498, .int .i64 t499, .int .i64 t500, .int .i64 t501, .int .i64 t502, .int .i64 t503, .string t504] 26 (0, 0)) Z40 hg (Kd.R_ne HO538.out BK506.out (by decide))); have n4_ := Aside0.mk (Kd.R_after (ok := (fun k_ => some k_ ≠ (v483 : Value).ownBlock ∧ some k_ ≠ (.slice Ao48 t485.length co48 : Value).ownBlock)) Z22 hg hat); have n5_ := Aside0.mk (hb); have n6_ := Aside0.mk ((show Kd.C (Kd.int .u8) w133 Ao48 y524.length y524 from by rw [Ny524.out]; exact Kd.C_take (m := ((ji61) : Int).toNat) ((Kd.R_reads' (Kd.R_after (ok := (fun k_ => some k_ ≠ (v483 : Value).ownBlock ∧ some k_ ≠ (.slice Ao127 y513.length co127 : Value).ownBlock)) Z6 hg hat)).2.2) KL129.out)); have n7_ := Aside0.mk (ho); clear HO_6; clear HO_7; clear BK481; clear BK506; clear HO515; clear HB; clear HR527; clear HO538; have HO_6 := n0_; have HO_7 := n1_; have BK481 := n2_; have BK506 := n3_; have HO515 := n4_; have HB := n5_; have HR527 := n6_; have HO541 := n7_; clear n0_ n1_ n2_ n3_ n4_ n5_ n6_ n7_; clear ho hb hg hat; obtain ⟨Ao134, co134, eo134⟩ := Kd.R_slice HO_6.out; subst eo134))
                      have hji67 := HJM_.out
                      have HJS_ := Aside0.mk hji61
                      clear hji61
                      try clear hji61w
                      have n0_ := Aside0.mk (Kd.R_drew HO_6.out)
                      have n1_ := Aside0.mk (Kd.R_drew HO_7.out)
                      have n2_ := Aside0.mk (Kd.R_drew HO515.out)
                      have n3_ := Aside0.mk (Kd.R_drew HO541.out)
                      have n4_ := Aside0.mk (blk_drew BK481.out)
                      have n5_ := Aside0.mk (blk_drew BK506.out)
                      have n6_ := Aside0.mk (Kd.C_drew HR527.out)
                      have n7_ := Aside0.mk (below_drew1 HB.out)
                      clear HO_6
                      clear HO_7
                      clear HO515
                      clear HO541
                      clear BK481
                      clear BK506
                      clear HR527
                      clear HB
                      have HO_6 := n0_
                      have HO_7 := n1_
                      have HO515 := n2_
                      have HO541 := n3_
                      have BK481 := n4_
                      have BK506 := n5_
                      have HR527 := n6_
                      have HB := n7_
                      clear n0_ n1_ n2_ n3_ n4_ n5_ n6_ n7_
                      obtain ⟨Ao136, co136, eo136⟩ := Kd.R_slice HO541.out
                      (first | subst eo136 | (injection eo136 with f1_ f2_ f3_; have f4_ := f1_.symm; have f5_ := f3_.symm; clear f1_ f2_ f3_; subst f4_; subst f5_))
                      have p542 : 0 ≤ ((ji67) : Int) := of_decide_eq_true Z2
                      have q542 : (ji67) < (y539.length : Int) := of_decide_eq_true Z2
                      obtain ⟨ad542, e542, hx542_0⟩ := Kd.at_int (Kd.R_reads' HO541.out).2.2 (ji67) p542 q542
                      cases e542
                      replace p542 := eq_true p542
                      replace q542 := eq_true q542
                      have p70 : 0 ≤ ((ji67) : Int) := of_decide_eq_true Z2
                      have q70 : ((ji67) : Int) < ((y539.length : Int) : Int) := of_decide_eq_true Z2
                      obtain ⟨go70, co70, eo70, gb70, gl70, cl70, HG70⟩ := Kd.R_form HO541.out (by omega)
                      (first | cases eo70 | (injection eo70 with ea_ en_ ec_; (first | subst ea_ | (injection ea_ with ea_; subst ea_)); subst ec_; clear en_))
                      have GB70 := Aside0.mk gb70
                      have GG70 := Aside0.mk HG70
                      clear gb70 gl70 HG70
                      (first | simp only [add_plain] at hx542_0 | skip)
                      obtain ⟨hx70_0, hf70_0⟩ := Kd.R_celln 0 HO541.out ((ji67) : Int) p70 q70
                      replace p70 := eq_true p70
                      replace q70 := eq_true q70
                      have HP137 := Kd.R_putn HO541.out ((ji67) : Int) (Go.bits .xor .u8 (rd y539 (ji67)) ((wrap64 (1 + (Int.tmod (wrap64 ((wrap64 ((t482.length : Int) * 37)) + (l0.length : Int))) 255))) % 256))
                      rw [← Ny543.out] at HP137
                      have hU_ : ∀ x_ : Int, x_ % 256 = Go.IntKind.u8.wrap x_ := fun _ => rfl
                      rw [hU_] at HP137
                      clear hU_
                      have HQ137 := Aside0.mk HP137
                      clear HP137
                      as_aux_lemma =>
                       refine start_ (n := 19) (S := fun w' => w'.cell? ⟨go70, ((ji67)).toNat, none⟩ = some (.int .u8 (rd y539 (ji67)))) (ds := [18]) #[false, false, false, false, false, false, false, false, false, false, false, false, false, false, false, false, false, false, false] (by kernel_rfl) rfl rfl (hx542_0) (fun hHeld => ?_); refine with_tabW laws_FnSegBytes.tab17 laws_FnSegBytes.bits17 (fun HT_ HW_ => ?_)
                       generalize w133.drew = w135 at HO_6 HO_7 HO515 HO541 BK481 BK506 HR527 HB GG70 HQ137 hf70_0 hx542_0 hx70_0 hHeld ⊢
                       refine pure_ (i := 0) (N := some 99) (v := ?_) (a' := ?_) #[true, false, false, false, false, false, false, false, false, false, false, false, false, false, false, false, false, false, false] rfl rfl (any_of HT_.out (by kernel_rfl)) (fun _ _ _ h => h) (Or.inl ⟨by rfl, ?_⟩) ?_ ?_
                       rotate_left
                       ·intro w'
                        go_simp
                        with_reducible rfl
                       rotate_left
                       ·simp only [Act.put, List.setIfInBounds_toArray, List.set_cons_zero, List.set_cons_succ, i64_w, i32_w]
                        rfl
                       refine pure_ (i := 1) (N := some 100) (v := ?_) (a' := ?_) #[true, true, false, false, false, false, false, false, false, false, false, false, false, false, false, false, false, false, false] rfl rfl (any_of HT_.out (by kernel_rfl)) (fun _ _ _ h => h) (Or.inl ⟨by rfl, ?_⟩) ?_ ?_
                       rotate_left
                       ·intro w'
                        go_simp
                        with_reducible rfl
                       rotate_left
                       ·simp only [Act.put, List.setIfInBounds_toArray, List.set_cons_zero, List.set_cons_succ, i64_w, i32_w]
                        rfl
                       refine pure_ (i := 2) (N := some 101) (v := ?_) (a' := ?_) #[true, true, true, false, false, false, false, false, false, false, false, false, false, false, false, false, false, false, false] rfl rfl (any_of HT_.out (by kernel_rfl)) (fun _ _ _ h => h) (Or.inl ⟨by rfl, ?_⟩) ?_ ?_
                       rotate_left
                       ·intro w'
                        go_simp
                        with_reducible rfl
                       rotate_left
                       ·simp only [Act.put, List.setIfInBounds_toArray, List.set_cons_zero, List.set_cons_succ, i64_w, i32_w]
                        rfl
                       refine pure_ (i := 3) (N := some 102) (v := ?_) (a' := ?_) #[true, true, true, true, false, false, false, false, false, false, false, false, false, false, false, false, false, false, false] rfl rfl (any_of HT_.out (by kernel_rfl)) (fun _ _ _ h => h) (Or.inl ⟨by rfl, ?_⟩) ?_ ?_
                       rotate_left
                       ·intro w'
                        go_simp
                        with_reducible rfl
                       rotate_left
                       ·simp only [Act.put, List.setIfInBounds_toArray, List.set_cons_zero, List.set_cons_succ, i64_w, i32_w]
                        rfl
                       refine pure_ (i := 4) (N := some 103) (v := ?_) (a' := ?_) #[true, true, true, true, true, false, false, false, false, false, false, false, false, false, false, false, false, false, false] rfl rfl (any_of HT_.out (by kernel_rfl)) (fun _ _ _ h => h) (Or.inl ⟨by rfl, ?_⟩) ?_ ?_
                       rotate_left
                       ·intro w'
                        go_simp
                        with_reducible rfl
                       rotate_left
                       ·simp only [Act.put, List.setIfInBounds_toArray, List.set_cons_zero, List.set_cons_succ, i64_w, i32_w]
                        rfl
                       refine pure_ (i := 5) (N := some 104) (v := ?_) (a' := ?_) #[true, true, true, true, true, true, false, false, false, false, false, false, false, false, false, false, false, false, false] rfl rfl (any_of HT_.out (by kernel_rfl)) (fun _ _ _ h => h) (Or.inl ⟨by rfl, ?_⟩) ?_ ?_
                       rotate_left
                       ·intro w'
                        go_simp
                        with_reducible rfl
                       rotate_left
                       ·simp only [Act.put, List.setIfInBounds_toArray, List.set_cons_zero, List.set_cons_succ, i64_w, i32_w]
                        rfl
                       refine pure_ (i := 6) (N := some 105) (v := ?_) (a' := ?_) #[true, true, true, true, true, true, true, false, false, false, false, false, false, false, false, false, false, false, false] rfl rfl (any_of HT_.out (by kernel_rfl)) (fun _ _ _ h => h) (Or.inl ⟨by rfl, ?_⟩) ?_ ?_
                       rotate_left
                       ·intro w'
                        go_simp
                        with_reducible rfl
                       rotate_left
                       ·simp only [Act.put, List.setIfInBounds_toArray, List.set_cons_zero, List.set_cons_succ, i64_w, i32_w]
                        rfl
                       refine pure_ (i := 7) (N := some 106) (v := ?_) (a' := ?_) #[true, true, true, true, true, true, true, true, false, false, false, false, false, false, false, false, false, false, false] rfl rfl (any_of HT_.out (by kernel_rfl)) (fun _ _ _ h => h) (Or.inl ⟨by rfl, ?_⟩) ?_ ?_
                       rotate_left
                       ·intro w'
                        go_simp
                        with_reducible rfl
                       rotate_left
                       ·simp only [Act.put, List.setIfInBounds_toArray, List.set_cons_zero, List.set_cons_succ, i64_w, i32_w]
                        rfl
                       refine pure_ (i := 8) (N := some 107) (v := ?_) (a' := ?_) #[true, true, true, true, true, true, true, true, true, false, false, false, false, false, false, false, false, false, false] rfl rfl (any_of HT_.out (by kernel_rfl)) (fun _ _ _ h => h) (Or.inl ⟨by rfl, ?_⟩) ?_ ?_
                       rotate_left
                       ·intro w'
                        go_simp
                        with_reducible rfl
                       rotate_left
                       ·simp only [Act.put, List.setIfInBounds_toArray, List.set_cons_zero, List.set_cons_succ, i64_w, i32_w]
                        rfl
                       refine pure_ (i := 9) (N := some 108) (v := ?_) (a' := ?_) #[true, true, true, true, true, true, true, true, true, true, false, false, false, false, false, false, false, false, false] rfl rfl (any_of HT_.out (by kernel_rfl)) (fun _ _ _ h => h) (Or.inl ⟨by rfl, ?_⟩) ?_ ?_
                       rotate_left
                       ·intro w'
                        go_simp
                        with_reducible rfl
                       rotate_left
                       ·simp only [Act.put, List.setIfInBounds_toArray, List.set_cons_zero, List.set_cons_succ, i64_w, i32_w]
                        rfl
                       refine pure_ (i := 10) (N := some 109) (v := ?_) (a' := ?_) #[true, true, true, true, true, true, true, true, true, true, true, false, false, false, false, false, false, false, false] rfl rfl (any_of HT_.out (by kernel_rfl)) (fun _ _ _ h => h) (Or.inl ⟨by rfl, ?_⟩) ?_ ?_
                       rotate_left
                       ·intro w'
                        go_simp
                        with_reducible rfl
                       rotate_left
                       ·simp only [Act.put, List.setIfInBounds_toArray, List.set_cons_zero, List.set_cons_succ, i64_w, i32_w]
                        rfl
                       refine pure_ (i := 12) (N := some 111) (v := ?_) (a' := ?_) #[true, true, true, true, true, true, true, true, true, true, true, false, true, false, false, false, false, false, false] rfl rfl (any_of HT_.out (by kernel_rfl)) (fun _ _ _ h => h) (Or.inl ⟨by rfl, ?_⟩) ?_ ?_
                       rotate_left
                       ·intro w'
                        go_simp
                        with_reducible rfl
                       rotate_left
                       ·simp only [Act.put, List.setIfInBounds_toArray, List.set_cons_zero, List.set_cons_succ, i64_w, i32_w]
                        rfl
                       refine pure_ (i := 13) (N := some 112) (v := ?_) (a' := ?_) #[true, true, true, true, true, true, true, true, true, true, true, false, true, true, false, false, false, false, false] rfl rfl (any_of HT_.out (by kernel_rfl)) (fun _ _ _ h => h) (Or.inl ⟨by rfl, ?_⟩) ?_ ?_
                       rotate_left
                       ·intro w'
                        go_simp
                        with_reducible rfl
                       rotate_left
                       ·simp only [Act.put, List.setIfInBounds_toArray, List.set_cons_zero, List.set_cons_succ, i64_w, i32_w]
                        rfl
                       refine pure_ (i := 14) (N := some 113) (v := ?_) (a' := ?_) #[true, true, true, true, true, true, true, true, true, true, true, false, true, true, true, false, false, false, false] rfl rfl (any_of HT_.out (by kernel_rfl)) (fun _ _ _ h => h) (Or.inl ⟨by rfl, ?_⟩) ?_ ?_
                       rotate_left
                       ·intro w'
                        go_simp
                        with_reducible rfl
                       rotate_left
                       ·simp only [Act.put, List.setIfInBounds_toArray, List.set_cons_zero, List.set_cons_succ, i64_w, i32_w]
                        rfl
                       refine pure_ (i := 15) (N := some 114) (v := ?_) (a' := ?_) #[true, true, true, true, true, true, true, true, true, true, true, false, true, true, true, true, false, false, false] rfl rfl (any_of HT_.out (by kernel_rfl)) (fun _ _ _ h => h) (Or.inl ⟨by rfl, ?_⟩) ?_ ?_
                       rotate_left
                       ·intro w'
                        go_simp
                        with_reducible rfl
                       rotate_left
                       ·simp only [Act.put, List.setIfInBounds_toArray, List.set_cons_zero, List.set_cons_succ, i64_w, i32_w]
                        rfl
                       refine take_ (i := 11) (N := some 110) (v := ?_) (a' := ?_) #[true, true, true, true, true, true, true, true, true, true, true, true, true, true, true, true, false, false, false] rfl rfl (take_ofW HT_.out HW_.out (by kernel_rfl)) (fun _ _ _ h => h) (Or.inl ⟨by rfl, ?_⟩) hHeld ?_ ?_
                       rotate_left
                       ·intro w' s0
                        go_simp
                        with_reducible rfl
                       rotate_left
                       ·simp only [Act.put, List.setIfInBounds_toArray, List.set_cons_zero, List.set_cons_succ, i64_w, i32_w]
                        rfl
                       refine pure_ (i := 16) (N := some 115) (v := ?_) (a' := ?_) #[true, true, true, true, true, true, true, true, true, true, true, true, true, true, true, true, true, false, false] rfl rfl (any_of HT_.out (by kernel_rfl)) (fun _ _ _ h => h) (Or.inl ⟨by rfl, ?_⟩) ?_ ?_
                       rotate_left
                       ·intro w'
                        go_simp
                        with_reducible rfl
                       rotate_left
                       ·simp only [Act.put, List.setIfInBounds_toArray, List.set_cons_zero, List.set_cons_succ, i64_w, i32_w]
                        rfl
                       refine pure_ (i := 17) (N := some 116) (v := ?_) (a' := ?_) #[true, true, true, true, true, true, true, true, true, true, true, true, true, true, true, true, true, true, false] rfl rfl (any_of HT_.out (by kernel_rfl)) (fun _ _ _ h => h) (Or.inl ⟨by rfl, ?_⟩) ?_ ?_
                       rotate_left
                       ·intro w'
                        go_simp
                        with_reducible rfl
                       rotate_left
                       ·simp only [Act.put, List.setIfInBounds_toArray, List.set_cons_zero, List.set_cons_succ, i64_w, i32_w]
                        rfl
                       refine last_ (i := 18) (N := none) #[true, true, true, true, true, true, true, true, true, true, true, true, true, true, true, true, true, true, true] rfl rfl (one_of HT_.out (by kernel_rfl)) (by decide) (fun K hK => ?_)
                       refine skip_ (w1 := ?_) (by rfl) rfl ?_ ?_
                       rotate_left
                       ·go_simp
                        rfl
                       refine hK.out _ _ ?_
                       clear hK K
                       refine done_ (done_of HT_.out (by kernel_rfl)) ?_
                       as_aux_lemma =>
                        try go_wp2_with (first | ((with_reducible refine gate_callee (f := 8) rfl ?_); refine goesL_ (some 119) rfl rfl Tryd.func8 (by kernel_rfl) rfl #[.slice (some ⟨go70, 0, none⟩) y543.length co136] rfl (by (try simp only [List.map_toArray, List.map_cons, List.map_nil]); first | done | (rw [show y543.length = y539.length from (Kd.R_reads' HQ137.out).1.symm] <;> rfl) | rfl | (simp only [List.length_drop, List.length_take]; rfl)) ?_; (with_reducible refine (impl_SegRead.calls kj44 _ _ y543 t544 t545 t546 t547 t548 t549 t550 false _ ?side1 ?side2 A71.out ?sideL_).mono ?_); (case sideL_ => exact (Ends.LShort.below HL_.out Z94)); (case side1 => refine (Kd.R_reads' (e := 5) (base := w.heap.size) (ok := fun k_ => (some k_ ≠ (.slice Ao134 t482.length co134 : Value).ownBlock ∧ (some k_ ≠ (.slice Ao48 t485.length co48 : Value).ownBlock ∧ some k_ ≠ (.slice Ao127 y513.length co127 : Value).ownBlock))) (n := y539.length) (c := co136) ?_).2.2; exact Z23); (case side2 => rw [show y543.length = y539.length from (Kd.R_reads' HQ137.out).1.symm]; exact (Kd.R_reads' HO541.out).2.1); rintro e w138 ⟨rfl, hb⟩; refine ⟨_, rfl, ?_⟩; have n0_ := Aside0.mk (Kd.R_below (by (with_reducible repeat (first | apply Kd.R_alloc | apply Kd.R_drewN | apply Kd.R_drew)); exact (Kd.R_mono (Kd.R_far (p := ⟨go70, ((ji67) : Int).toNat, none⟩) (Kd.R_mono HO_6.out (fun k_ hk => (⟨hk, fun e_ => hk.2 (by rw [e_]; rfl)⟩ : _ ∧ k_ ≠ go70))) (fun _ hk => hk.2) (.int .u8 (Go.bits .xor .u8 (rd y539 (ji67)) (Go.IntKind.u8.wrap (wrap64 (1 + (Int.tmod (wrap64 ((wrap64 ((t482.length : Int) * 37)) + (l0.length : Int))) 255))))))) (fun _ h_ => h_.1))) hb); have n1_ := Aside0.mk (Kd.R_below (by (with_reducible repeat (first | apply Kd.R_alloc | apply Kd.R_drewN | apply Kd.R_drew)); exact (Kd.R_mono (Kd.R_far (p := ⟨go70, ((ji67) : Int).toNat, none⟩) (Kd.R_mono HO_7.out (fun k_ hk => (⟨hk, fun e_ => hk.2 (by rw [e_]; rfl)⟩ : _ ∧ k_ ≠ go70))) (fun _ hk => hk.2) (.int .u8 (Go.bits .xor .u8 (rd y539 (ji67)) (Go.IntKind.u8.wrap (wrap64 (1 + (Int.tmod (wrap64 ((wrap64 ((t482.length : Int) * 37)) + (l0.length : Int))) 255))))))) (fun _ h_ => h_.1))) hb); have n2_ := Aside0.mk (Kd.R_below (by (with_reducible repeat (first | apply Kd.R_alloc | apply Kd.R_drewN | apply Kd.R_drew)); exact (Kd.R_mono (Kd.R_far (p := ⟨go70, ((ji67) : Int).toNat, none⟩) (Kd.R_mono HO515.out (fun k_ hk => (⟨hk, fun e_ => hk.2 (by rw [e_]; rfl)⟩ : _ ∧ k_ ≠ go70))) (fun _ hk => hk.2) (.int .u8 (Go.bits .xor .u8 (rd y539 (ji67)) (Go.IntKind.u8.wrap (wrap64 (1 + (Int.tmod (wrap64 ((wrap64 ((t482.length : Int) * 37)) + (l0.length : Int))) 255))))))) (fun _ h_ => h_.1))) hb); have n3_ := Aside0.mk (Kd.R_below Z23 hb); have n4_ := Aside0.mk (blk_below (g := gb481) (o := .cells #[.int .i64 t474, .int .i64 t475, .int .i64 t476, .int .i64 t477, .int .i64 t478, .int .i64 t479, .string t480] 26 (0, 0)) (by (with_reducible repeat (first | refine blk_drewN ?_ _ | refine blk_drew ?_ | refine blk_alloc ?_ _)); refine blk_far ?_ (by have h_ := Kd.R_ne HO541.out BK481.out (by decide); intro e_; exact h_ (by rw [e_]; rfl)) _; (with_reducible repeat (first | refine blk_drewN ?_ _ | refine blk_drew ?_ | refine blk_alloc ?_ _)); exact BK481.out) hb); have n5_ := Aside0.mk (blk_below (g := gb506) (o := .cells #[.int .i64 t498, .int .i64 t499, .int .i64 t500, .int .i64 t501, .int .i64 t502, .int .i64 t503, .string t504] 26 (0, 0)) (by (with_reducible repeat (first | refine blk_drewN ?_ _ | refine blk_drew ?_ | refine blk_alloc ?_ _)); refine blk_far ?_ (by have h_ := Kd.R_ne HO541.out BK506.out (by decide); intro e_; exact h_ (by rw [e_]; rfl)) _; (with_reducible repeat (first | refine blk_drewN ?_ _ | refine blk_drew ?_ | refine blk_alloc ?_ _)); exact BK506.out) hb); have n6_ := Aside0.mk (below_step Z94 hb); clear HO_6; clear HO_7; clear HO515; clear HO541; clear BK481; clear BK506; clear HB; have HO_6 := n0_; have HO_7 := n1_; have HO515 := n2_; have HO541 := n3_; have BK481 := n4_; have BK506 := n5_; have HB := n6_; clear n0_ n1_ n2_ n3_ n4_ n5_ n6_; (try clear hb)))
                        go_ret
                        have hji61 := HJS_.out
                        exact ⟨by first | rfl | (simp [errW_none, errW_some] <;> rfl) | (simp only [← hji61, ← hji67]; first | rfl | (simp [errW_none, errW_some] <;> rfl)) | (simp [*, errW_none, errW_some] <;> rfl), by repeat (first | (with_reducible first | exact HB.out | apply below_alloc | apply pw_below_drewN | apply below_drew1 | refine below_set ?_ GE481.out | refine below_set ?_ GE506.out) | exact HB.out)⟩
                  ·rw [if_neg c69] at H
                   exact absurd H (by simp)
                 ·rw [if_neg c68] at H
                  exact absurd H (by simp)
               ·rw [if_neg c65] at H
                exact absurd H (by simp)
              ·rw [if_neg c63] at H
               exact absurd H (by simp)
             ·rw [if_neg c62] at H
              exact absurd H (by simp)
            ·rw [if_neg c59] at H
             exact absurd H (by simp)
           ·rw [if_neg c58] at H
            exact absurd H (by simp)
       ·replace c43 := Bool.eq_false_iff.mpr c43
        subst c43
        have H1 : (if (t485.length : Int) = 0 then ((laws_haOk.f).bind fun t497 => (some t497)) else (some false)) = some r := by rw [if_neg (show ¬ (false = true) by decide)] at H; exact H
        clear H
        have H := H1
        clear H1
        by_cases c139 : (t485.length : Int) = 0
        ·rw [if_pos c139] at H
         have c139b0 : ((t485.length : Int) == 0) = true := beq_iff_eq.mpr c139
         have c139b1 : ((t485.length : Int) != 0) = false := bne_eq_false_iff_eq.mpr c139
         clear c139
         replace H := Option.bind_eq_some_iff.mp H
         obtain ⟨t497, A1400, H⟩ := H
         replace H : (some t497) = some r := H
         have A140 := Aside0.mk A1400
         clear A1400
         obtain rfl := Option.some.inj H
         have hcz141_0 : wc.cell? ⟨gb481, 0, none⟩ = some (.int .i64 t474) := (blk_cell BK481.out 0).trans rfl
         have hcz141_1 : wc.cell? ⟨gb481, 1, none⟩ = some (.int .i64 t475) := (blk_cell BK481.out 1).trans rfl
         have hcz141_2 : wc.cell? ⟨gb481, 2, none⟩ = some (.int .i64 t476) := (blk_cell BK481.out 2).trans rfl
         have hcz141_3 : wc.cell? ⟨gb481, 3, none⟩ = some (.int .i64 t477) := (blk_cell BK481.out 3).trans rfl
         have hcz141_4 : wc.cell? ⟨gb481, 4, none⟩ = some (.int .i64 t478) := (blk_cell BK481.out 4).trans rfl
         have hcz141_5 : wc.cell? ⟨gb481, 5, none⟩ = some (.int .i64 t479) := (blk_cell BK481.out 5).trans rfl
         have hcz141_6 : wc.cell? ⟨gb481, 6, none⟩ = some (.string t480) := (blk_cell BK481.out 6).trans rfl
         have hfz141_0 := blk_frozen BK481.out 0
         have hfz141_1 := blk_frozen BK481.out 1
         have hfz141_2 := blk_frozen BK481.out 2
         have hfz141_3 := blk_frozen BK481.out 3
         have hfz141_4 := blk_frozen BK481.out 4
         have hfz141_5 := blk_frozen BK481.out 5
         have hfz141_6 := blk_frozen BK481.out 6
         go_wp2_with (first | ((with_reducible refine gate_callee (f := 17) rfl ?_); refine goesL_ (some 52) rfl rfl Tryd.func17 (by kernel_rfl) rfl #[.agg #[.int .i64 t474, .int .i64 t475, .int .i64 t476, .int .i64 t477, .int .i64 t478, .int .i64 t479, .string t480]] rfl Z44 ?_; (with_reducible refine (spec_SegOk.calls kj8 t474 t475 t476 t477 t478 t479 t480 false _ A42.out).mono ?_); rintro e w142 ⟨rfl, hb⟩; refine ⟨_, rfl, ?_⟩; have n0_ := Aside0.mk (Kd.R_below Z5 hb); have n1_ := Aside0.mk (Kd.R_below Z6 hb); have n2_ := Aside0.mk (blk_below (g := gb481) (o := .cells #[.int .i64 t474, .int .i64 t475, .int .i64 t476, .int .i64 t477, .int .i64 t478, .int .i64 t479, .string t480] 26 (0, 0)) Z39 hb); have n3_ := Aside0.mk (below_step Z58 hb); clear HO_6; clear HO_7; clear BK481; clear HB; have HO_6 := n0_; have HO_7 := n1_; have BK481 := n2_; have HB := n3_; clear n0_ n1_ n2_ n3_; (try clear hb); obtain ⟨Ao143, co143, eo143⟩ := Kd.R_slice HO_7.out; subst eo143) | (go_at_call 20; (with_reducible refine (laws_haOk.calls  t497 _ A140.out).mono ?_); rintro e w144 ⟨rfl, hb⟩; have n0_ := Aside0.mk (Kd.R_below Z5 hb); have n1_ := Aside0.mk (Kd.R_below Z6 hb); have n2_ := Aside0.mk (blk_below (g := gb481) (o := .cells #[.int .i64 t474, .int .i64 t475, .int .i64 t476, .int .i64 t477, .int .i64 t478, .int .i64 t479, .string t480] 26 (0, 0)) Z39 hb); have n3_ := Aside0.mk (below_step Z58 hb); clear HO_6; clear HO_7; clear BK481; clear HB; have HO_6 := n0_; have HO_7 := n1_; have BK481 := n2_; have HB := n3_; clear n0_ n1_ n2_ n3_; (try clear hb)))
         go_ret
         exact ⟨by first | rfl | (simp [errW_none, errW_some] <;> rfl) | (simp [*, errW_none, errW_some] <;> rfl), by repeat (first | (with_reducible first | exact HB.out | apply below_alloc | apply pw_below_drewN | apply below_drew1 | refine below_set ?_ GE481.out) | exact HB.out)⟩
        ·rw [if_neg c139] at H
         have c139b0 : ((t485.length : Int) == 0) = false := beq_eq_false_iff_ne.mpr c139
         have c139b1 : ((t485.length : Int) != 0) = true := bne_iff_ne.mpr c139
         have c139b2 : ¬ (t485 = []) := fun h_ => c139 (by rw [h_]; rfl)
         obtain rfl := Option.some.inj H
         have hcz145_0 : wc.cell? ⟨gb481, 0, none⟩ = some (.int .i64 t474) := (blk_cell BK481.out 0).trans rfl
         have hcz145_1 : wc.cell? ⟨gb481, 1, none⟩ = some (.int .i64 t475) := (blk_cell BK481.out 1).trans rfl
         have hcz145_2 : wc.cell? ⟨gb481, 2, none⟩ = some (.int .i64 t476) := (blk_cell BK481.out 2).trans rfl
         have hcz145_3 : wc.cell? ⟨gb481, 3, none⟩ = some (.int .i64 t477) := (blk_cell BK481.out 3).trans rfl
         have hcz145_4 : wc.cell? ⟨gb481, 4, none⟩ = some (.int .i64 t478) := (blk_cell BK481.out 4).trans rfl
         have hcz145_5 : wc.cell? ⟨gb481, 5, none⟩ = some (.int .i64 t479) := (blk_cell BK481.out 5).trans rfl
         have hcz145_6 : wc.cell? ⟨gb481, 6, none⟩ = some (.string t480) := (blk_cell BK481.out 6).trans rfl
         have hfz145_0 := blk_frozen BK481.out 0
         have hfz145_1 := blk_frozen BK481.out 1
         have hfz145_2 := blk_frozen BK481.out 2
         have hfz145_3 := blk_frozen BK481.out 3
         have hfz145_4 := blk_frozen BK481.out 4
         have hfz145_5 := blk_frozen BK481.out 5
         have hfz145_6 := blk_frozen BK481.out 6
         go_wp2_with (first | ((with_reducible refine gate_callee (f := 17) rfl ?_); refine goesL_ (some 52) rfl rfl Tryd.func17 (by kernel_rfl) rfl #[.agg #[.int .i64 t474, .int .i64 t475, .int .i64 t476, .int .i64 t477, .int .i64 t478, .int .i64 t479, .string t480]] rfl Z44 ?_; (with_reducible refine (spec_SegOk.calls kj8 t474 t475 t476 t477 t478 t479 t480 false _ A42.out).mono ?_); rintro e w146 ⟨rfl, hb⟩; refine ⟨_, rfl, ?_⟩; have n0_ := Aside0.mk (Kd.R_below Z5 hb); have n1_ := Aside0.mk (Kd.R_below Z6 hb); have n2_ := Aside0.mk (blk_below (g := gb481) (o := .cells #[.int .i64 t474, .int .i64 t475, .int .i64 t476, .int .i64 t477, .int .i64 t478, .int .i64 t479, .string t480] 26 (0, 0)) Z39 hb); have n3_ := Aside0.mk (below_step Z58 hb); clear HO_6; clear HO_7; clear BK481; clear HB; have HO_6 := n0_; have HO_7 := n1_; have BK481 := n2_; have HB := n3_; clear n0_ n1_ n2_ n3_; (try clear hb); obtain ⟨Ao147, co147, eo147⟩ := Kd.R_slice HO_7.out; subst eo147))
         go_ret
         exact ⟨by first | rfl | (simp [errW_none, errW_some] <;> rfl) | (simp [*, errW_none, errW_some] <;> rfl), by repeat (first | (with_reducible first | exact HB.out | apply below_alloc | apply pw_below_drewN | apply below_drew1 | refine below_set ?_ GE481.out) | exact HB.out)⟩

end Go.Proofs.YtdfoelhpeeanlaaDoor.QFnSegBytes
