-- Laid by a program of this repo (wip/tools/sprint.py): print.py's functions and walks; the contracts named 'BY HAND' are proved by hand.
import Derived.Test.YtdfoelhpeeanlaaDoorQFnSegBytesx2
import Derived.Test.YtdfoelhpeeanlaaDoorQFnSegBytesx1
import Derived.Test.YtdfoelhpeeanlaaDoorQFnSegBytesx0
import Derived.Test.YtdfoelhpeeanlaaDoorQFnSegBytesx3
namespace Go.Proofs.YtdfoelhpeeanlaaDoor.QFnSegBytes
open Go.RowKit Go.Proofs.YtdfoelhpeeanlaaDoorW.PrintWords Go.Proofs.YtdfoelhpeeanlaaDoorW.PrintLast Go.Proofs.YtdfoelhpeeanlaaDoorW.PrintMore
attribute [local go_sem] max2_int min2_int max_two min_two max_three min_three max_four min_four   -- for this text's walks alone
set_option linter.unusedVariables false
set_option linter.unusedSimpArgs false

/-! ### spec_l5Num: function 22 -/
def spec_l5Num.f (l0 : List Int) (a1 : Int) : Option (Int) := if 0 ≤ a1 then (if a1 < (l0.length : Int) then (if 0 ≤ (wrap64 (a1 + 1)) then (if (wrap64 (a1 + 1)) < (l0.length : Int) then (some (wrap64 ((wrap64 ((wrap64 (rd l0 a1)) * 256)) + (wrap64 (rd l0 (wrap64 (a1 + 1))))))) else (none)) else (none)) else (none)) else (none)
set_option maxHeartbeats 8000000 in
set_option maxRecDepth 100000 in
theorem spec_l5Num.calls (A0 : Option Addr) (c0 : Nat) (l0 : List Int) (a1 : Int) (r : Int) (w : World) (hr0 : Kd.C (Kd.int .u8) w A0 l0.length l0) (hc0 : l0.length ≤ c0) (h : spec_l5Num.f l0 a1 = some r) :
  Calls Tryd.prog 22 #[.slice A0 l0.length c0, .int .i64 a1] w fun e w' => e = .returned (.int .i64 r) ∧ Drawn0 w w' := by
 have HR0 := Aside0.mk hr0
 have HC0 := Aside0.mk hc0
 clear hr0 hc0
 have H : (if 0 ≤ a1 then (if a1 < (l0.length : Int) then (if 0 ≤ (wrap64 (a1 + 1)) then (if (wrap64 (a1 + 1)) < (l0.length : Int) then (some (wrap64 ((wrap64 ((wrap64 (rd l0 a1)) * 256)) + (wrap64 (rd l0 (wrap64 (a1 + 1))))))) else (none)) else (none)) else (none)) else (none)) = some r := h
 clear h
 by_cases c3 : 0 ≤ a1
 ·rw [if_pos c3] at H
  have c3b0 : decide (0 ≤ a1) = true := decide_eq_true c3
  clear c3
  by_cases c4 : a1 < (l0.length : Int)
  ·rw [if_pos c4] at H
   have c4b0 : decide (a1 < (l0.length : Int)) = true := decide_eq_true c4
   clear c4
   obtain ⟨ji5, hji5⟩ : ∃ j_ : Int, (wrap64 (a1 + 1)) = j_ := ⟨_, rfl⟩
   replace H : (if 0 ≤ (ji5) then (if (ji5) < (l0.length : Int) then (some (wrap64 ((wrap64 ((wrap64 (rd l0 a1)) * 256)) + (wrap64 (rd l0 (ji5)))))) else (none)) else (none)) = some r := by first | (rw [hji5] at H; exact H) | (simp only [hji5] at H ⊢; exact H)
   have hji5w : (IntKind.i64.wrap (a1 + 1)) = ji5 := (i64_w _).trans hji5
   by_cases c6 : 0 ≤ (ji5)
   ·rw [if_pos c6] at H
    have c6b0 : decide (0 ≤ (ji5)) = true := decide_eq_true c6
    clear c6
    by_cases c7 : (ji5) < (l0.length : Int)
    ·rw [if_pos c7] at H
     have c7b0 : decide ((ji5) < (l0.length : Int)) = true := decide_eq_true c7
     clear c7
     obtain rfl := Option.some.inj H
     have p118 : 0 ≤ (a1 : Int) := of_decide_eq_true Z2
     have q118 : a1 < (l0.length : Int) := of_decide_eq_true Z2
     obtain ⟨ad118, e118, hx118_0⟩ := Kd.at_int HR0.out a1 p118 q118
     cases e118
     replace p118 := eq_true p118
     replace q118 := eq_true q118
     have p119 : 0 ≤ ((ji5) : Int) := of_decide_eq_true Z2
     have q119 : (ji5) < (l0.length : Int) := of_decide_eq_true Z2
     obtain ⟨ad119, e119, hx119_0⟩ := Kd.at_int HR0.out (ji5) p119 q119
     obtain rfl : ad118 = ad119 := (by injection e119)
     replace p119 := eq_true p119
     replace q119 := eq_true q119
     go_enter Tryd.func22, Tryd.ntmps22
     go_wp2
     repeat (go_quiet (fail); try go_wp2)
     go_ret
     exact ⟨by first | rfl | (simp; done) | (simp only [← hji5] <;> (first | rfl | simp)) | (simp [*]; done), by repeat (first | exact Drawn0.refl _ | apply Drawn0.step)⟩
    ·rw [if_neg c7] at H
     exact absurd H (by simp)
   ·rw [if_neg c6] at H
    exact absurd H (by simp)
  ·rw [if_neg c4] at H
   exact absurd H (by simp)
 ·rw [if_neg c3] at H
  exact absurd H (by simp)

/-! ### spec_SegRead: function 6 -/
def spec_SegRead.j0 : Nat → List Int → Int → Bool → Option (Int × Int × Int × Int × Int × Int × ByteArray × Bool)
 | 0, _, _, _ => none
 | k + 1, x0, x4, x34 => if x34 = true then (some (0, 0, 0, 0, 0, 0, (⟨#[]⟩ : ByteArray), false)) else ((spec_l5Num.f x0 0).bind fun t125 => ((spec_l5Num.f x0 2).bind fun t126 => ((spec_l5Num.f x0 4).bind fun t127 => ((spec_l5Num.f x0 6).bind fun t128 => ((spec_l5Num.f x0 8).bind fun t129 => ((spec_l5Num.f x0 10).bind fun t130 => (if 13 ≤ (wrap64 (13 + x4)) then (if (wrap64 (13 + x4)) ≤ (x0.length : Int) then ((spec_SegOk.f k t125 t126 t127 t128 t129 t130 (strOfNums ((x0.take ((wrap64 (13 + x4)) : Int).toNat).drop 13))).bind fun t133 => (if t133 = true then (some (t125, t126, t127, t128, t129, t130, strOfNums ((x0.take ((wrap64 (13 + x4)) : Int).toNat).drop 13), true)) else (some (0, 0, 0, 0, 0, 0, (⟨#[]⟩ : ByteArray), false)))) else (none)) else (none))))))))
def spec_SegRead.f (k : Nat) (l0 : List Int) : Option (Int × Int × Int × Int × Int × Int × ByteArray × Bool) := if (wrap64 ((l0.length : Int) - 15)) < 0 then (spec_SegRead.j0 k l0 (wrap64 ((l0.length : Int) - 15)) true) else (if (wrap64 ((l0.length : Int) - 15)) > 12 then (spec_SegRead.j0 k l0 (wrap64 ((l0.length : Int) - 15)) true) else (if 12 < (l0.length : Int) then (if (wrap64 (rd l0 12)) = (wrap64 ((l0.length : Int) - 15)) then ((spec_l5Num.f l0 (wrap64 (13 + (wrap64 ((l0.length : Int) - 15))))).bind fun t122 => (if 0 ≤ (wrap64 (13 + (wrap64 ((l0.length : Int) - 15)))) then (if (wrap64 (13 + (wrap64 ((l0.length : Int) - 15)))) ≤ (l0.length : Int) then ((spec_SegSum.f k (l0.take ((wrap64 (13 + (wrap64 ((l0.length : Int) - 15)))) : Int).toNat)).bind fun t124 => (spec_SegRead.j0 k l0 (wrap64 ((l0.length : Int) - 15)) (t122 != t124))) else (none)) else (none))) else (spec_SegRead.j0 k l0 (wrap64 ((l0.length : Int) - 15)) true)) else (none)))
theorem spec_SegRead.mono_l : ∀ k, (∀ y0 y1 y2, LeO (spec_SegRead.j0 k y0 y1 y2) (spec_SegRead.j0 (k + 1) y0 y1 y2))
 | 0 => fun _ _ _ r h => by simp [spec_SegRead.j0] at h
 | k + 1 => by
  have ih0 := spec_SegRead.mono_l k
  ·intro y0 y1 y2
   unfold spec_SegRead.j0
   repeat' first
   | (with_reducible exact ih0 _ _ _)
   | (with_reducible exact spec_SegOk.mono _ _ _ _ _ _ _ _)
   | (with_reducible exact spec_SegSum.mono _ _)
   | (with_reducible exact LeO.refl _)
   | (with_reducible exact LeO.none _)
   | (with_reducible refine LeO.ite ?_ ?_)
   | (with_reducible refine LeO.bind ?_ (fun _ => ?_))
   | exact ih0 _ _ _
   | exact spec_SegOk.mono _ _ _ _ _ _ _ _
   | exact spec_SegSum.mono _ _
   | exact LeO.none _
   | refine LeO.ite ?_ ?_
   | refine LeO.bind ?_ (fun _ => ?_)
theorem spec_SegRead.mono : ∀ a0 k, LeO (spec_SegRead.f k a0) (spec_SegRead.f (k + 1) a0) := by
 intro a0 k
 have ih0 := spec_SegRead.mono_l k
 unfold spec_SegRead.f
 repeat' first
   | (with_reducible exact ih0 _ _ _)
   | (with_reducible exact spec_SegOk.mono _ _ _ _ _ _ _ _)
   | (with_reducible exact spec_SegSum.mono _ _)
   | (with_reducible exact LeO.refl _)
   | (with_reducible exact LeO.none _)
   | (with_reducible refine LeO.ite ?_ ?_)
   | (with_reducible refine LeO.bind ?_ (fun _ => ?_))
   | exact ih0 _ _ _
   | exact spec_SegOk.mono _ _ _ _ _ _ _ _
   | exact spec_SegSum.mono _ _
   | exact LeO.none _
   | refine LeO.ite ?_ ?_
   | refine LeO.bind ?_ (fun _ => ?_)
def spec_SegRead.T4 : Bool × List (List Nat × List Nat) := (true, [([], []), ([0], [0]), ([], []), ([2, 1], [2]), ([1, 3], [1, 3]), ([], []), ([5, 3], [5]), ([], []), ([7, 6], [7]), ([6, 8], [6, 8]), ([], []), ([10, 8], [10]), ([], []), ([12, 11], [12]), ([], []), ([], []), ([15], [15]), ([14, 16], [14, 16]), ([17], [17]), ([4, 9, 11, 13, 18], [4, 9, 11, 13, 18]), ([], []), ([20, 19, 13, 0, 1, 2, 3, 4, 5, 6, 7, 8, 9, 10, 11, 12, 13, 14, 15, 16, 17, 18, 19, 20], [19, 20])])
def spec_SegRead.B4 : List Nat := [0, 1, 0, 7, 15, 0, 47, 0, 239, 495, 0, 1519, 0, 7663, 0, 0, 32768, 114688, 245760, 524287, 0, 2097151]
theorem spec_SegRead.tab4 : rtab .any (opsOf Tryd.f6 4) = spec_SegRead.T4 := by kernel_rfl
theorem spec_SegRead.bits4 : waitsOk spec_SegRead.T4.2 spec_SegRead.B4 = true := by kernel_rfl
set_option maxHeartbeats 8000000 in
set_option maxRecDepth 100000 in
theorem spec_SegRead.calls (k : Nat) (A0 : Option Addr) (c0 : Nat) (l0 : List Int) (r1 : Int) (r2 : Int) (r3 : Int) (r4 : Int) (r5 : Int) (r6 : Int) (r7 : ByteArray) (r8 : Bool) (w : World) (hr0 : Kd.C (Kd.int .u8) w A0 l0.length l0) (hc0 : l0.length ≤ c0) (h : spec_SegRead.f k l0 = some (r1, r2, r3, r4, r5, r6, r7, r8)) :
  Calls Tryd.prog 6 #[.slice A0 l0.length c0] w fun e w' => e = .returned (.tuple #[.agg #[.int .i64 r1, .int .i64 r2, .int .i64 r3, .int .i64 r4, .int .i64 r5, .int .i64 r6, .string r7], .bool r8]) ∧ Below w.heap.size w w' := by
 have hu26 := Tryd.underlying26
 have hu24 := Tryd.underlying24
 have HR0 := Aside0.mk hr0
 have HC0 := Aside0.mk hc0
 clear hr0 hc0
 have HB := Aside0.mk (Below.refl w.heap.size w)
 have H : (if (wrap64 ((l0.length : Int) - 15)) < 0 then (spec_SegRead.j0 k l0 (wrap64 ((l0.length : Int) - 15)) true) else (if (wrap64 ((l0.length : Int) - 15)) > 12 then (spec_SegRead.j0 k l0 (wrap64 ((l0.length : Int) - 15)) true) else (if 12 < (l0.length : Int) then (if (wrap64 (rd l0 12)) = (wrap64 ((l0.length : Int) - 15)) then ((spec_l5Num.f l0 (wrap64 (13 + (wrap64 ((l0.length : Int) - 15))))).bind fun t122 => (if 0 ≤ (wrap64 (13 + (wrap64 ((l0.length : Int) - 15)))) then (if (wrap64 (13 + (wrap64 ((l0.length : Int) - 15)))) ≤ (l0.length : Int) then ((spec_SegSum.f k (l0.take ((wrap64 (13 + (wrap64 ((l0.length : Int) - 15)))) : Int).toNat)).bind fun t124 => (spec_SegRead.j0 k l0 (wrap64 ((l0.length : Int) - 15)) (t122 != t124))) else (none)) else (none))) else (spec_SegRead.j0 k l0 (wrap64 ((l0.length : Int) - 15)) true)) else (none)))) = some (r1, r2, r3, r4, r5, r6, r7, r8) := h
 clear h
 have HC2 := Aside0.mk H
 clear H
 go_enter Tryd.func6, Tryd.ntmps6
 go_upto_region 2 with (first | ((with_reducible refine gate_dst (N := 2) rfl ?_); refine box_event ?hg (N := 2) ?hd (cs := #[.int .i64 0, .int .i64 0, .int .i64 0, .int .i64 0, .int .i64 0, .int .i64 0, .string (⟨#[]⟩ : ByteArray)]) (t := 26) ?hr ?_; (case hd => rfl); (case hg => rfl); (case hr => first | (go_simp; done) | (go_simp; rfl)); intro gb120 hg w3 hbox hb; have n0_ := Aside0.mk (below_step Z42 hb); have n1_ := Aside0.mk (hbox); have n2_ := Aside0.mk ((Z104 : w.heap.size ≤ gb120)); have n3_ := Aside0.mk ((Z104 : w.heap.size ≤ gb120)); clear HB; have HB := n0_; have BK120 := n1_; have GW120 := n2_; have GE120 := n3_; clear n0_ n1_ n2_ n3_; clear hb hbox hg))
 (try simp only [Act.put, List.setIfInBounds_toArray, List.set_cons_zero, List.set_cons_succ])
 go_cut [34] (fun v34 wc => ∃ (kq : Nat) (x34_1 : Bool), v34 = .bool x34_1 ∧ Aside0 (spec_SegRead.j0 kq l0 (wrap64 ((l0.length : Int) - 15)) x34_1 = some (r1, r2, r3, r4, r5, r6, r7, r8)) ∧ Aside0 (kq ≤ k) ∧ Aside0 (wc.heap[gb120]? = some (.cells #[.int .i64 0, .int .i64 0, .int .i64 0, .int .i64 0, .int .i64 0, .int .i64 0, .string (⟨#[]⟩ : ByteArray)] 26 (0, 0))) ∧ Aside0 (Below w.heap.size w wc))
 case first =>
  have H := HC2.out
  clear HC2
  by_cases c4 : (wrap64 ((l0.length : Int) - 15)) < 0
  ·rw [if_pos c4] at H
   have c4b0 : decide ((wrap64 ((l0.length : Int) - 15)) < 0) = true := decide_eq_true c4
   clear c4
   (first | rw [c4b0] | (simp only [i64_w, i32_w]; rw [c4b0]) | skip)
   have H' := Aside0.mk H
   clear H
   go_wp2
   repeat (go_quiet (fail); try go_wp2)
   go_meet
   case rel => exact ⟨_, (true), Z1, H', ⟨by first | omega | exact Nat.le_refl _⟩, ⟨by (with_reducible repeat (first | refine blk_drewN ?_ _ | refine blk_drew ?_ | refine blk_alloc ?_ _)); exact BK120.out⟩, ⟨by repeat (first | (with_reducible first | exact HB.out | apply below_alloc | apply pw_below_drewN | apply below_drew1 | refine below_set ?_ GE120.out) | exact HB.out)⟩⟩
  ·rw [if_neg c4] at H
   have c4b0 : decide ((wrap64 ((l0.length : Int) - 15)) < 0) = false := decide_eq_false c4
   clear c4
   (first | rw [c4b0] | (simp only [i64_w, i32_w]; rw [c4b0]) | skip)
   by_cases c5 : (wrap64 ((l0.length : Int) - 15)) > 12
   ·rw [if_pos c5] at H
    have c5b0 : decide (12 < (wrap64 ((l0.length : Int) - 15))) = true := decide_eq_true c5
    clear c5
    have H' := Aside0.mk H
    clear H
    go_wp2
    repeat (go_quiet (fail); try go_wp2)
    go_meet
    case rel => exact ⟨_, (true), Z1, H', ⟨by first | omega | exact Nat.le_refl _⟩, ⟨by (with_reducible repeat (first | refine blk_drewN ?_ _ | refine blk_drew ?_ | refine blk_alloc ?_ _)); exact BK120.out⟩, ⟨by repeat (first | (with_reducible first | exact HB.out | apply below_alloc | apply pw_below_drewN | apply below_drew1 | refine below_set ?_ GE120.out) | exact HB.out)⟩⟩
   ·rw [if_neg c5] at H
    have c5b0 : decide (12 < (wrap64 ((l0.length : Int) - 15))) = false := decide_eq_false c5
    clear c5
    by_cases c6 : 12 < (l0.length : Int)
    ·rw [if_pos c6] at H
     have c6b0 : decide (12 < (l0.length : Int)) = true := decide_eq_true c6
     have c6b1 : decide (12 < l0.length) = true := decide_eq_true (by omega)
     clear c6
     by_cases c7 : (wrap64 (rd l0 12)) = (wrap64 ((l0.length : Int) - 15))
     ·rw [if_pos c7] at H
      have c7b0 : ((wrap64 (rd l0 12)) == (wrap64 ((l0.length : Int) - 15))) = true := beq_iff_eq.mpr c7
      have c7b1 : ((wrap64 (rd l0 12)) != (wrap64 ((l0.length : Int) - 15))) = false := bne_eq_false_iff_eq.mpr c7
      clear c7
      replace H := Option.bind_eq_some_iff.mp H
      obtain ⟨t122, A80, H⟩ := H
      replace H : (if 0 ≤ (wrap64 (13 + (wrap64 ((l0.length : Int) - 15)))) then (if (wrap64 (13 + (wrap64 ((l0.length : Int) - 15)))) ≤ (l0.length : Int) then ((spec_SegSum.f k (l0.take ((wrap64 (13 + (wrap64 ((l0.length : Int) - 15)))) : Int).toNat)).bind fun t124 => (spec_SegRead.j0 k l0 (wrap64 ((l0.length : Int) - 15)) (t122 != t124))) else (none)) else (none)) = some (r1, r2, r3, r4, r5, r6, r7, r8) := H
      have A8 := Aside0.mk A80
      clear A80
      obtain ⟨ji9, hji9⟩ : ∃ j_ : Int, (wrap64 (13 + (wrap64 ((l0.length : Int) - 15)))) = j_ := ⟨_, rfl⟩
      replace H : (if 0 ≤ (ji9) then (if (ji9) ≤ (l0.length : Int) then ((spec_SegSum.f k (l0.take ((ji9) : Int).toNat)).bind fun t124 => (spec_SegRead.j0 k l0 (wrap64 ((l0.length : Int) - 15)) (t122 != t124))) else (none)) else (none)) = some (r1, r2, r3, r4, r5, r6, r7, r8) := by first | (rw [hji9] at H; exact H) | (simp only [hji9] at H ⊢; exact H)
      (try rw [hji9] at A8)
      have hji9w : (IntKind.i64.wrap (13 + (wrap64 ((l0.length : Int) - 15)))) = ji9 := (i64_w _).trans hji9
      by_cases c10 : 0 ≤ (ji9)
      ·rw [if_pos c10] at H
       have c10b0 := eq_true c10
       have c10b1 : decide (0 ≤ (ji9)) = true := decide_eq_true c10
       clear c10
       by_cases c11 : (ji9) ≤ (l0.length : Int)
       ·rw [if_pos c11] at H
        have c11b0 := eq_true c11
        have c11b1 : decide ((ji9) ≤ (l0.length : Int)) = true := decide_eq_true c11
        clear c11
        replace H := Option.bind_eq_some_iff.mp H
        obtain ⟨t124, A120, H⟩ := H
        replace H : (spec_SegRead.j0 k l0 (wrap64 ((l0.length : Int) - 15)) (t122 != t124)) = some (r1, r2, r3, r4, r5, r6, r7, r8) := H
        have A12 := Aside0.mk A120
        clear A120
        have H' := Aside0.mk H
        clear H
        have p121 : 0 ≤ (12 : Int) := (by omega)
        have q121 : 12 < (l0.length : Int) := of_decide_eq_true Z2
        obtain ⟨ad121, e121, hx121_0⟩ := Kd.at_int HR0.out 12 p121 q121
        cases e121
        (try simp only [show (12 : Int).toNat = 12 from rfl, Nat.reduceMul, Nat.reduceEqDiff, Go.Addr.add, ↓reduceIte] at hx121_0)
        have qi121 : (12 < l0.length) = True := eq_true (by omega)
        (try rw [show ((12 : Int)).toNat = 12 from rfl] at hx121_0)
        replace hx121_0 := (HB.out.cell (World.block_lt_of_cell? w _ hx121_0)).trans hx121_0
        replace p121 := eq_true p121
        replace q121 := eq_true q121
        obtain ⟨i013, hi013, _, hsz13, _⟩ := info_parts info5
        obtain ⟨hcut13, hA13, hC13⟩ := print_take_of (P := Tryd.prog) (Value.int .u8) 0 22 5 .i64 Tryd.underlying22 hi013 hsz13 (some ad121) c0 l0 (ji9) (of_decide_eq_true Z2) (of_decide_eq_true Z2) HC0.out
        have HR123 := Aside0.mk (Kd.C_of_reads (h1 := fun _ => rfl) (hA13 _ (Kd.reads_of_C HR0.out)))
        have HC123 := Aside0.mk hC13
        clear hA13 hC13 hi013 hsz13
        have c11z := of_decide_eq_true c11b1
        have hz13 : (l0.take ((ji9) : Int).toNat).length = (ji9 : Int).toNat := by rw [List.length_take]; omega
        have hsum := fun W s1 s2 => spec_SegSum.calls k (some ad121) c0 (l0.take ((ji9) : Int).toNat) t124 W s1 s2 A12.out
        rw [hz13] at hsum
        have HS0 := HR123.out
        rw [hz13] at HS0
        have HR124 := Aside0.mk HS0
        clear HS0
        have HC124 := Aside0.mk (hz13 ▸ HC123.out)
        have HSUM := Aside0.mk hsum
        clear hsum c11z hz13
        have c7w : (IntKind.i64.wrap (rd l0 12) = (wrap64 ((l0.length : Int) - 15))) = True := eq_true ((i64_w _).trans (beq_iff_eq.mp c7b0))
        go_wp2
        go_quiet (first | (go_at_call 22; refine Calls.quiet_of (v := .int .i64 t122) ((spec_l5Num.calls _ _ l0 ji9 t122 _ ?side1 ?side2 A8.out).mono ?_); (case side1 => exact Z60); (case side2 => exact HC0.out); rintro e w' ⟨rfl, ⟨nd, rfl⟩⟩; exact ⟨rfl, nd, rfl⟩) | (go_at_call 19; refine Calls.quiet_of (v := .int .i64 t124) ((HSUM.out _ ?side1 HC124.out).mono ?_); (case side1 => repeat (first | exact (Kd.C_below HR124.out HB.out) | (with_reducible refine Kd.C_alloc ?_ _) | (with_reducible refine Kd.C_drewN ?_ _) | (with_reducible refine Kd.C_drew ?_))); rintro e w' ⟨rfl, ⟨nd, rfl⟩⟩; exact ⟨rfl, nd, rfl⟩))
        try go_wp2
        go_meet
        case rel => exact ⟨_, ((t122 != t124)), Z1, H', ⟨by first | omega | exact Nat.le_refl _⟩, ⟨by (with_reducible repeat (first | refine blk_drewN ?_ _ | refine blk_drew ?_ | refine blk_alloc ?_ _)); exact BK120.out⟩, ⟨by repeat (first | (with_reducible first | exact HB.out | apply below_alloc | apply pw_below_drewN | apply below_drew1 | refine below_set ?_ GE120.out) | exact HB.out)⟩⟩
       ·rw [if_neg c11] at H
        exact absurd H (by simp)
      ·rw [if_neg c10] at H
       exact absurd H (by simp)
     ·rw [if_neg c7] at H
      have c7b0 : ((wrap64 (rd l0 12)) == (wrap64 ((l0.length : Int) - 15))) = false := beq_eq_false_iff_ne.mpr c7
      have c7b1 : ((wrap64 (rd l0 12)) != (wrap64 ((l0.length : Int) - 15))) = true := bne_iff_ne.mpr c7
      have H' := Aside0.mk H
      clear H
      have p121 : 0 ≤ (12 : Int) := (by omega)
      have q121 : 12 < (l0.length : Int) := of_decide_eq_true Z2
      obtain ⟨ad121, e121, hx121_0⟩ := Kd.at_int HR0.out 12 p121 q121
      cases e121
      (try simp only [show (12 : Int).toNat = 12 from rfl, Nat.reduceMul, Nat.reduceEqDiff, Go.Addr.add, ↓reduceIte] at hx121_0)
      have qi121 : (12 < l0.length) = True := eq_true (by omega)
      (try rw [show ((12 : Int)).toNat = 12 from rfl] at hx121_0)
      replace hx121_0 := (HB.out.cell (World.block_lt_of_cell? w _ hx121_0)).trans hx121_0
      replace p121 := eq_true p121
      replace q121 := eq_true q121
      go_wp2
      repeat (go_quiet (fail); try go_wp2)
      go_meet
      case rel => exact ⟨_, (true), Z1, H', ⟨by first | omega | exact Nat.le_refl _⟩, ⟨by (with_reducible repeat (first | refine blk_drewN ?_ _ | refine blk_drew ?_ | refine blk_alloc ?_ _)); exact BK120.out⟩, ⟨by repeat (first | (with_reducible first | exact HB.out | apply below_alloc | apply pw_below_drewN | apply below_drew1 | refine below_set ?_ GE120.out) | exact HB.out)⟩⟩
    ·rw [if_neg c6] at H
     exact absurd H (by simp)
 case rest =>
  clear HC2
  try clear c1
  try clear p1
  try clear q1
  try clear hx1
  try clear qi1
  try clear p2
  try clear c4
  try clear c4b0
  try clear c5
  try clear c5b0
  try clear c6
  try clear c6b0
  try clear c6b1
  try clear p6
  try clear c7
  try clear c7b0
  try clear c7b1
  try clear c10
  try clear c10b0
  try clear c10b1
  try clear c11
  try clear c11b0
  try clear c11b1
  try clear p12
  try clear q12
  try clear hx12
  try clear qi12
  try clear hx121_0
  try clear p121
  try clear q121
  obtain ⟨kq, x34_1, rfl, HA, HJ1, BK120, HB⟩ := hcut
  cases kq with
  | zero => exact absurd HA.out (by simp [spec_SegRead.j0])
  | succ kj1 =>
   have H := HA.out
   clear HA
   simp only [spec_SegRead.j0] at H
   by_cases c14 : x34_1 = true
   ·subst c14
    have H1 : (some (0, 0, 0, 0, 0, 0, (⟨#[]⟩ : ByteArray), false)) = some (r1, r2, r3, r4, r5, r6, r7, r8) := by rw [if_pos rfl] at H; exact H
    clear H
    have H := H1
    clear H1
    simp only [Option.some.injEq, Prod.mk.injEq] at H
    obtain ⟨rfl, rfl, rfl, rfl, rfl, rfl, rfl, rfl⟩ := H
    have hcz15_0 : wc.cell? ⟨gb120, 0, none⟩ = some (.int .i64 0) := (blk_cell BK120.out 0).trans rfl
    have hcz15_1 : wc.cell? ⟨gb120, 1, none⟩ = some (.int .i64 0) := (blk_cell BK120.out 1).trans rfl
    have hcz15_2 : wc.cell? ⟨gb120, 2, none⟩ = some (.int .i64 0) := (blk_cell BK120.out 2).trans rfl
    have hcz15_3 : wc.cell? ⟨gb120, 3, none⟩ = some (.int .i64 0) := (blk_cell BK120.out 3).trans rfl
    have hcz15_4 : wc.cell? ⟨gb120, 4, none⟩ = some (.int .i64 0) := (blk_cell BK120.out 4).trans rfl
    have hcz15_5 : wc.cell? ⟨gb120, 5, none⟩ = some (.int .i64 0) := (blk_cell BK120.out 5).trans rfl
    have hcz15_6 : wc.cell? ⟨gb120, 6, none⟩ = some (.string (⟨#[]⟩ : ByteArray)) := (blk_cell BK120.out 6).trans rfl
    have hfz15_0 := blk_frozen BK120.out 0
    have hfz15_1 := blk_frozen BK120.out 1
    have hfz15_2 := blk_frozen BK120.out 2
    have hfz15_3 := blk_frozen BK120.out 3
    have hfz15_4 := blk_frozen BK120.out 4
    have hfz15_5 := blk_frozen BK120.out 5
    have hfz15_6 := blk_frozen BK120.out 6
    go_wp2
    refine bodyPost_ret (results_ct rfl _ _ gb120 26 #[.int .i64 0, .int .i64 0, .int .i64 0, .int .i64 0, .int .i64 0, .int .i64 0, .string (⟨#[]⟩ : ByteArray)] (0, 0) _ rfl Z102 Tryd.underlying26 rfl (by kernel_rfl)) rfl ?_
    exact ⟨by first | rfl | (simp [errW_none, errW_some] <;> rfl) | (simp [*, errW_none, errW_some] <;> rfl), by repeat (first | (with_reducible first | exact HB.out | apply below_alloc | apply pw_below_drewN | apply below_drew1 | refine below_set ?_ GE120.out) | exact HB.out)⟩
   ·replace c14 := Bool.eq_false_iff.mpr c14
    subst c14
    have H1 : ((spec_l5Num.f l0 0).bind fun t125 => ((spec_l5Num.f l0 2).bind fun t126 => ((spec_l5Num.f l0 4).bind fun t127 => ((spec_l5Num.f l0 6).bind fun t128 => ((spec_l5Num.f l0 8).bind fun t129 => ((spec_l5Num.f l0 10).bind fun t130 => (if 13 ≤ (wrap64 (13 + (wrap64 ((l0.length : Int) - 15)))) then (if (wrap64 (13 + (wrap64 ((l0.length : Int) - 15)))) ≤ (l0.length : Int) then ((spec_SegOk.f kj1 t125 t126 t127 t128 t129 t130 (strOfNums ((l0.take ((wrap64 (13 + (wrap64 ((l0.length : Int) - 15)))) : Int).toNat).drop 13))).bind fun t133 => (if t133 = true then (some (t125, t126, t127, t128, t129, t130, strOfNums ((l0.take ((wrap64 (13 + (wrap64 ((l0.length : Int) - 15)))) : Int).toNat).drop 13), true)) else (some (0, 0, 0, 0, 0, 0, (⟨#[]⟩ : ByteArray), false)))) else (none)) else (none)))))))) = some (r1, r2, r3, r4, r5, r6, r7, r8) := by rw [if_neg (show ¬ (false = true) by decide)] at H; exact H
    clear H
    have H := H1
    clear H1
    replace H := Option.bind_eq_some_iff.mp H
    obtain ⟨t125, A160, H⟩ := H
    replace H : ((spec_l5Num.f l0 2).bind fun t126 => ((spec_l5Num.f l0 4).bind fun t127 => ((spec_l5Num.f l0 6).bind fun t128 => ((spec_l5Num.f l0 8).bind fun t129 => ((spec_l5Num.f l0 10).bind fun t130 => (if 13 ≤ (wrap64 (13 + (wrap64 ((l0.length : Int) - 15)))) then (if (wrap64 (13 + (wrap64 ((l0.length : Int) - 15)))) ≤ (l0.length : Int) then ((spec_SegOk.f kj1 t125 t126 t127 t128 t129 t130 (strOfNums ((l0.take ((wrap64 (13 + (wrap64 ((l0.length : Int) - 15)))) : Int).toNat).drop 13))).bind fun t133 => (if t133 = true then (some (t125, t126, t127, t128, t129, t130, strOfNums ((l0.take ((wrap64 (13 + (wrap64 ((l0.length : Int) - 15)))) : Int).toNat).drop 13), true)) else (some (0, 0, 0, 0, 0, 0, (⟨#[]⟩ : ByteArray), false)))) else (none)) else (none))))))) = some (r1, r2, r3, r4, r5, r6, r7, r8) := H
    have A16 := Aside0.mk A160
    clear A160
    replace H := Option.bind_eq_some_iff.mp H
    obtain ⟨t126, A170, H⟩ := H
    replace H : ((spec_l5Num.f l0 4).bind fun t127 => ((spec_l5Num.f l0 6).bind fun t128 => ((spec_l5Num.f l0 8).bind fun t129 => ((spec_l5Num.f l0 10).bind fun t130 => (if 13 ≤ (wrap64 (13 + (wrap64 ((l0.length : Int) - 15)))) then (if (wrap64 (13 + (wrap64 ((l0.length : Int) - 15)))) ≤ (l0.length : Int) then ((spec_SegOk.f kj1 t125 t126 t127 t128 t129 t130 (strOfNums ((l0.take ((wrap64 (13 + (wrap64 ((l0.length : Int) - 15)))) : Int).toNat).drop 13))).bind fun t133 => (if t133 = true then (some (t125, t126, t127, t128, t129, t130, strOfNums ((l0.take ((wrap64 (13 + (wrap64 ((l0.length : Int) - 15)))) : Int).toNat).drop 13), true)) else (some (0, 0, 0, 0, 0, 0, (⟨#[]⟩ : ByteArray), false)))) else (none)) else (none)))))) = some (r1, r2, r3, r4, r5, r6, r7, r8) := H
    have A17 := Aside0.mk A170
    clear A170
    replace H := Option.bind_eq_some_iff.mp H
    obtain ⟨t127, A180, H⟩ := H
    replace H : ((spec_l5Num.f l0 6).bind fun t128 => ((spec_l5Num.f l0 8).bind fun t129 => ((spec_l5Num.f l0 10).bind fun t130 => (if 13 ≤ (wrap64 (13 + (wrap64 ((l0.length : Int) - 15)))) then (if (wrap64 (13 + (wrap64 ((l0.length : Int) - 15)))) ≤ (l0.length : Int) then ((spec_SegOk.f kj1 t125 t126 t127 t128 t129 t130 (strOfNums ((l0.take ((wrap64 (13 + (wrap64 ((l0.length : Int) - 15)))) : Int).toNat).drop 13))).bind fun t133 => (if t133 = true then (some (t125, t126, t127, t128, t129, t130, strOfNums ((l0.take ((wrap64 (13 + (wrap64 ((l0.length : Int) - 15)))) : Int).toNat).drop 13), true)) else (some (0, 0, 0, 0, 0, 0, (⟨#[]⟩ : ByteArray), false)))) else (none)) else (none))))) = some (r1, r2, r3, r4, r5, r6, r7, r8) := H
    have A18 := Aside0.mk A180
    clear A180
    replace H := Option.bind_eq_some_iff.mp H
    obtain ⟨t128, A190, H⟩ := H
    replace H : ((spec_l5Num.f l0 8).bind fun t129 => ((spec_l5Num.f l0 10).bind fun t130 => (if 13 ≤ (wrap64 (13 + (wrap64 ((l0.length : Int) - 15)))) then (if (wrap64 (13 + (wrap64 ((l0.length : Int) - 15)))) ≤ (l0.length : Int) then ((spec_SegOk.f kj1 t125 t126 t127 t128 t129 t130 (strOfNums ((l0.take ((wrap64 (13 + (wrap64 ((l0.length : Int) - 15)))) : Int).toNat).drop 13))).bind fun t133 => (if t133 = true then (some (t125, t126, t127, t128, t129, t130, strOfNums ((l0.take ((wrap64 (13 + (wrap64 ((l0.length : Int) - 15)))) : Int).toNat).drop 13), true)) else (some (0, 0, 0, 0, 0, 0, (⟨#[]⟩ : ByteArray), false)))) else (none)) else (none)))) = some (r1, r2, r3, r4, r5, r6, r7, r8) := H
    have A19 := Aside0.mk A190
    clear A190
    replace H := Option.bind_eq_some_iff.mp H
    obtain ⟨t129, A200, H⟩ := H
    replace H : ((spec_l5Num.f l0 10).bind fun t130 => (if 13 ≤ (wrap64 (13 + (wrap64 ((l0.length : Int) - 15)))) then (if (wrap64 (13 + (wrap64 ((l0.length : Int) - 15)))) ≤ (l0.length : Int) then ((spec_SegOk.f kj1 t125 t126 t127 t128 t129 t130 (strOfNums ((l0.take ((wrap64 (13 + (wrap64 ((l0.length : Int) - 15)))) : Int).toNat).drop 13))).bind fun t133 => (if t133 = true then (some (t125, t126, t127, t128, t129, t130, strOfNums ((l0.take ((wrap64 (13 + (wrap64 ((l0.length : Int) - 15)))) : Int).toNat).drop 13), true)) else (some (0, 0, 0, 0, 0, 0, (⟨#[]⟩ : ByteArray), false)))) else (none)) else (none))) = some (r1, r2, r3, r4, r5, r6, r7, r8) := H
    have A20 := Aside0.mk A200
    clear A200
    replace H := Option.bind_eq_some_iff.mp H
    obtain ⟨t130, A210, H⟩ := H
    replace H : (if 13 ≤ (wrap64 (13 + (wrap64 ((l0.length : Int) - 15)))) then (if (wrap64 (13 + (wrap64 ((l0.length : Int) - 15)))) ≤ (l0.length : Int) then ((spec_SegOk.f kj1 t125 t126 t127 t128 t129 t130 (strOfNums ((l0.take ((wrap64 (13 + (wrap64 ((l0.length : Int) - 15)))) : Int).toNat).drop 13))).bind fun t133 => (if t133 = true then (some (t125, t126, t127, t128, t129, t130, strOfNums ((l0.take ((wrap64 (13 + (wrap64 ((l0.length : Int) - 15)))) : Int).toNat).drop 13), true)) else (some (0, 0, 0, 0, 0, 0, (⟨#[]⟩ : ByteArray), false)))) else (none)) else (none)) = some (r1, r2, r3, r4, r5, r6, r7, r8) := H
    have A21 := Aside0.mk A210
    clear A210
    by_cases c22 : 13 ≤ (wrap64 (13 + (wrap64 ((l0.length : Int) - 15))))
    ·rw [if_pos c22] at H
     have c22b0 := eq_true c22
     have c22b1 : decide (13 ≤ (wrap64 (13 + (wrap64 ((l0.length : Int) - 15))))) = true := decide_eq_true c22
     by_cases c23 : (wrap64 (13 + (wrap64 ((l0.length : Int) - 15)))) ≤ (l0.length : Int)
     ·rw [if_pos c23] at H
      have c23b0 := eq_true c23
      have c23b1 : decide ((wrap64 (13 + (wrap64 ((l0.length : Int) - 15)))) ≤ (l0.length : Int)) = true := decide_eq_true c23
      replace H := Option.bind_eq_some_iff.mp H
      obtain ⟨t133, A240, H⟩ := H
      replace H : (if t133 = true then (some (t125, t126, t127, t128, t129, t130, strOfNums ((l0.take ((wrap64 (13 + (wrap64 ((l0.length : Int) - 15)))) : Int).toNat).drop 13), true)) else (some (0, 0, 0, 0, 0, 0, (⟨#[]⟩ : ByteArray), false))) = some (r1, r2, r3, r4, r5, r6, r7, r8) := H
      have A24 := Aside0.mk A240
      clear A240
      obtain ⟨i026, hi026, _, hsz26, _⟩ := info_parts info5
      obtain ⟨A26, hcut26, hA26, hC26⟩ := print_mid_of (P := Tryd.prog) (Value.int .u8) 0 22 5 .i64 .i64 Tryd.underlying22 hi026 hsz26 A0 c0 l0 13 (wrap64 (13 + (wrap64 ((l0.length : Int) - 15)))) (by omega) (by first | omega | exact of_decide_eq_true Z2) (of_decide_eq_true Z2) HC0.out
      have HR131 := Aside0.mk (Kd.C_of_reads (h1 := fun _ => rfl) (hA26 _ (Kd.reads_of_C HR0.out)))
      clear hA26 hC26 hi026 hsz26
      go_upto_region 4 with (fail)
      go_cut [5] (fun v5 wd => ∃ gb132 : Nat, v5 = .pointer (some ⟨gb132, 0, none⟩) ∧ Aside0 (wd.heap[gb132]? = some (.cells #[.int .i64 t125, .int .i64 t126, .int .i64 t127, .int .i64 t128, .int .i64 t129, .int .i64 t130, .string (strOfNums ((l0.take ((wrap64 (13 + (wrap64 ((l0.length : Int) - 15)))) : Int).toNat).drop 13))] 26 (0, 0))) ∧ Aside0 (gb132 ≠ gb120) ∧ Aside0 (w.heap.size ≤ gb132) ∧ Aside0 (wd.heap[gb120]? = some (.cells #[.int .i64 0, .int .i64 0, .int .i64 0, .int .i64 0, .int .i64 0, .int .i64 0, .string (⟨#[]⟩ : ByteArray)] 26 (0, 0))) ∧ Aside0 (Below w.heap.size w wd))
      case first =>
       have n1_ := Aside0.mk (blk_drew BK120.out)
       have n2_ := Aside0.mk (below_drew1 HB.out)
       clear BK120 HB
       have BK120 := n1_
       have HB := n2_
       clear n1_ n2_
       refine start_ (n := 22) (S := fun w' => True) (ds := []) #[false, false, false, false, false, false, false, false, false, false, false, false, false, false, false, false, false, false, false, false, false, false] (by kernel_rfl) rfl rfl trivial (fun hHeld => ?_); refine with_tabW spec_SegRead.tab4 spec_SegRead.bits4 (fun HT_ HW_ => ?_)
       generalize wc.drew = w5 at BK120 HB hHeld ⊢
       obtain ⟨gq_, hgq⟩ : ∃ g_, g_ = w5.heap.size := ⟨_, rfl⟩
       have HGQ := Aside0.mk hgq
       have hge := (show w.heap.size ≤ gq_ by rw [hgq]; exact HB.out.size)
       have hne := (show gq_ ≠ gb120 by rw [hgq]; exact Nat.ne_of_gt (blk_lt BK120.out))
       clear hgq
       refine inv_at [0, 1, 2, 3, 4, 5, 6, 7, 8, 9, 10, 11, 12, 13, 14, 15, 16, 17, 18, 19, 20, 21] (fun a0_ b a w' => a = putSel a0_ b [(0, 36, .slice A0 l0.length c0), (1, 37, .int .i64 t125), (2, 38, .slice A0 l0.length c0), (3, 39, .int .i64 t126), (4, 40, .agg #[.int .i64 t125, .int .i64 t126]), (5, 41, .slice A0 l0.length c0), (6, 42, .int .i64 t127), (7, 43, .slice A0 l0.length c0), (8, 44, .int .i64 t128), (9, 45, .agg #[.int .i64 t127, .int .i64 t128]), (10, 46, .slice A0 l0.length c0), (11, 47, .int .i64 t129), (12, 48, .slice A0 l0.length c0), (13, 49, .int .i64 t130), (14, 50, .slice A0 l0.length c0), (15, 51, .int .i64 (wrap64 ((l0.length : Int) - 15))), (16, 52, .int .i64 (wrap64 (13 + (wrap64 ((l0.length : Int) - 15))))), (17, 53, .slice A26 ((l0.take ((wrap64 (13 + (wrap64 ((l0.length : Int) - 15)))) : Int).toNat).drop 13).length (c0 - 13)), (18, 54, .string (strOfNums ((l0.take ((wrap64 (13 + (wrap64 ((l0.length : Int) - 15)))) : Int).toNat).drop 13))), (19, 55, .agg #[.int .i64 t125, .int .i64 t126, .int .i64 t127, .int .i64 t128, .int .i64 t129, .int .i64 t130, .string (strOfNums ((l0.take ((wrap64 (13 + (wrap64 ((l0.length : Int) - 15)))) : Int).toNat).drop 13))]), (20, 5, .pointer (some ⟨gq_, 0, none⟩))] ∧ (Below w.heap.size w w') ∧ (w'.heap[gb120]? = some (.cells #[.int .i64 0, .int .i64 0, .int .i64 0, .int .i64 0, .int .i64 0, .int .i64 0, .string (⟨#[]⟩ : ByteArray)] 26 (0, 0))) ∧ (b 20 = false → w'.heap.size = gq_) ∧ (b 20 = true → b 21 = false → w'.heap[gq_]? = some (.cells #[.int .i64 0, .int .i64 0, .int .i64 0, .int .i64 0, .int .i64 0, .int .i64 0, .string (⟨#[]⟩ : ByteArray)] 26 (0, 0))) ∧ (b 21 = true → w'.heap[gq_]? = some (.cells #[.int .i64 t125, .int .i64 t126, .int .i64 t127, .int .i64 t128, .int .i64 t129, .int .i64 t130, .string (strOfNums ((l0.take ((wrap64 (13 + (wrap64 ((l0.length : Int) - 15)))) : Int).toNat).drop 13))] 26 (0, 0)))) HT_.out HW_.out (by kernel_rfl) (by kernel_rfl) ?_ ?_ ?_
       ·exact ⟨by simp only [putSel, Bool.false_eq_true, if_false], HB.out, BK120.out, fun _ => HGQ.out.symm, fun h_ => absurd h_ (by decide), fun h_ => absurd h_ (by decide)⟩
       ·skip
        clear BK120 HB
        refine steps_cons ?_ ?_
        ·rintro b a w' ⟨ha, Q_B, Q_K, Q_s, Q_z, Q_f⟩ hb_ hon hoff
         refine ⟨_, rfl, fun K hK => ?_⟩
         have e0 : a.tmps[0]? = some (.slice A0 l0.length c0) := by rw [ha]; exact (putSel_off rfl).trans rfl
         replace ha := Aside0.mk ha
         replace Q_K := Aside0.mk Q_K
         replace Q_B := Aside0.mk Q_B
         refine value_ (w1 := w') (v := .slice A0 l0.length c0) (by rfl) rfl ?_ ?_
         ·go_simp
          (try simp only [i64_w])
          try rfl
         refine hK.out _ _ ⟨(by rw [ha.out]; exact putSel_upk 0 hb_ rfl rfl rfl), Q_B.out, Q_K.out, Q_s, Q_z, Q_f⟩
        refine steps_cons ?_ ?_
        ·rintro b a w' ⟨ha, Q_B, Q_K, Q_s, Q_z, Q_f⟩ hb_ hon hoff
         refine ⟨_, rfl, fun K hK => ?_⟩
         have e36 : a.tmps[36]? = some (.slice A0 l0.length c0) := by rw [ha]; exact putSel_on (e := (0, 36, .slice A0 l0.length c0)) 0 rfl rfl (hon 0 (by kernel_rfl)) rfl
         replace ha := Aside0.mk ha
         replace Q_K := Aside0.mk Q_K
         replace Q_B := Aside0.mk Q_B
         refine goes_ Tryd.func22 (by kernel_rfl) rfl #[.slice A0 l0.length c0, .int .i64 0] (by rfl) rfl rfl (by first | (simp only [List.map_toArray, List.map_cons, List.map_nil, Act.eval, Array.getD_eq_getD_getElem?, Option.getD_some, e36]; done) | (simp only [List.map_toArray, List.map_cons, List.map_nil, Act.eval, Array.getD_eq_getD_getElem?, Option.getD_some, e36]; rfl)) ?_
         refine (spec_l5Num.calls _ _ l0 0 t125 _ ?side1 ?side2 A16.out).mono ?_
         (case side1 => exact Kd.C_below HR0.out Q_B.out)
         (case side2 => exact HC0.out)
         rintro e w8 ⟨rfl, ⟨nd, rfl⟩⟩
         refine ⟨_, rfl, ?_⟩
         refine hK.out _ _ ⟨(by rw [ha.out]; exact putSel_upk 1 hb_ rfl rfl rfl), pw_below_drewN Q_B.out _, blk_drewN Q_K.out _, fun h_ => (show (World.drewN w' nd).heap.size = gq_ by have := Q_s h_; simpa using this), fun h_ h1_ => blk_drewN (Q_z h_ h1_) _, fun h_ => blk_drewN (Q_f h_) _⟩
        refine steps_cons ?_ ?_
        ·rintro b a w' ⟨ha, Q_B, Q_K, Q_s, Q_z, Q_f⟩ hb_ hon hoff
         refine ⟨_, rfl, fun K hK => ?_⟩
         have e0 : a.tmps[0]? = some (.slice A0 l0.length c0) := by rw [ha]; exact (putSel_off rfl).trans rfl
         replace ha := Aside0.mk ha
         replace Q_K := Aside0.mk Q_K
         replace Q_B := Aside0.mk Q_B
         refine value_ (w1 := w') (v := .slice A0 l0.length c0) (by rfl) rfl ?_ ?_
         ·go_simp
          (try simp only [i64_w])
          try rfl
         refine hK.out _ _ ⟨(by rw [ha.out]; exact putSel_upk 2 hb_ rfl rfl rfl), Q_B.out, Q_K.out, Q_s, Q_z, Q_f⟩
        refine steps_cons ?_ ?_
        ·rintro b a w' ⟨ha, Q_B, Q_K, Q_s, Q_z, Q_f⟩ hb_ hon hoff
         refine ⟨_, rfl, fun K hK => ?_⟩
         have e38 : a.tmps[38]? = some (.slice A0 l0.length c0) := by rw [ha]; exact putSel_on (e := (2, 38, .slice A0 l0.length c0)) 2 rfl rfl (hon 2 (by kernel_rfl)) rfl
         replace ha := Aside0.mk ha
         replace Q_K := Aside0.mk Q_K
         replace Q_B := Aside0.mk Q_B
         refine goes_ Tryd.func22 (by kernel_rfl) rfl #[.slice A0 l0.length c0, .int .i64 2] (by rfl) rfl rfl (by first | (simp only [List.map_toArray, List.map_cons, List.map_nil, Act.eval, Array.getD_eq_getD_getElem?, Option.getD_some, e38]; done) | (simp only [List.map_toArray, List.map_cons, List.map_nil, Act.eval, Array.getD_eq_getD_getElem?, Option.getD_some, e38]; rfl)) ?_
         refine (spec_l5Num.calls _ _ l0 2 t126 _ ?side1 ?side2 A17.out).mono ?_
         (case side1 => exact Kd.C_below HR0.out Q_B.out)
         (case side2 => exact HC0.out)
         rintro e w8 ⟨rfl, ⟨nd, rfl⟩⟩
         refine ⟨_, rfl, ?_⟩
         refine hK.out _ _ ⟨(by rw [ha.out]; exact putSel_upk 3 hb_ rfl rfl rfl), pw_below_drewN Q_B.out _, blk_drewN Q_K.out _, fun h_ => (show (World.drewN w' nd).heap.size = gq_ by have := Q_s h_; simpa using this), fun h_ h1_ => blk_drewN (Q_z h_ h1_) _, fun h_ => blk_drewN (Q_f h_) _⟩
        refine steps_cons ?_ ?_
        ·rintro b a w' ⟨ha, Q_B, Q_K, Q_s, Q_z, Q_f⟩ hb_ hon hoff
         refine ⟨_, rfl, fun K hK => ?_⟩
         have e37 : a.tmps[37]? = some (.int .i64 t125) := by rw [ha]; exact putSel_on (e := (1, 37, .int .i64 t125)) 1 rfl rfl (hon 1 (by kernel_rfl)) rfl
         have e39 : a.tmps[39]? = some (.int .i64 t126) := by rw [ha]; exact putSel_on (e := (3, 39, .int .i64 t126)) 3 rfl rfl (hon 3 (by kernel_rfl)) rfl
         replace ha := Aside0.mk ha
         replace Q_K := Aside0.mk Q_K
         replace Q_B := Aside0.mk Q_B
         refine value_ (w1 := w') (v := .agg #[.int .i64 t125, .int .i64 t126]) (by rfl) rfl ?_ ?_
         ·go_simp
          (try simp only [i64_w])
          try rfl
         refine hK.out _ _ ⟨(by rw [ha.out]; exact putSel_upk 4 hb_ rfl rfl rfl), Q_B.out, Q_K.out, Q_s, Q_z, Q_f⟩
        refine steps_cons ?_ ?_
        ·rintro b a w' ⟨ha, Q_B, Q_K, Q_s, Q_z, Q_f⟩ hb_ hon hoff
         refine ⟨_, rfl, fun K hK => ?_⟩
         have e0 : a.tmps[0]? = some (.slice A0 l0.length c0) := by rw [ha]; exact (putSel_off rfl).trans rfl
         replace ha := Aside0.mk ha
         replace Q_K := Aside0.mk Q_K
         replace Q_B := Aside0.mk Q_B
         refine value_ (w1 := w') (v := .slice A0 l0.length c0) (by rfl) rfl ?_ ?_
         ·go_simp
          (try simp only [i64_w])
          try rfl
         refine hK.out _ _ ⟨(by rw [ha.out]; exact putSel_upk 5 hb_ rfl rfl rfl), Q_B.out, Q_K.out, Q_s, Q_z, Q_f⟩
        refine steps_cons ?_ ?_
        ·rintro b a w' ⟨ha, Q_B, Q_K, Q_s, Q_z, Q_f⟩ hb_ hon hoff
         refine ⟨_, rfl, fun K hK => ?_⟩
         have e41 : a.tmps[41]? = some (.slice A0 l0.length c0) := by rw [ha]; exact putSel_on (e := (5, 41, .slice A0 l0.length c0)) 5 rfl rfl (hon 5 (by kernel_rfl)) rfl
         replace ha := Aside0.mk ha
         replace Q_K := Aside0.mk Q_K
         replace Q_B := Aside0.mk Q_B
         refine goes_ Tryd.func22 (by kernel_rfl) rfl #[.slice A0 l0.length c0, .int .i64 4] (by rfl) rfl rfl (by first | (simp only [List.map_toArray, List.map_cons, List.map_nil, Act.eval, Array.getD_eq_getD_getElem?, Option.getD_some, e41]; done) | (simp only [List.map_toArray, List.map_cons, List.map_nil, Act.eval, Array.getD_eq_getD_getElem?, Option.getD_some, e41]; rfl)) ?_
         refine (spec_l5Num.calls _ _ l0 4 t127 _ ?side1 ?side2 A18.out).mono ?_
         (case side1 => exact Kd.C_below HR0.out Q_B.out)
         (case side2 => exact HC0.out)
         rintro e w8 ⟨rfl, ⟨nd, rfl⟩⟩
         refine ⟨_, rfl, ?_⟩
         refine hK.out _ _ ⟨(by rw [ha.out]; exact putSel_upk 6 hb_ rfl rfl rfl), pw_below_drewN Q_B.out _, blk_drewN Q_K.out _, fun h_ => (show (World.drewN w' nd).heap.size = gq_ by have := Q_s h_; simpa using this), fun h_ h1_ => blk_drewN (Q_z h_ h1_) _, fun h_ => blk_drewN (Q_f h_) _⟩
        refine steps_cons ?_ ?_
        ·rintro b a w' ⟨ha, Q_B, Q_K, Q_s, Q_z, Q_f⟩ hb_ hon hoff
         refine ⟨_, rfl, fun K hK => ?_⟩
         have e0 : a.tmps[0]? = some (.slice A0 l0.length c0) := by rw [ha]; exact (putSel_off rfl).trans rfl
         replace ha := Aside0.mk ha
         replace Q_K := Aside0.mk Q_K
         replace Q_B := Aside0.mk Q_B
         refine value_ (w1 := w') (v := .slice A0 l0.length c0) (by rfl) rfl ?_ ?_
         ·go_simp
          (try simp only [i64_w])
          try rfl
         refine hK.out _ _ ⟨(by rw [ha.out]; exact putSel_upk 7 hb_ rfl rfl rfl), Q_B.out, Q_K.out, Q_s, Q_z, Q_f⟩
        refine steps_cons ?_ ?_
        ·rintro b a w' ⟨ha, Q_B, Q_K, Q_s, Q_z, Q_f⟩ hb_ hon hoff
         refine ⟨_, rfl, fun K hK => ?_⟩
         have e43 : a.tmps[43]? = some (.slice A0 l0.length c0) := by rw [ha]; exact putSel_on (e := (7, 43, .slice A0 l0.length c0)) 7 rfl rfl (hon 7 (by kernel_rfl)) rfl
         replace ha := Aside0.mk ha
         replace Q_K := Aside0.mk Q_K
         replace Q_B := Aside0.mk Q_B
         refine goes_ Tryd.func22 (by kernel_rfl) rfl #[.slice A0 l0.length c0, .int .i64 6] (by rfl) rfl rfl (by first | (simp only [List.map_toArray, List.map_cons, List.map_nil, Act.eval, Array.getD_eq_getD_getElem?, Option.getD_some, e43]; done) | (simp only [List.map_toArray, List.map_cons, List.map_nil, Act.eval, Array.getD_eq_getD_getElem?, Option.getD_some, e43]; rfl)) ?_
         refine (spec_l5Num.calls _ _ l0 6 t128 _ ?side1 ?side2 A19.out).mono ?_
         (case side1 => exact Kd.C_below HR0.out Q_B.out)
         (case side2 => exact HC0.out)
         rintro e w8 ⟨rfl, ⟨nd, rfl⟩⟩
         refine ⟨_, rfl, ?_⟩
         refine hK.out _ _ ⟨(by rw [ha.out]; exact putSel_upk 8 hb_ rfl rfl rfl), pw_below_drewN Q_B.out _, blk_drewN Q_K.out _, fun h_ => (show (World.drewN w' nd).heap.size = gq_ by have := Q_s h_; simpa using this), fun h_ h1_ => blk_drewN (Q_z h_ h1_) _, fun h_ => blk_drewN (Q_f h_) _⟩
        refine steps_cons ?_ ?_
        ·rintro b a w' ⟨ha, Q_B, Q_K, Q_s, Q_z, Q_f⟩ hb_ hon hoff
         refine ⟨_, rfl, fun K hK => ?_⟩
         have e42 : a.tmps[42]? = some (.int .i64 t127) := by rw [ha]; exact putSel_on (e := (6, 42, .int .i64 t127)) 6 rfl rfl (hon 6 (by kernel_rfl)) rfl
         have e44 : a.tmps[44]? = some (.int .i64 t128) := by rw [ha]; exact putSel_on (e := (8, 44, .int .i64 t128)) 8 rfl rfl (hon 8 (by kernel_rfl)) rfl
         replace ha := Aside0.mk ha
         replace Q_K := Aside0.mk Q_K
         replace Q_B := Aside0.mk Q_B
         refine value_ (w1 := w') (v := .agg #[.int .i64 t127, .int .i64 t128]) (by rfl) rfl ?_ ?_
         ·go_simp
          (try simp only [i64_w])
          try rfl
         refine hK.out _ _ ⟨(by rw [ha.out]; exact putSel_upk 9 hb_ rfl rfl rfl), Q_B.out, Q_K.out, Q_s, Q_z, Q_f⟩
        refine steps_cons ?_ ?_
        ·rintro b a w' ⟨ha, Q_B, Q_K, Q_s, Q_z, Q_f⟩ hb_ hon hoff
         refine ⟨_, rfl, fun K hK => ?_⟩
         have e0 : a.tmps[0]? = some (.slice A0 l0.length c0) := by rw [ha]; exact (putSel_off rfl).trans rfl
         replace ha := Aside0.mk ha
         replace Q_K := Aside0.mk Q_K
         replace Q_B := Aside0.mk Q_B
         refine value_ (w1 := w') (v := .slice A0 l0.length c0) (by rfl) rfl ?_ ?_
         ·go_simp
          (try simp only [i64_w])
          try rfl
         refine hK.out _ _ ⟨(by rw [ha.out]; exact putSel_upk 10 hb_ rfl rfl rfl), Q_B.out, Q_K.out, Q_s, Q_z, Q_f⟩
        refine steps_cons ?_ ?_
        ·rintro b a w' ⟨ha, Q_B, Q_K, Q_s, Q_z, Q_f⟩ hb_ hon hoff
         refine ⟨_, rfl, fun K hK => ?_⟩
         have e46 : a.tmps[46]? = some (.slice A0 l0.length c0) := by rw [ha]; exact putSel_on (e := (10, 46, .slice A0 l0.length c0)) 10 rfl rfl (hon 10 (by kernel_rfl)) rfl
         replace ha := Aside0.mk ha
         replace Q_K := Aside0.mk Q_K
         replace Q_B := Aside0.mk Q_B
         refine goes_ Tryd.func22 (by kernel_rfl) rfl #[.slice A0 l0.length c0, .int .i64 8] (by rfl) rfl rfl (by first | (simp only [List.map_toArray, List.map_cons, List.map_nil, Act.eval, Array.getD_eq_getD_getElem?, Option.getD_some, e46]; done) | (simp only [List.map_toArray, List.map_cons, List.map_nil, Act.eval, Array.getD_eq_getD_getElem?, Option.getD_some, e46]; rfl)) ?_
         refine (spec_l5Num.calls _ _ l0 8 t129 _ ?side1 ?side2 A20.out).mono ?_
         (case side1 => exact Kd.C_below HR0.out Q_B.out)
         (case side2 => exact HC0.out)
         rintro e w8 ⟨rfl, ⟨nd, rfl⟩⟩
         refine ⟨_, rfl, ?_⟩
         refine hK.out _ _ ⟨(by rw [ha.out]; exact putSel_upk 11 hb_ rfl rfl rfl), pw_below_drewN Q_B.out _, blk_drewN Q_K.out _, fun h_ => (show (World.drewN w' nd).heap.size = gq_ by have := Q_s h_; simpa using this), fun h_ h1_ => blk_drewN (Q_z h_ h1_) _, fun h_ => blk_drewN (Q_f h_) _⟩
        refine steps_cons ?_ ?_
        ·rintro b a w' ⟨ha, Q_B, Q_K, Q_s, Q_z, Q_f⟩ hb_ hon hoff
         refine ⟨_, rfl, fun K hK => ?_⟩
         have e0 : a.tmps[0]? = some (.slice A0 l0.length c0) := by rw [ha]; exact (putSel_off rfl).trans rfl
         replace ha := Aside0.mk ha
         replace Q_K := Aside0.mk Q_K
         replace Q_B := Aside0.mk Q_B
         refine value_ (w1 := w') (v := .slice A0 l0.length c0) (by rfl) rfl ?_ ?_
         ·go_simp
          (try simp only [i64_w])
          try rfl
         refine hK.out _ _ ⟨(by rw [ha.out]; exact putSel_upk 12 hb_ rfl rfl rfl), Q_B.out, Q_K.out, Q_s, Q_z, Q_f⟩
        refine steps_cons ?_ ?_
        ·rintro b a w' ⟨ha, Q_B, Q_K, Q_s, Q_z, Q_f⟩ hb_ hon hoff
         refine ⟨_, rfl, fun K hK => ?_⟩
         have e48 : a.tmps[48]? = some (.slice A0 l0.length c0) := by rw [ha]; exact putSel_on (e := (12, 48, .slice A0 l0.length c0)) 12 rfl rfl (hon 12 (by kernel_rfl)) rfl
         replace ha := Aside0.mk ha
         replace Q_K := Aside0.mk Q_K
         replace Q_B := Aside0.mk Q_B
         refine goes_ Tryd.func22 (by kernel_rfl) rfl #[.slice A0 l0.length c0, .int .i64 10] (by rfl) rfl rfl (by first | (simp only [List.map_toArray, List.map_cons, List.map_nil, Act.eval, Array.getD_eq_getD_getElem?, Option.getD_some, e48]; done) | (simp only [List.map_toArray, List.map_cons, List.map_nil, Act.eval, Array.getD_eq_getD_getElem?, Option.getD_some, e48]; rfl)) ?_
         refine (spec_l5Num.calls _ _ l0 10 t130 _ ?side1 ?side2 A21.out).mono ?_
         (case side1 => exact Kd.C_below HR0.out Q_B.out)
         (case side2 => exact HC0.out)
         rintro e w8 ⟨rfl, ⟨nd, rfl⟩⟩
         refine ⟨_, rfl, ?_⟩
         refine hK.out _ _ ⟨(by rw [ha.out]; exact putSel_upk 13 hb_ rfl rfl rfl), pw_below_drewN Q_B.out _, blk_drewN Q_K.out _, fun h_ => (show (World.drewN w' nd).heap.size = gq_ by have := Q_s h_; simpa using this), fun h_ h1_ => blk_drewN (Q_z h_ h1_) _, fun h_ => blk_drewN (Q_f h_) _⟩
        refine steps_cons ?_ ?_
        ·rintro b a w' ⟨ha, Q_B, Q_K, Q_s, Q_z, Q_f⟩ hb_ hon hoff
         refine ⟨_, rfl, fun K hK => ?_⟩
         have e0 : a.tmps[0]? = some (.slice A0 l0.length c0) := by rw [ha]; exact (putSel_off rfl).trans rfl
         replace ha := Aside0.mk ha
         replace Q_K := Aside0.mk Q_K
         replace Q_B := Aside0.mk Q_B
         refine value_ (w1 := w') (v := .slice A0 l0.length c0) (by rfl) rfl ?_ ?_
         ·go_simp
          (try simp only [i64_w])
          try rfl
         refine hK.out _ _ ⟨(by rw [ha.out]; exact putSel_upk 14 hb_ rfl rfl rfl), Q_B.out, Q_K.out, Q_s, Q_z, Q_f⟩
        refine steps_cons ?_ ?_
        ·rintro b a w' ⟨ha, Q_B, Q_K, Q_s, Q_z, Q_f⟩ hb_ hon hoff
         refine ⟨_, rfl, fun K hK => ?_⟩
         have e4 : a.tmps[4]? = some (.int .i64 (wrap64 ((l0.length : Int) - 15))) := by rw [ha]; exact (putSel_off rfl).trans rfl
         replace ha := Aside0.mk ha
         replace Q_K := Aside0.mk Q_K
         replace Q_B := Aside0.mk Q_B
         refine value_ (w1 := w') (v := .int .i64 (wrap64 ((l0.length : Int) - 15))) (by rfl) rfl ?_ ?_
         ·go_simp
          (try simp only [i64_w])
          try rfl
         refine hK.out _ _ ⟨(by rw [ha.out]; exact putSel_upk 15 hb_ rfl rfl rfl), Q_B.out, Q_K.out, Q_s, Q_z, Q_f⟩
        refine steps_cons ?_ ?_
        ·rintro b a w' ⟨ha, Q_B, Q_K, Q_s, Q_z, Q_f⟩ hb_ hon hoff
         refine ⟨_, rfl, fun K hK => ?_⟩
         have e51 : a.tmps[51]? = some (.int .i64 (wrap64 ((l0.length : Int) - 15))) := by rw [ha]; exact putSel_on (e := (15, 51, .int .i64 (wrap64 ((l0.length : Int) - 15)))) 15 rfl rfl (hon 15 (by kernel_rfl)) rfl
         replace ha := Aside0.mk ha
         replace Q_K := Aside0.mk Q_K
         replace Q_B := Aside0.mk Q_B
         refine value_ (w1 := w') (v := .int .i64 (wrap64 (13 + (wrap64 ((l0.length : Int) - 15))))) (by rfl) rfl ?_ ?_
         ·go_simp
          (try simp only [i64_w])
          try rfl
         refine hK.out _ _ ⟨(by rw [ha.out]; exact putSel_upk 16 hb_ rfl rfl rfl), Q_B.out, Q_K.out, Q_s, Q_z, Q_f⟩
        refine steps_cons ?_ ?_
        ·rintro b a w' ⟨ha, Q_B, Q_K, Q_s, Q_z, Q_f⟩ hb_ hon hoff
         refine ⟨_, rfl, fun K hK => ?_⟩
         have e50 : a.tmps[50]? = some (.slice A0 l0.length c0) := by rw [ha]; exact putSel_on (e := (14, 50, .slice A0 l0.length c0)) 14 rfl rfl (hon 14 (by kernel_rfl)) rfl
         have e52 : a.tmps[52]? = some (.int .i64 (wrap64 (13 + (wrap64 ((l0.length : Int) - 15))))) := by rw [ha]; exact putSel_on (e := (16, 52, .int .i64 (wrap64 (13 + (wrap64 ((l0.length : Int) - 15)))))) 16 rfl rfl (hon 16 (by kernel_rfl)) rfl
         replace ha := Aside0.mk ha
         replace Q_K := Aside0.mk Q_K
         replace Q_B := Aside0.mk Q_B
         refine value_ (w1 := w') (v := .slice A26 ((l0.take ((wrap64 (13 + (wrap64 ((l0.length : Int) - 15)))) : Int).toNat).drop 13).length (c0 - 13)) (by rfl) rfl ?_ ?_
         ·go_simp
          (try simp only [i64_w])
          try rfl
         refine hK.out _ _ ⟨(by rw [ha.out]; exact putSel_upk 17 hb_ rfl rfl rfl), Q_B.out, Q_K.out, Q_s, Q_z, Q_f⟩
        refine steps_cons ?_ ?_
        ·rintro b a w' ⟨ha, Q_B, Q_K, Q_s, Q_z, Q_f⟩ hb_ hon hoff
         refine ⟨_, rfl, fun K hK => ?_⟩
         have e53 : a.tmps[53]? = some (.slice A26 ((l0.take ((wrap64 (13 + (wrap64 ((l0.length : Int) - 15)))) : Int).toNat).drop 13).length (c0 - 13)) := by rw [ha]; exact putSel_on (e := (17, 53, .slice A26 ((l0.take ((wrap64 (13 + (wrap64 ((l0.length : Int) - 15)))) : Int).toNat).drop 13).length (c0 - 13))) 17 rfl rfl (hon 17 (by kernel_rfl)) rfl
         replace ha := Aside0.mk ha
         replace Q_K := Aside0.mk Q_K
         replace Q_B := Aside0.mk Q_B
         have hcv27 := Kd.C_string (P := Tryd.prog) (A := A26) (c := (c0 - 13)) Tryd.underlying22 Tryd.underlying5 Tryd.underlying9 (Kd.C_below HR131.out Q_B.out)
         have hz_ : ((l0.take ((wrap64 (13 + (wrap64 ((l0.length : Int) - 15)))) : Int).toNat).drop 13).length = ((wrap64 (13 + (wrap64 ((l0.length : Int) - 15)))) : Int).toNat - 13 := by rw [List.length_drop, List.length_take]; omega
         rw [show Int.toNat 13 = 13 from rfl, hz_] at hcv27
         refine value_ (w1 := w') (v := .string (strOfNums ((l0.take ((wrap64 (13 + (wrap64 ((l0.length : Int) - 15)))) : Int).toNat).drop 13))) (by rfl) rfl ?_ ?_
         ·go_simp
          (try simp only [i64_w])
          try rfl
          try (rw [hcv27]; rfl)
         refine hK.out _ _ ⟨(by rw [ha.out]; exact putSel_upk 18 hb_ rfl rfl rfl), Q_B.out, Q_K.out, Q_s, Q_z, Q_f⟩
        refine steps_cons ?_ ?_
        ·rintro b a w' ⟨ha, Q_B, Q_K, Q_s, Q_z, Q_f⟩ hb_ hon hoff
         refine ⟨_, rfl, fun K hK => ?_⟩
         have e40 : a.tmps[40]? = some (.agg #[.int .i64 t125, .int .i64 t126]) := by rw [ha]; exact putSel_on (e := (4, 40, .agg #[.int .i64 t125, .int .i64 t126])) 4 rfl rfl (hon 4 (by kernel_rfl)) rfl
         have e45 : a.tmps[45]? = some (.agg #[.int .i64 t127, .int .i64 t128]) := by rw [ha]; exact putSel_on (e := (9, 45, .agg #[.int .i64 t127, .int .i64 t128])) 9 rfl rfl (hon 9 (by kernel_rfl)) rfl
         have e47 : a.tmps[47]? = some (.int .i64 t129) := by rw [ha]; exact putSel_on (e := (11, 47, .int .i64 t129)) 11 rfl rfl (hon 11 (by kernel_rfl)) rfl
         have e49 : a.tmps[49]? = some (.int .i64 t130) := by rw [ha]; exact putSel_on (e := (13, 49, .int .i64 t130)) 13 rfl rfl (hon 13 (by kernel_rfl)) rfl
         have e54 : a.tmps[54]? = some (.string (strOfNums ((l0.take ((wrap64 (13 + (wrap64 ((l0.length : Int) - 15)))) : Int).toNat).drop 13))) := by rw [ha]; exact putSel_on (e := (18, 54, .string (strOfNums ((l0.take ((wrap64 (13 + (wrap64 ((l0.length : Int) - 15)))) : Int).toNat).drop 13)))) 18 rfl rfl (hon 18 (by kernel_rfl)) rfl
         replace ha := Aside0.mk ha
         replace Q_K := Aside0.mk Q_K
         replace Q_B := Aside0.mk Q_B
         refine value_ (w1 := w') (v := .agg #[.int .i64 t125, .int .i64 t126, .int .i64 t127, .int .i64 t128, .int .i64 t129, .int .i64 t130, .string (strOfNums ((l0.take ((wrap64 (13 + (wrap64 ((l0.length : Int) - 15)))) : Int).toNat).drop 13))]) (by rfl) rfl ?_ ?_
         ·go_simp
          (try simp only [i64_w])
          try rfl
         refine hK.out _ _ ⟨(by rw [ha.out]; exact putSel_upk 19 hb_ rfl rfl rfl), Q_B.out, Q_K.out, Q_s, Q_z, Q_f⟩
        refine steps_cons ?_ ?_
        ·rintro b a w' ⟨ha, Q_B, Q_K, Q_s, Q_z, Q_f⟩ hb_ hon hoff
         refine ⟨_, rfl, fun K hK => ?_⟩
         replace ha := Aside0.mk ha
         replace Q_K := Aside0.mk Q_K
         replace Q_B := Aside0.mk Q_B
         refine value_ (w1 := w'.alloc (.cells #[.int .i64 0, .int .i64 0, .int .i64 0, .int .i64 0, .int .i64 0, .int .i64 0, .string (⟨#[]⟩ : ByteArray)] 26)) (v := .pointer (some ⟨gq_, 0, none⟩)) (by rfl) rfl ?_ ?_
         ·rw [← Q_s hb_]
          go_simp
          try rfl
         refine hK.out _ _ ⟨(by rw [ha.out]; exact putSel_upk 20 hb_ rfl rfl rfl), below_alloc Q_B.out _, blk_alloc Q_K.out _, fun h_ => absurd ((up_self b 20).symm.trans h_) (by decide), fun _ _ => (by rw [← Q_s hb_]; show (w'.heap.push _)[w'.heap.size]? = _; rw [Array.getElem?_push, if_pos rfl]), fun h_ => absurd ((hoff 21 (by kernel_rfl)).symm.trans h_) (by decide)⟩
        refine steps_cons ?_ ?_
        ·rintro b a w' ⟨ha, Q_B, Q_K, Q_s, Q_z, Q_f⟩ hb_ hon hoff
         refine ⟨_, rfl, fun K hK => ?_⟩
         have e5 : a.tmps[5]? = some (.pointer (some ⟨gq_, 0, none⟩)) := by rw [ha]; exact putSel_on (e := (20, 5, .pointer (some ⟨gq_, 0, none⟩))) 20 rfl rfl (hon 20 (by kernel_rfl)) rfl
         have e55 : a.tmps[55]? = some (.agg #[.int .i64 t125, .int .i64 t126, .int .i64 t127, .int .i64 t128, .int .i64 t129, .int .i64 t130, .string (strOfNums ((l0.take ((wrap64 (13 + (wrap64 ((l0.length : Int) - 15)))) : Int).toNat).drop 13))]) := by rw [ha]; exact putSel_on (e := (19, 55, .agg #[.int .i64 t125, .int .i64 t126, .int .i64 t127, .int .i64 t128, .int .i64 t129, .int .i64 t130, .string (strOfNums ((l0.take ((wrap64 (13 + (wrap64 ((l0.length : Int) - 15)))) : Int).toNat).drop 13))])) 19 rfl rfl (hon 19 (by kernel_rfl)) rfl
         replace ha := Aside0.mk ha
         replace Q_K := Aside0.mk Q_K
         replace Q_B := Aside0.mk Q_B
         have BZ := Aside0.mk (Q_z (hon 20 (by kernel_rfl)) hb_)
         clear Q_z Q_f Q_s
         have hs0 : w'.cell? ⟨gq_, 0, none⟩ = some (.int .i64 0) := (blk_cell BZ.out 0).trans rfl
         have hfs0 := blk_frozen BZ.out 0
         have hs1 : w'.cell? ⟨gq_, 1, none⟩ = some (.int .i64 0) := (blk_cell BZ.out 1).trans rfl
         have hfs1 := blk_frozen BZ.out 1
         have hs2 : w'.cell? ⟨gq_, 2, none⟩ = some (.int .i64 0) := (blk_cell BZ.out 2).trans rfl
         have hfs2 := blk_frozen BZ.out 2
         have hs3 : w'.cell? ⟨gq_, 3, none⟩ = some (.int .i64 0) := (blk_cell BZ.out 3).trans rfl
         have hfs3 := blk_frozen BZ.out 3
         have hs4 : w'.cell? ⟨gq_, 4, none⟩ = some (.int .i64 0) := (blk_cell BZ.out 4).trans rfl
         have hfs4 := blk_frozen BZ.out 4
         have hs5 : w'.cell? ⟨gq_, 5, none⟩ = some (.int .i64 0) := (blk_cell BZ.out 5).trans rfl
         have hfs5 := blk_frozen BZ.out 5
         have hs6 : w'.cell? ⟨gq_, 6, none⟩ = some (.string (⟨#[]⟩ : ByteArray)) := (blk_cell BZ.out 6).trans rfl
         have hfs6 := blk_frozen BZ.out 6
         refine skip_ (w1 := ?_) (by rfl) rfl ?_ ?_
         rotate_left
         ·go_simp
          with_reducible rfl
         refine hK.out _ _ ⟨(by rw [ha.out]; exact putSel_none (v := undef) rfl), (by (iterate 7 (refine below_set ?_ hge)); exact Q_B.out), (by (iterate 7 (refine blk_far ?_ hne.symm _)); exact Q_K.out), fun h_ => absurd ((hon 20 (by kernel_rfl)).symm.trans h_) (by decide), fun _ h_ => absurd ((up_self b 21).symm.trans h_) (by decide), fun _ => (by (with_reducible repeat (first | refine blk_drewN ?_ _ | refine blk_drew ?_ | refine blk_alloc ?_ _)); refine blk_put (cs := #[.int .i64 t125, .int .i64 t126, .int .i64 t127, .int .i64 t128, .int .i64 t129, .int .i64 t130, .string (⟨#[]⟩ : ByteArray)]) ?_ 6 _ rfl; (with_reducible repeat (first | refine blk_drewN ?_ _ | refine blk_drew ?_ | refine blk_alloc ?_ _)); refine blk_put (cs := #[.int .i64 t125, .int .i64 t126, .int .i64 t127, .int .i64 t128, .int .i64 t129, .int .i64 0, .string (⟨#[]⟩ : ByteArray)]) ?_ 5 _ rfl; (with_reducible repeat (first | refine blk_drewN ?_ _ | refine blk_drew ?_ | refine blk_alloc ?_ _)); refine blk_put (cs := #[.int .i64 t125, .int .i64 t126, .int .i64 t127, .int .i64 t128, .int .i64 0, .int .i64 0, .string (⟨#[]⟩ : ByteArray)]) ?_ 4 _ rfl; (with_reducible repeat (first | refine blk_drewN ?_ _ | refine blk_drew ?_ | refine blk_alloc ?_ _)); refine blk_put (cs := #[.int .i64 t125, .int .i64 t126, .int .i64 t127, .int .i64 0, .int .i64 0, .int .i64 0, .string (⟨#[]⟩ : ByteArray)]) ?_ 3 _ rfl; (with_reducible repeat (first | refine blk_drewN ?_ _ | refine blk_drew ?_ | refine blk_alloc ?_ _)); refine blk_put (cs := #[.int .i64 t125, .int .i64 t126, .int .i64 0, .int .i64 0, .int .i64 0, .int .i64 0, .string (⟨#[]⟩ : ByteArray)]) ?_ 2 _ rfl; (with_reducible repeat (first | refine blk_drewN ?_ _ | refine blk_drew ?_ | refine blk_alloc ?_ _)); refine blk_put (cs := #[.int .i64 t125, .int .i64 0, .int .i64 0, .int .i64 0, .int .i64 0, .int .i64 0, .string (⟨#[]⟩ : ByteArray)]) ?_ 1 _ rfl; (with_reducible repeat (first | refine blk_drewN ?_ _ | refine blk_drew ?_ | refine blk_alloc ?_ _)); refine blk_put (cs := #[.int .i64 0, .int .i64 0, .int .i64 0, .int .i64 0, .int .i64 0, .int .i64 0, .string (⟨#[]⟩ : ByteArray)]) ?_ 0 _ rfl; (with_reducible repeat (first | refine blk_drewN ?_ _ | refine blk_drew ?_ | refine blk_alloc ?_ _)); exact BZ.out)⟩
        exact steps_nil
       rintro b a w8 hall ⟨ha, Q_B, Q_K, Q_s, Q_z, Q_f⟩
       have hb0_ := hall 0 (by kernel_rfl)
       have hb1_ := hall 1 (by kernel_rfl)
       have hb2_ := hall 2 (by kernel_rfl)
       have hb3_ := hall 3 (by kernel_rfl)
       have hb4_ := hall 4 (by kernel_rfl)
       have hb5_ := hall 5 (by kernel_rfl)
       have hb6_ := hall 6 (by kernel_rfl)
       have hb7_ := hall 7 (by kernel_rfl)
       have hb8_ := hall 8 (by kernel_rfl)
       have hb9_ := hall 9 (by kernel_rfl)
       have hb10_ := hall 10 (by kernel_rfl)
       have hb11_ := hall 11 (by kernel_rfl)
       have hb12_ := hall 12 (by kernel_rfl)
       have hb13_ := hall 13 (by kernel_rfl)
       have hb14_ := hall 14 (by kernel_rfl)
       have hb15_ := hall 15 (by kernel_rfl)
       have hb16_ := hall 16 (by kernel_rfl)
       have hb17_ := hall 17 (by kernel_rfl)
       have hb18_ := hall 18 (by kernel_rfl)
       have hb19_ := hall 19 (by kernel_rfl)
       have hb20_ := hall 20 (by kernel_rfl)
       have hb21_ := hall 21 (by kernel_rfl)
       subst ha
       simp only [putSel, hb0_, hb1_, hb2_, hb3_, hb4_, hb5_, hb6_, hb7_, hb8_, hb9_, hb10_, hb11_, hb12_, hb13_, hb14_, hb15_, hb16_, hb17_, hb18_, hb19_, hb20_, hb21_, if_true, Act.put, List.setIfInBounds_toArray, List.set_cons_zero, List.set_cons_succ]
       try go_wp2
       go_meet
       case rel => exact ⟨gq_, rfl, ⟨Q_f hb21_⟩, ⟨hne⟩, ⟨hge⟩, ⟨Q_K⟩, ⟨Q_B⟩⟩
      case rest =>
       clear BK120 HB
       obtain ⟨gb132, rfl, BK132, NBq, GE132, BK120, HB⟩ := hcut
       have NB132_120 := NBq
       have NB120_132 := Aside0.mk (Ne.symm NBq.out)
       have hcy_0 := (blk_cell BK132.out 0).trans (show _ = some (.int .i64 t125) from rfl)
       have hcy_1 := (blk_cell BK132.out 1).trans (show _ = some (.int .i64 t126) from rfl)
       have hcy_2 := (blk_cell BK132.out 2).trans (show _ = some (.int .i64 t127) from rfl)
       have hcy_3 := (blk_cell BK132.out 3).trans (show _ = some (.int .i64 t128) from rfl)
       have hcy_4 := (blk_cell BK132.out 4).trans (show _ = some (.int .i64 t129) from rfl)
       have hcy_5 := (blk_cell BK132.out 5).trans (show _ = some (.int .i64 t130) from rfl)
       have hcy_6 := (blk_cell BK132.out 6).trans (show _ = some (.string (strOfNums ((l0.take ((wrap64 (13 + (wrap64 ((l0.length : Int) - 15)))) : Int).toNat).drop 13))) from rfl)
       by_cases c25 : t133 = true
       ·subst c25
        have H1 : (some (t125, t126, t127, t128, t129, t130, strOfNums ((l0.take ((wrap64 (13 + (wrap64 ((l0.length : Int) - 15)))) : Int).toNat).drop 13), true)) = some (r1, r2, r3, r4, r5, r6, r7, r8) := by rw [if_pos rfl] at H; exact H
        clear H
        have H := H1
        clear H1
        simp only [Option.some.injEq, Prod.mk.injEq] at H
        obtain ⟨rfl, rfl, rfl, rfl, rfl, rfl, rfl, rfl⟩ := H
        go_wp2_with (first | ((with_reducible refine gate_callee (f := 17) rfl ?_); refine goesL_ (some 57) rfl rfl Tryd.func17 (by kernel_rfl) rfl #[.agg #[.int .i64 t125, .int .i64 t126, .int .i64 t127, .int .i64 t128, .int .i64 t129, .int .i64 t130, .string (strOfNums ((l0.take ((wrap64 (13 + (wrap64 ((l0.length : Int) - 15)))) : Int).toNat).drop 13))]] rfl Z44 ?_; (with_reducible refine (spec_SegOk.calls kj1 t125 t126 t127 t128 t129 t130 (strOfNums ((l0.take ((wrap64 (13 + (wrap64 ((l0.length : Int) - 15)))) : Int).toNat).drop 13)) true _ A24.out).mono ?_); rintro e w31 ⟨rfl, hb⟩; refine ⟨_, rfl, ?_⟩; have n0_ := Aside0.mk (blk_below (g := gb120) (o := .cells #[.int .i64 0, .int .i64 0, .int .i64 0, .int .i64 0, .int .i64 0, .int .i64 0, .string (⟨#[]⟩ : ByteArray)] 26 (0, 0)) Z26 hb); have n1_ := Aside0.mk (blk_below (g := gb132) (o := .cells #[.int .i64 t125, .int .i64 t126, .int .i64 t127, .int .i64 t128, .int .i64 t129, .int .i64 t130, .string (strOfNums ((l0.take ((wrap64 (13 + (wrap64 ((l0.length : Int) - 15)))) : Int).toNat).drop 13))] 26 (0, 0)) Z27 hb); have n2_ := Aside0.mk (below_step Z83 hb); clear BK120; clear BK132; clear HB; have BK120 := n0_; have BK132 := n1_; have HB := n2_; clear n0_ n1_ n2_; (try clear hb); have hcz32_0 : w31.cell? ⟨gb132, 0, none⟩ = some (.int .i64 t125) := (blk_cell BK132.out 0).trans rfl; have hcz32_1 : w31.cell? ⟨gb132, 1, none⟩ = some (.int .i64 t126) := (blk_cell BK132.out 1).trans rfl; have hcz32_2 : w31.cell? ⟨gb132, 2, none⟩ = some (.int .i64 t127) := (blk_cell BK132.out 2).trans rfl; have hcz32_3 : w31.cell? ⟨gb132, 3, none⟩ = some (.int .i64 t128) := (blk_cell BK132.out 3).trans rfl; have hcz32_4 : w31.cell? ⟨gb132, 4, none⟩ = some (.int .i64 t129) := (blk_cell BK132.out 4).trans rfl; have hcz32_5 : w31.cell? ⟨gb132, 5, none⟩ = some (.int .i64 t130) := (blk_cell BK132.out 5).trans rfl; have hcz32_6 : w31.cell? ⟨gb132, 6, none⟩ = some (.string (strOfNums ((l0.take ((wrap64 (13 + (wrap64 ((l0.length : Int) - 15)))) : Int).toNat).drop 13))) := (blk_cell BK132.out 6).trans rfl; have hfz32_0 := blk_frozen BK132.out 0; have hfz32_1 := blk_frozen BK132.out 1; have hfz32_2 := blk_frozen BK132.out 2; have hfz32_3 := blk_frozen BK132.out 3; have hfz32_4 := blk_frozen BK132.out 4; have hfz32_5 := blk_frozen BK132.out 5; have hfz32_6 := blk_frozen BK132.out 6; have hcz33_0 : w31.cell? ⟨gb120, 0, none⟩ = some (.int .i64 0) := (blk_cell BK120.out 0).trans rfl; have hcz33_1 : w31.cell? ⟨gb120, 1, none⟩ = some (.int .i64 0) := (blk_cell BK120.out 1).trans rfl; have hcz33_2 : w31.cell? ⟨gb120, 2, none⟩ = some (.int .i64 0) := (blk_cell BK120.out 2).trans rfl; have hcz33_3 : w31.cell? ⟨gb120, 3, none⟩ = some (.int .i64 0) := (blk_cell BK120.out 3).trans rfl; have hcz33_4 : w31.cell? ⟨gb120, 4, none⟩ = some (.int .i64 0) := (blk_cell BK120.out 4).trans rfl; have hcz33_5 : w31.cell? ⟨gb120, 5, none⟩ = some (.int .i64 0) := (blk_cell BK120.out 5).trans rfl; have hcz33_6 : w31.cell? ⟨gb120, 6, none⟩ = some (.string (⟨#[]⟩ : ByteArray)) := (blk_cell BK120.out 6).trans rfl; have hfz33_0 := blk_frozen BK120.out 0; have hfz33_1 := blk_frozen BK120.out 1; have hfz33_2 := blk_frozen BK120.out 2; have hfz33_3 := blk_frozen BK120.out 3; have hfz33_4 := blk_frozen BK120.out 4; have hfz33_5 := blk_frozen BK120.out 5; have hfz33_6 := blk_frozen BK120.out 6))
        refine bodyPost_ret (results_ct rfl _ _ gb120 26 #[.int .i64 t125, .int .i64 t126, .int .i64 t127, .int .i64 t128, .int .i64 t129, .int .i64 t130, .string (strOfNums ((l0.take ((wrap64 (13 + (wrap64 ((l0.length : Int) - 15)))) : Int).toNat).drop 13))] (0, 0) _ rfl (by (with_reducible repeat (first | refine blk_drewN ?_ _ | refine blk_drew ?_ | refine blk_alloc ?_ _)); refine blk_put (cs := #[.int .i64 t125, .int .i64 t126, .int .i64 t127, .int .i64 t128, .int .i64 t129, .int .i64 t130, .string (⟨#[]⟩ : ByteArray)]) ?_ 6 _ rfl; (with_reducible repeat (first | refine blk_drewN ?_ _ | refine blk_drew ?_ | refine blk_alloc ?_ _)); refine blk_put (cs := #[.int .i64 t125, .int .i64 t126, .int .i64 t127, .int .i64 t128, .int .i64 t129, .int .i64 0, .string (⟨#[]⟩ : ByteArray)]) ?_ 5 _ rfl; (with_reducible repeat (first | refine blk_drewN ?_ _ | refine blk_drew ?_ | refine blk_alloc ?_ _)); refine blk_put (cs := #[.int .i64 t125, .int .i64 t126, .int .i64 t127, .int .i64 t128, .int .i64 0, .int .i64 0, .string (⟨#[]⟩ : ByteArray)]) ?_ 4 _ rfl; (with_reducible repeat (first | refine blk_drewN ?_ _ | refine blk_drew ?_ | refine blk_alloc ?_ _)); refine blk_put (cs := #[.int .i64 t125, .int .i64 t126, .int .i64 t127, .int .i64 0, .int .i64 0, .int .i64 0, .string (⟨#[]⟩ : ByteArray)]) ?_ 3 _ rfl; (with_reducible repeat (first | refine blk_drewN ?_ _ | refine blk_drew ?_ | refine blk_alloc ?_ _)); refine blk_put (cs := #[.int .i64 t125, .int .i64 t126, .int .i64 0, .int .i64 0, .int .i64 0, .int .i64 0, .string (⟨#[]⟩ : ByteArray)]) ?_ 2 _ rfl; (with_reducible repeat (first | refine blk_drewN ?_ _ | refine blk_drew ?_ | refine blk_alloc ?_ _)); refine blk_put (cs := #[.int .i64 t125, .int .i64 0, .int .i64 0, .int .i64 0, .int .i64 0, .int .i64 0, .string (⟨#[]⟩ : ByteArray)]) ?_ 1 _ rfl; (with_reducible repeat (first | refine blk_drewN ?_ _ | refine blk_drew ?_ | refine blk_alloc ?_ _)); refine blk_put (cs := #[.int .i64 0, .int .i64 0, .int .i64 0, .int .i64 0, .int .i64 0, .int .i64 0, .string (⟨#[]⟩ : ByteArray)]) ?_ 0 _ rfl; (with_reducible repeat (first | refine blk_drewN ?_ _ | refine blk_drew ?_ | refine blk_alloc ?_ _)); exact BK120.out) Tryd.underlying26 rfl (by kernel_rfl)) rfl ?_
        exact ⟨by first | rfl | (simp [errW_none, errW_some] <;> rfl) | (simp [*, errW_none, errW_some] <;> rfl), by repeat (first | (with_reducible first | exact HB.out | apply below_alloc | apply pw_below_drewN | apply below_drew1 | refine below_set ?_ GE120.out | refine below_set ?_ GE132.out) | exact HB.out)⟩
       ·replace c25 := Bool.eq_false_iff.mpr c25
        subst c25
        have H1 : (some (0, 0, 0, 0, 0, 0, (⟨#[]⟩ : ByteArray), false)) = some (r1, r2, r3, r4, r5, r6, r7, r8) := by rw [if_neg (show ¬ (false = true) by decide)] at H; exact H
        clear H
        have H := H1
        clear H1
        simp only [Option.some.injEq, Prod.mk.injEq] at H
        obtain ⟨rfl, rfl, rfl, rfl, rfl, rfl, rfl, rfl⟩ := H
        go_wp2_with (first | ((with_reducible refine gate_callee (f := 17) rfl ?_); refine goesL_ (some 57) rfl rfl Tryd.func17 (by kernel_rfl) rfl #[.agg #[.int .i64 t125, .int .i64 t126, .int .i64 t127, .int .i64 t128, .int .i64 t129, .int .i64 t130, .string (strOfNums ((l0.take ((wrap64 (13 + (wrap64 ((l0.length : Int) - 15)))) : Int).toNat).drop 13))]] rfl Z44 ?_; (with_reducible refine (spec_SegOk.calls kj1 t125 t126 t127 t128 t129 t130 (strOfNums ((l0.take ((wrap64 (13 + (wrap64 ((l0.length : Int) - 15)))) : Int).toNat).drop 13)) false _ A24.out).mono ?_); rintro e w39 ⟨rfl, hb⟩; refine ⟨_, rfl, ?_⟩; have n0_ := Aside0.mk (blk_below (g := gb120) (o := .cells #[.int .i64 0, .int .i64 0, .int .i64 0, .int .i64 0, .int .i64 0, .int .i64 0, .string (⟨#[]⟩ : ByteArray)] 26 (0, 0)) Z26 hb); have n1_ := Aside0.mk (blk_below (g := gb132) (o := .cells #[.int .i64 t125, .int .i64 t126, .int .i64 t127, .int .i64 t128, .int .i64 t129, .int .i64 t130, .string (strOfNums ((l0.take ((wrap64 (13 + (wrap64 ((l0.length : Int) - 15)))) : Int).toNat).drop 13))] 26 (0, 0)) Z27 hb); have n2_ := Aside0.mk (below_step Z83 hb); clear BK120; clear BK132; clear HB; have BK120 := n0_; have BK132 := n1_; have HB := n2_; clear n0_ n1_ n2_; (try clear hb); have hcz40_0 : w39.cell? ⟨gb120, 0, none⟩ = some (.int .i64 0) := (blk_cell BK120.out 0).trans rfl; have hcz40_1 : w39.cell? ⟨gb120, 1, none⟩ = some (.int .i64 0) := (blk_cell BK120.out 1).trans rfl; have hcz40_2 : w39.cell? ⟨gb120, 2, none⟩ = some (.int .i64 0) := (blk_cell BK120.out 2).trans rfl; have hcz40_3 : w39.cell? ⟨gb120, 3, none⟩ = some (.int .i64 0) := (blk_cell BK120.out 3).trans rfl; have hcz40_4 : w39.cell? ⟨gb120, 4, none⟩ = some (.int .i64 0) := (blk_cell BK120.out 4).trans rfl; have hcz40_5 : w39.cell? ⟨gb120, 5, none⟩ = some (.int .i64 0) := (blk_cell BK120.out 5).trans rfl; have hcz40_6 : w39.cell? ⟨gb120, 6, none⟩ = some (.string (⟨#[]⟩ : ByteArray)) := (blk_cell BK120.out 6).trans rfl; have hfz40_0 := blk_frozen BK120.out 0; have hfz40_1 := blk_frozen BK120.out 1; have hfz40_2 := blk_frozen BK120.out 2; have hfz40_3 := blk_frozen BK120.out 3; have hfz40_4 := blk_frozen BK120.out 4; have hfz40_5 := blk_frozen BK120.out 5; have hfz40_6 := blk_frozen BK120.out 6))
        refine bodyPost_ret (results_ct rfl _ _ gb120 26 #[.int .i64 0, .int .i64 0, .int .i64 0, .int .i64 0, .int .i64 0, .int .i64 0, .string (⟨#[]⟩ : ByteArray)] (0, 0) _ rfl Z102 Tryd.underlying26 rfl (by kernel_rfl)) rfl ?_
        exact ⟨by first | rfl | (simp [errW_none, errW_some] <;> rfl) | (simp [*, errW_none, errW_some] <;> rfl), by repeat (first | (with_reducible first | exact HB.out | apply below_alloc | apply pw_below_drewN | apply below_drew1 | refine below_set ?_ GE120.out | refine below_set ?_ GE132.out) | exact HB.out)⟩
     ·rw [if_neg c23] at H
      exact absurd H (by simp)
    ·rw [if_neg c22] at H
     exact absurd H (by simp)

/-! ### impl_lineByte: function 31 -/
def impl_lineByte.f (a0 : Int) : Option (Bool) := if a0 ≥ 97 then (if a0 ≤ 122 then (some true) else (if a0 ≥ 48 then (if a0 ≤ 57 then (some true) else (some (a0 == 32))) else (some (a0 == 32)))) else (if a0 ≥ 48 then (if a0 ≤ 57 then (some true) else (some (a0 == 32))) else (some (a0 == 32)))
set_option maxHeartbeats 8000000 in
set_option maxRecDepth 100000 in
theorem impl_lineByte.calls (a0 : Int) (r : Bool) (w : World) (h : impl_lineByte.f a0 = some r) :
  Calls Tryd.prog 31 #[.int .u8 a0] w fun e w' => e = .returned (.bool r) ∧ Drawn0 w w' := by
 have H : (if a0 ≥ 97 then (if a0 ≤ 122 then (some true) else (if a0 ≥ 48 then (if a0 ≤ 57 then (some true) else (some (a0 == 32))) else (some (a0 == 32)))) else (if a0 ≥ 48 then (if a0 ≤ 57 then (some true) else (some (a0 == 32))) else (some (a0 == 32)))) = some r := h
 clear h
 by_cases c2 : a0 ≥ 97
 ·rw [if_pos c2] at H
  have c2b0 : decide (97 ≤ a0) = true := decide_eq_true c2
  clear c2
  by_cases c3 : a0 ≤ 122
  ·rw [if_pos c3] at H
   have c3b0 : decide (a0 ≤ 122) = true := decide_eq_true c3
   clear c3
   obtain rfl := Option.some.inj H
   go_enter Tryd.func31, Tryd.ntmps31
   go_wp2
   go_ret
   exact ⟨by first | rfl | (simp; done) | (simp [*]; done), by repeat (first | exact Drawn0.refl _ | apply Drawn0.step)⟩
  ·rw [if_neg c3] at H
   have c3b0 : decide (a0 ≤ 122) = false := decide_eq_false c3
   clear c3
   by_cases c4 : a0 ≥ 48
   ·rw [if_pos c4] at H
    have c4b0 : decide (48 ≤ a0) = true := decide_eq_true c4
    clear c4
    by_cases c5 : a0 ≤ 57
    ·rw [if_pos c5] at H
     have c5b0 : decide (a0 ≤ 57) = true := decide_eq_true c5
     clear c5
     obtain rfl := Option.some.inj H
     go_enter Tryd.func31, Tryd.ntmps31
     go_wp2
     go_ret
     exact ⟨by first | rfl | (simp; done) | (simp [*]; done), by repeat (first | exact Drawn0.refl _ | apply Drawn0.step)⟩
    ·rw [if_neg c5] at H
     have c5b0 : decide (a0 ≤ 57) = false := decide_eq_false c5
     clear c5
     obtain rfl := Option.some.inj H
     go_enter Tryd.func31, Tryd.ntmps31
     go_wp2
     go_ret
     exact ⟨by first | rfl | (simp; done) | (simp [*]; done), by repeat (first | exact Drawn0.refl _ | apply Drawn0.step)⟩
   ·rw [if_neg c4] at H
    have c4b0 : decide (48 ≤ a0) = false := decide_eq_false c4
    clear c4
    obtain rfl := Option.some.inj H
    go_enter Tryd.func31, Tryd.ntmps31
    go_wp2
    go_ret
    exact ⟨by first | rfl | (simp; done) | (simp [*]; done), by repeat (first | exact Drawn0.refl _ | apply Drawn0.step)⟩
 ·rw [if_neg c2] at H
  have c2b0 : decide (97 ≤ a0) = false := decide_eq_false c2
  clear c2
  by_cases c6 : a0 ≥ 48
  ·rw [if_pos c6] at H
   have c6b0 : decide (48 ≤ a0) = true := decide_eq_true c6
   clear c6
   by_cases c7 : a0 ≤ 57
   ·rw [if_pos c7] at H
    have c7b0 : decide (a0 ≤ 57) = true := decide_eq_true c7
    clear c7
    obtain rfl := Option.some.inj H
    go_enter Tryd.func31, Tryd.ntmps31
    go_wp2
    go_ret
    exact ⟨by first | rfl | (simp; done) | (simp [*]; done), by repeat (first | exact Drawn0.refl _ | apply Drawn0.step)⟩
   ·rw [if_neg c7] at H
    have c7b0 : decide (a0 ≤ 57) = false := decide_eq_false c7
    clear c7
    obtain rfl := Option.some.inj H
    go_enter Tryd.func31, Tryd.ntmps31
    go_wp2
    go_ret
    exact ⟨by first | rfl | (simp; done) | (simp [*]; done), by repeat (first | exact Drawn0.refl _ | apply Drawn0.step)⟩
  ·rw [if_neg c6] at H
   have c6b0 : decide (48 ≤ a0) = false := decide_eq_false c6
   clear c6
   obtain rfl := Option.some.inj H
   go_enter Tryd.func31, Tryd.ntmps31
   go_wp2
   go_ret
   exact ⟨by first | rfl | (simp; done) | (simp [*]; done), by repeat (first | exact Drawn0.refl _ | apply Drawn0.step)⟩

/-! ### impl_within: function 33 -/
def impl_within.f (a0 : Int) (a1 : Int) (a2 : Int) : Option (Bool) := if a0 ≥ a1 then (some (decide (a0 ≤ a2))) else (some false)
set_option maxHeartbeats 8000000 in
set_option maxRecDepth 100000 in
theorem impl_within.calls (a0 : Int) (a1 : Int) (a2 : Int) (r : Bool) (w : World) (h : impl_within.f a0 a1 a2 = some r) :
  Calls Tryd.prog 33 #[.int .i64 a0, .int .i64 a1, .int .i64 a2] w fun e w' => e = .returned (.bool r) ∧ Drawn0 w w' := by
 have H : (if a0 ≥ a1 then (some (decide (a0 ≤ a2))) else (some false)) = some r := h
 clear h
 by_cases c4 : a0 ≥ a1
 ·rw [if_pos c4] at H
  have c4b0 : decide (a1 ≤ a0) = true := decide_eq_true c4
  clear c4
  obtain rfl := Option.some.inj H
  go_enter Tryd.func33, Tryd.ntmps33
  go_wp2
  go_ret
  exact ⟨by first | rfl | (simp; done) | (simp [*]; done), by repeat (first | exact Drawn0.refl _ | apply Drawn0.step)⟩
 ·rw [if_neg c4] at H
  have c4b0 : decide (a1 ≤ a0) = false := decide_eq_false c4
  clear c4
  obtain rfl := Option.some.inj H
  go_enter Tryd.func33, Tryd.ntmps33
  go_wp2
  go_ret
  exact ⟨by first | rfl | (simp; done) | (simp [*]; done), by repeat (first | exact Drawn0.refl _ | apply Drawn0.step)⟩

/-! ### impl_inside: function 43 -/
def impl_inside.f (a0 : Int) : Option (Bool) := (impl_within.f a0 1 9).bind fun t134 => (some t134)
set_option maxHeartbeats 8000000 in
set_option maxRecDepth 100000 in
theorem impl_inside.calls (a0 : Int) (r : Bool) (w : World) (h : impl_inside.f a0 = some r) :
  Calls Tryd.prog 43 #[.int .i64 a0] w fun e w' => e = .returned (.bool r) ∧ Drawn0 w w' := by
 have H : ((impl_within.f a0 1 9).bind fun t134 => (some t134)) = some r := h
 clear h
 replace H := Option.bind_eq_some_iff.mp H
 obtain ⟨t134, A20, H⟩ := H
 replace H : (some t134) = some r := H
 have A2 := Aside0.mk A20
 clear A20
 obtain rfl := Option.some.inj H
 go_enter Tryd.func43, Tryd.ntmps43
 go_wp2_with (first | ((with_reducible refine gate_callee (f := 33) rfl ?_); refine goesL_ (some 4) rfl rfl Tryd.func33 (by kernel_rfl) rfl #[.int .i64 a0, .int .i64 1, .int .i64 9] rfl Z44 ?_; (with_reducible refine (impl_within.calls a0 1 9 t134 _ A2.out).mono ?_); rintro e w' ⟨rfl, ⟨nd, rfl⟩⟩; refine ⟨_, rfl, ?_⟩))
 go_ret
 exact ⟨by first | rfl | (simp; done) | (simp [*]; done), by repeat (first | exact Drawn0.refl _ | apply Drawn0.step)⟩

/-! ### impl_outside: function 44 -/
def impl_outside.f (a0 : Int) : Option (Bool) := (impl_within.f a0 100 109).bind fun t135 => (some t135)
set_option maxHeartbeats 8000000 in
set_option maxRecDepth 100000 in
theorem impl_outside.calls (a0 : Int) (r : Bool) (w : World) (h : impl_outside.f a0 = some r) :
  Calls Tryd.prog 44 #[.int .i64 a0] w fun e w' => e = .returned (.bool r) ∧ Drawn0 w w' := by
 have H : ((impl_within.f a0 100 109).bind fun t135 => (some t135)) = some r := h
 clear h
 replace H := Option.bind_eq_some_iff.mp H
 obtain ⟨t135, A20, H⟩ := H
 replace H : (some t135) = some r := H
 have A2 := Aside0.mk A20
 clear A20
 obtain rfl := Option.some.inj H
 go_enter Tryd.func44, Tryd.ntmps44
 go_wp2_with (first | ((with_reducible refine gate_callee (f := 33) rfl ?_); refine goesL_ (some 4) rfl rfl Tryd.func33 (by kernel_rfl) rfl #[.int .i64 a0, .int .i64 100, .int .i64 109] rfl Z44 ?_; (with_reducible refine (impl_within.calls a0 100 109 t135 _ A2.out).mono ?_); rintro e w' ⟨rfl, ⟨nd, rfl⟩⟩; refine ⟨_, rfl, ?_⟩))
 go_ret
 exact ⟨by first | rfl | (simp; done) | (simp [*]; done), by repeat (first | exact Drawn0.refl _ | apply Drawn0.step)⟩

/-! ### impl_portOk: function 45 -/
def impl_portOk.f (a0 : Int) : Option (Bool) := (impl_within.f a0 1 999).bind fun t136 => (some t136)
set_option maxHeartbeats 8000000 in
set_option maxRecDepth 100000 in
theorem impl_portOk.calls (a0 : Int) (r : Bool) (w : World) (h : impl_portOk.f a0 = some r) :
  Calls Tryd.prog 45 #[.int .i64 a0] w fun e w' => e = .returned (.bool r) ∧ Drawn0 w w' := by
 have H : ((impl_within.f a0 1 999).bind fun t136 => (some t136)) = some r := h
 clear h
 replace H := Option.bind_eq_some_iff.mp H
 obtain ⟨t136, A20, H⟩ := H
 replace H : (some t136) = some r := H
 have A2 := Aside0.mk A20
 clear A20
 obtain rfl := Option.some.inj H
 go_enter Tryd.func45, Tryd.ntmps45
 go_wp2_with (first | ((with_reducible refine gate_callee (f := 33) rfl ?_); refine goesL_ (some 4) rfl rfl Tryd.func33 (by kernel_rfl) rfl #[.int .i64 a0, .int .i64 1, .int .i64 999] rfl Z44 ?_; (with_reducible refine (impl_within.calls a0 1 999 t136 _ A2.out).mono ?_); rintro e w' ⟨rfl, ⟨nd, rfl⟩⟩; refine ⟨_, rfl, ?_⟩))
 go_ret
 exact ⟨by first | rfl | (simp; done) | (simp [*]; done), by repeat (first | exact Drawn0.refl _ | apply Drawn0.step)⟩

/-! ### impl_EndOk: function 32 -/
def impl_EndOk.f (a0_0 : Int) (a0_1 : Int) : Option (Bool) := (impl_inside.f a0_0).bind fun t138 => (if t138 = true then ((impl_portOk.f a0_1).bind fun t139 => (some t139)) else ((impl_outside.f a0_0).bind fun t140 => (if t140 = true then ((impl_portOk.f a0_1).bind fun t141 => (some t141)) else (if a0_0 = 50 then ((impl_portOk.f a0_1).bind fun t142 => (some t142)) else (some false)))))
set_option maxHeartbeats 8000000 in
set_option maxRecDepth 100000 in
theorem impl_EndOk.calls (a0_0 : Int) (a0_1 : Int) (r : Bool) (w : World) (h : impl_EndOk.f a0_0 a0_1 = some r) :
  Calls Tryd.prog 32 #[.agg #[.int .i64 a0_0, .int .i64 a0_1]] w fun e w' => e = .returned (.bool r) ∧ Below w.heap.size w w' := by
 have hu24 := Tryd.underlying24
 have HB := Aside0.mk (Below.refl w.heap.size w)
 have H : ((impl_inside.f a0_0).bind fun t138 => (if t138 = true then ((impl_portOk.f a0_1).bind fun t139 => (some t139)) else ((impl_outside.f a0_0).bind fun t140 => (if t140 = true then ((impl_portOk.f a0_1).bind fun t141 => (some t141)) else (if a0_0 = 50 then ((impl_portOk.f a0_1).bind fun t142 => (some t142)) else (some false)))))) = some r := h
 clear h
 replace H := Option.bind_eq_some_iff.mp H
 obtain ⟨t138, A20, H⟩ := H
 replace H : (if t138 = true then ((impl_portOk.f a0_1).bind fun t139 => (some t139)) else ((impl_outside.f a0_0).bind fun t140 => (if t140 = true then ((impl_portOk.f a0_1).bind fun t141 => (some t141)) else (if a0_0 = 50 then ((impl_portOk.f a0_1).bind fun t142 => (some t142)) else (some false))))) = some r := H
 have A2 := Aside0.mk A20
 clear A20
 by_cases c3 : t138 = true
 ·subst c3
  have H1 : ((impl_portOk.f a0_1).bind fun t139 => (some t139)) = some r := by rw [if_pos rfl] at H; exact H
  clear H
  have H := H1
  clear H1
  replace H := Option.bind_eq_some_iff.mp H
  obtain ⟨t139, A40, H⟩ := H
  replace H : (some t139) = some r := H
  have A4 := Aside0.mk A40
  clear A40
  obtain rfl := Option.some.inj H
  go_enter Tryd.func32, Tryd.ntmps32
  go_wp2_with (first | ((with_reducible refine gate_dst (N := 1) rfl ?_); refine box_event ?hg (N := 1) ?hd (cs := #[.int .i64 a0_0, .int .i64 a0_1]) (t := 24) ?hr ?_; (case hd => rfl); (case hg => rfl); (case hr => first | (go_simp; done) | (go_simp; rfl)); intro gb137 hg w5 hbox hb; have n0_ := Aside0.mk (below_step Z42 hb); have n1_ := Aside0.mk (hbox); have n2_ := Aside0.mk ((Z104 : w.heap.size ≤ gb137)); have n3_ := Aside0.mk ((Z104 : w.heap.size ≤ gb137)); clear HB; have HB := n0_; have BK137 := n1_; have GW137 := n2_; have GE137 := n3_; clear n0_ n1_ n2_ n3_; clear hb hbox hg; have hcz6_0 : w5.cell? ⟨gb137, 0, none⟩ = some (.int .i64 a0_0) := (blk_cell BK137.out 0).trans rfl; have hcz6_1 : w5.cell? ⟨gb137, 1, none⟩ = some (.int .i64 a0_1) := (blk_cell BK137.out 1).trans rfl; have hfz6_0 := blk_frozen BK137.out 0; have hfz6_1 := blk_frozen BK137.out 1) | ((with_reducible refine gate_callee (f := 43) rfl ?_); refine goesL_ (some 5) rfl rfl Tryd.func43 (by kernel_rfl) rfl #[.int .i64 a0_0] rfl Z44 ?_; (with_reducible refine (impl_inside.calls a0_0 true _ A2.out).mono ?_); rintro e w' ⟨rfl, ⟨nd, rfl⟩⟩; refine ⟨_, rfl, ?_⟩) | (go_at_call 45; (with_reducible refine (impl_portOk.calls a0_1 t139 _ A4.out).mono ?_); rintro e w' ⟨rfl, ⟨nd, rfl⟩⟩))
  go_ret
  exact ⟨by first | rfl | (simp [errW_none, errW_some] <;> rfl) | (simp [*, errW_none, errW_some] <;> rfl), by repeat (first | (with_reducible first | exact HB.out | apply below_alloc | apply pw_below_drewN | apply below_drew1 | refine below_set ?_ GE137.out) | exact HB.out)⟩
 ·replace c3 := Bool.eq_false_iff.mpr c3
  subst c3
  have H1 : ((impl_outside.f a0_0).bind fun t140 => (if t140 = true then ((impl_portOk.f a0_1).bind fun t141 => (some t141)) else (if a0_0 = 50 then ((impl_portOk.f a0_1).bind fun t142 => (some t142)) else (some false)))) = some r := by rw [if_neg (show ¬ (false = true) by decide)] at H; exact H
  clear H
  have H := H1
  clear H1
  replace H := Option.bind_eq_some_iff.mp H
  obtain ⟨t140, A70, H⟩ := H
  replace H : (if t140 = true then ((impl_portOk.f a0_1).bind fun t141 => (some t141)) else (if a0_0 = 50 then ((impl_portOk.f a0_1).bind fun t142 => (some t142)) else (some false))) = some r := H
  have A7 := Aside0.mk A70
  clear A70
  by_cases c8 : t140 = true
  ·subst c8
   have H1 : ((impl_portOk.f a0_1).bind fun t141 => (some t141)) = some r := by rw [if_pos rfl] at H; exact H
   clear H
   have H := H1
   clear H1
   replace H := Option.bind_eq_some_iff.mp H
   obtain ⟨t141, A90, H⟩ := H
   replace H : (some t141) = some r := H
   have A9 := Aside0.mk A90
   clear A90
   obtain rfl := Option.some.inj H
   go_enter Tryd.func32, Tryd.ntmps32
   go_wp2_with (first | ((with_reducible refine gate_dst (N := 1) rfl ?_); refine box_event ?hg (N := 1) ?hd (cs := #[.int .i64 a0_0, .int .i64 a0_1]) (t := 24) ?hr ?_; (case hd => rfl); (case hg => rfl); (case hr => first | (go_simp; done) | (go_simp; rfl)); intro gb137 hg w10 hbox hb; have n0_ := Aside0.mk (below_step Z42 hb); have n1_ := Aside0.mk (hbox); have n2_ := Aside0.mk ((Z104 : w.heap.size ≤ gb137)); have n3_ := Aside0.mk ((Z104 : w.heap.size ≤ gb137)); clear HB; have HB := n0_; have BK137 := n1_; have GW137 := n2_; have GE137 := n3_; clear n0_ n1_ n2_ n3_; clear hb hbox hg; have hcz11_0 : w10.cell? ⟨gb137, 0, none⟩ = some (.int .i64 a0_0) := (blk_cell BK137.out 0).trans rfl; have hcz11_1 : w10.cell? ⟨gb137, 1, none⟩ = some (.int .i64 a0_1) := (blk_cell BK137.out 1).trans rfl; have hfz11_0 := blk_frozen BK137.out 0; have hfz11_1 := blk_frozen BK137.out 1) | ((with_reducible refine gate_callee (f := 43) rfl ?_); refine goesL_ (some 5) rfl rfl Tryd.func43 (by kernel_rfl) rfl #[.int .i64 a0_0] rfl Z44 ?_; (with_reducible refine (impl_inside.calls a0_0 false _ A2.out).mono ?_); rintro e w' ⟨rfl, ⟨nd, rfl⟩⟩; refine ⟨_, rfl, ?_⟩) | (go_at_call 44; (with_reducible refine (impl_outside.calls a0_0 true _ A7.out).mono ?_); rintro e w' ⟨rfl, ⟨nd, rfl⟩⟩) | (go_at_call 45; (with_reducible refine (impl_portOk.calls a0_1 t141 _ A9.out).mono ?_); rintro e w' ⟨rfl, ⟨nd, rfl⟩⟩))
   go_ret
   exact ⟨by first | rfl | (simp [errW_none, errW_some] <;> rfl) | (simp [*, errW_none, errW_some] <;> rfl), by repeat (first | (with_reducible first | exact HB.out | apply below_alloc | apply pw_below_drewN | apply below_drew1 | refine below_set ?_ GE137.out) | exact HB.out)⟩
  ·replace c8 := Bool.eq_false_iff.mpr c8
   subst c8
   have H1 : (if a0_0 = 50 then ((impl_portOk.f a0_1).bind fun t142 => (some t142)) else (some false)) = some r := by rw [if_neg (show ¬ (false = true) by decide)] at H; exact H
   clear H
   have H := H1
   clear H1
   by_cases c12 : a0_0 = 50
   ·rw [if_pos c12] at H
    have c12b0 : (a0_0 == 50) = true := beq_iff_eq.mpr c12
    have c12b1 : (a0_0 != 50) = false := bne_eq_false_iff_eq.mpr c12
    clear c12
    replace H := Option.bind_eq_some_iff.mp H
    obtain ⟨t142, A130, H⟩ := H
    replace H : (some t142) = some r := H
    have A13 := Aside0.mk A130
    clear A130
    obtain rfl := Option.some.inj H
    go_enter Tryd.func32, Tryd.ntmps32
    go_wp2_with (first | ((with_reducible refine gate_dst (N := 1) rfl ?_); refine box_event ?hg (N := 1) ?hd (cs := #[.int .i64 a0_0, .int .i64 a0_1]) (t := 24) ?hr ?_; (case hd => rfl); (case hg => rfl); (case hr => first | (go_simp; done) | (go_simp; rfl)); intro gb137 hg w14 hbox hb; have n0_ := Aside0.mk (below_step Z42 hb); have n1_ := Aside0.mk (hbox); have n2_ := Aside0.mk ((Z104 : w.heap.size ≤ gb137)); have n3_ := Aside0.mk ((Z104 : w.heap.size ≤ gb137)); clear HB; have HB := n0_; have BK137 := n1_; have GW137 := n2_; have GE137 := n3_; clear n0_ n1_ n2_ n3_; clear hb hbox hg; have hcz15_0 : w14.cell? ⟨gb137, 0, none⟩ = some (.int .i64 a0_0) := (blk_cell BK137.out 0).trans rfl; have hcz15_1 : w14.cell? ⟨gb137, 1, none⟩ = some (.int .i64 a0_1) := (blk_cell BK137.out 1).trans rfl; have hfz15_0 := blk_frozen BK137.out 0; have hfz15_1 := blk_frozen BK137.out 1) | ((with_reducible refine gate_callee (f := 43) rfl ?_); refine goesL_ (some 5) rfl rfl Tryd.func43 (by kernel_rfl) rfl #[.int .i64 a0_0] rfl Z44 ?_; (with_reducible refine (impl_inside.calls a0_0 false _ A2.out).mono ?_); rintro e w' ⟨rfl, ⟨nd, rfl⟩⟩; refine ⟨_, rfl, ?_⟩) | (go_at_call 44; (with_reducible refine (impl_outside.calls a0_0 false _ A7.out).mono ?_); rintro e w' ⟨rfl, ⟨nd, rfl⟩⟩) | (go_at_call 45; (with_reducible refine (impl_portOk.calls a0_1 t142 _ A13.out).mono ?_); rintro e w' ⟨rfl, ⟨nd, rfl⟩⟩))
    go_ret
    exact ⟨by first | rfl | (simp [errW_none, errW_some] <;> rfl) | (simp [*, errW_none, errW_some] <;> rfl), by repeat (first | (with_reducible first | exact HB.out | apply below_alloc | apply pw_below_drewN | apply below_drew1 | refine below_set ?_ GE137.out) | exact HB.out)⟩
   ·rw [if_neg c12] at H
    have c12b0 : (a0_0 == 50) = false := beq_eq_false_iff_ne.mpr c12
    have c12b1 : (a0_0 != 50) = true := bne_iff_ne.mpr c12
    obtain rfl := Option.some.inj H
    go_enter Tryd.func32, Tryd.ntmps32
    go_wp2_with (first | ((with_reducible refine gate_dst (N := 1) rfl ?_); refine box_event ?hg (N := 1) ?hd (cs := #[.int .i64 a0_0, .int .i64 a0_1]) (t := 24) ?hr ?_; (case hd => rfl); (case hg => rfl); (case hr => first | (go_simp; done) | (go_simp; rfl)); intro gb137 hg w16 hbox hb; have n0_ := Aside0.mk (below_step Z42 hb); have n1_ := Aside0.mk (hbox); have n2_ := Aside0.mk ((Z104 : w.heap.size ≤ gb137)); have n3_ := Aside0.mk ((Z104 : w.heap.size ≤ gb137)); clear HB; have HB := n0_; have BK137 := n1_; have GW137 := n2_; have GE137 := n3_; clear n0_ n1_ n2_ n3_; clear hb hbox hg; have hcz17_0 : w16.cell? ⟨gb137, 0, none⟩ = some (.int .i64 a0_0) := (blk_cell BK137.out 0).trans rfl; have hcz17_1 : w16.cell? ⟨gb137, 1, none⟩ = some (.int .i64 a0_1) := (blk_cell BK137.out 1).trans rfl; have hfz17_0 := blk_frozen BK137.out 0; have hfz17_1 := blk_frozen BK137.out 1) | ((with_reducible refine gate_callee (f := 43) rfl ?_); refine goesL_ (some 5) rfl rfl Tryd.func43 (by kernel_rfl) rfl #[.int .i64 a0_0] rfl Z44 ?_; (with_reducible refine (impl_inside.calls a0_0 false _ A2.out).mono ?_); rintro e w' ⟨rfl, ⟨nd, rfl⟩⟩; refine ⟨_, rfl, ?_⟩) | (go_at_call 44; (with_reducible refine (impl_outside.calls a0_0 false _ A7.out).mono ?_); rintro e w' ⟨rfl, ⟨nd, rfl⟩⟩))
    go_ret
    exact ⟨by first | rfl | (simp [errW_none, errW_some] <;> rfl) | (simp [*, errW_none, errW_some] <;> rfl), by repeat (first | (with_reducible first | exact HB.out | apply below_alloc | apply pw_below_drewN | apply below_drew1 | refine below_set ?_ GE137.out) | exact HB.out)⟩

/-! ### impl_SegOk: function 16 -/
def impl_SegOk.f (k : Nat) (a0_0 : Int) (a0_1 : Int) (a0_2 : Int) (a0_3 : Int) (a0_4 : Int) (a0_5 : Int) (a0_6 : ByteArray) : Option (Bool) := if 0 ≤ (a0_6.size : Int) then (if ((a0_6.size : Int) : Int).toNat ≤ 281474976710656 then ((spec_SegOk.f k a0_0 a0_1 a0_2 a0_3 a0_4 a0_5 a0_6).bind fun t147 => (some t147)) else (none)) else (none)
theorem impl_SegOk.mono : ∀ a0 a1 a2 a3 a4 a5 a6 k, LeO (impl_SegOk.f k a0 a1 a2 a3 a4 a5 a6) (impl_SegOk.f (k + 1) a0 a1 a2 a3 a4 a5 a6) := by
 intro a0 a1 a2 a3 a4 a5 a6 k
 unfold impl_SegOk.f
 repeat' first
   | (with_reducible exact spec_SegOk.mono _ _ _ _ _ _ _ _)
   | (with_reducible exact LeO.refl _)
   | (with_reducible exact LeO.none _)
   | (with_reducible refine LeO.ite ?_ ?_)
   | (with_reducible refine LeO.bind ?_ (fun _ => ?_))
   | exact spec_SegOk.mono _ _ _ _ _ _ _ _
   | exact LeO.none _
   | refine LeO.ite ?_ ?_
   | refine LeO.bind ?_ (fun _ => ?_)
-- BY HAND
/-- What may stand in a line. -/
def lineB (c : Int) : Bool := decide ((97 ≤ c ∧ c ≤ 122) ∨ (48 ≤ c ∧ c ≤ 57) ∨ c = 32)
theorem lb_eq (c : Int) : impl_lineByte.f c = some (lineB c) := by
 unfold impl_lineByte.f lineB
 by_cases h1 : c ≥ 97 <;> by_cases h2 : c ≤ 122 <;> by_cases h3 : c ≥ 48 <;> by_cases h4 : c ≤ 57 <;> simp only [h1, h2, h3, h4, if_true, if_false, Option.some.injEq] <;> (rw [Bool.eq_iff_iff]; simp; try omega)
theorem bt_data (s : ByteArray) (j : Nat) (h : j < s.size) : ((s.data.toList.getD j 0).toNat : Int) = bt s (j : Int) := by
 unfold bt
 rw [dif_pos (by simpa using h)]
 simp [List.getD_eq_getElem?_getD, List.getElem?_eq_getElem (show j < s.data.toList.length by simpa using h)]
 rfl
theorem lin_below (w : World) (e : TypeId) (s : ByteArray) : Below w.heap.size w (Lib.bytesWorld w e s) :=
 ⟨rfl, rfl, rfl, by rw [Lib.bytesWorld_size]; omega, fun j hj => Lib.bytesWorld_at_old w e s j hj⟩
theorem cell_blk {w : World} {g : Nat} {cs : Array Value} {t : TypeId} {fr : Nat × Nat} (h : w.heap[g]? = some (.cells cs t fr)) (i : Nat) : w.cell? ⟨g, i, none⟩ = cs[i]? := by simp [World.cell?, h]
theorem l2_eq (c : Int) : spec_l2Byte.f c = some (lineB c) := by
 unfold spec_l2Byte.f lineB
 by_cases h1 : c ≥ 97 <;> by_cases h2 : c ≤ 122 <;> by_cases h3 : c ≥ 48 <;> by_cases h4 : c ≤ 57 <;> simp only [h1, h2, h3, h4, if_true, if_false, Option.some.injEq] <;> (rw [Bool.eq_iff_iff]; simp; try omega)
def endOkP (a p : Int) : Prop := ((1 ≤ a ∧ a ≤ 9) ∨ (100 ≤ a ∧ a ≤ 109) ∨ a = 50) ∧ 1 ≤ p ∧ p ≤ 999
instance (a p : Int) : Decidable (endOkP a p) := by unfold endOkP; infer_instance
theorem spec_end (a p : Int) : spec_EndOk.f a p = some (decide (endOkP a p)) := by
 simp only [spec_EndOk.f, spec_EndInside.f, spec_EndOutside.f, spec_l1In.f, endOkP]
 by_cases h1 : a ≥ 1 <;> by_cases h2 : a ≤ 9 <;> by_cases h3 : p ≥ 1 <;> by_cases h4 : p ≤ 999 <;> by_cases h5 : a ≥ 100 <;> by_cases h6 : a ≤ 109 <;> by_cases h7 : a = 50 <;> simp [h1, h2, h3, h4, h5, h6, h7] <;> omega
theorem impl_end (a p : Int) : impl_EndOk.f a p = some (decide (endOkP a p)) := by
 simp only [impl_EndOk.f, impl_inside.f, impl_outside.f, impl_portOk.f, impl_within.f, endOkP]
 by_cases h1 : a ≥ 1 <;> by_cases h2 : a ≤ 9 <;> by_cases h3 : p ≥ 1 <;> by_cases h4 : p ≤ 999 <;> by_cases h5 : a ≥ 100 <;> by_cases h6 : a ≤ 109 <;> by_cases h7 : a = 50 <;> simp [h1, h2, h3, h4, h5, h6, h7] <;> omega
/-- Whether a byte may stand in a segment. -/
def segB (c : Int) : Bool := lineB c || decide (c = 59)
def dataP (s : ByteArray) : Prop := ∀ j, j < s.size → segB (bt s (j : Int)) = true
instance (s : ByteArray) : Decidable (dataP s) := by unfold dataP; infer_instance
def segOkB (a p b q x y : Int) (s : ByteArray) : Bool := decide (endOkP a p ∧ endOkP b q ∧ (0 ≤ x ∧ x ≤ 240) ∧ (0 ≤ y ∧ y ≤ 240) ∧ s.size ≤ 12 ∧ dataP s)
theorem spec_seg_l (a p b q x y : Int) (s : ByteArray) (hs : s.size ≤ 12) : ∀ (k i : Nat) (r : Bool), spec_SegOk.l0 k (i : Int) a p b q x y s = some r → (∀ j, j < i → segB (bt s (j : Int)) = true) → r = decide (dataP s)
 | 0, _, _, h, _ => by simp [spec_SegOk.l0] at h
 | k + 1, i, r, h, hj => by
  have next : segB (bt s (i : Int)) = true → spec_SegOk.l0 k ((i + 1 : Nat) : Int) a p b q x y s = some r → r = decide (dataP s) := fun hb h => by
   refine spec_seg_l a p b q x y s hs k (i + 1) r h fun j hj' => ?_
   by_cases e : j = i
   ·subst e; exact hb
   ·exact hj j (by omega)
  simp only [spec_SegOk.l0] at h
  by_cases c : (i : Int) < (s.size : Int)
  ·rw [if_pos c, if_pos (by omega), l2_eq] at h
   simp only [Option.bind_some] at h
   rw [Lib.wrap_id (by omega) (by omega)] at h
   by_cases hb : lineB (bt s (i : Int)) = true
   ·rw [if_pos hb] at h
    exact next (by simp [segB, hb]) (by simpa using h)
   ·rw [if_neg hb] at h
    by_cases he : bt s (i : Int) = 59
    ·rw [if_pos he] at h
     exact next (by simp [segB, he]) (by simpa using h)
    ·rw [if_neg he] at h
     obtain rfl := Option.some.inj h
     exact (decide_eq_false (fun hx => by
      have := hx i (by omega)
      simp [segB, hb, he] at this)).symm
  ·rw [if_neg c] at h
   obtain rfl := Option.some.inj h
   exact (decide_eq_true (fun j hj' => hj j (by omega))).symm
theorem spec_seg (a p b q x y : Int) (s : ByteArray) (k : Nat) (r : Bool) (h : spec_SegOk.f k a p b q x y s = some r) : r = segOkB a p b q x y s := by
 have j0 : ∀ t, spec_SegOk.j0 k t a p b q x y s = some r → ¬ t = true → s.size ≤ 12 → r = decide (dataP s) := fun t ht hn hs => by
  cases k with
  | zero => simp [spec_SegOk.j0] at ht
  | succ k =>
   simp only [spec_SegOk.j0] at ht
   rw [if_neg hn] at ht
   exact spec_seg_l a p b q x y s hs k 0 r (by simpa using ht) (fun j hj => by omega)
 have jt : ∀ t, spec_SegOk.j0 k t a p b q x y s = some r → t = true → r = false := fun t ht hn => by
  cases k with
  | zero => simp [spec_SegOk.j0] at ht
  | succ k =>
   simp only [spec_SegOk.j0] at ht
   rw [if_pos hn] at ht
   exact (Option.some.inj ht).symm
 have hx : ∀ z, spec_l1In.f z 0 240 = some (decide (0 ≤ z ∧ z ≤ 240)) := fun z => by
  unfold spec_l1In.f
  by_cases h : z ≥ 0 <;> simp [h]
 unfold spec_SegOk.f at h
 simp only [spec_end, hx, Option.bind_some, decide_eq_true_eq] at h
 unfold segOkB
 by_cases h1 : endOkP a p
 ·rw [if_pos h1] at h
  by_cases h2 : endOkP b q
  ·rw [if_pos h2] at h
   by_cases h3 : 0 ≤ x ∧ x ≤ 240
   ·rw [if_pos h3] at h
    by_cases h4 : 0 ≤ y ∧ y ≤ 240
    ·rw [if_pos h4] at h
     by_cases h5 : (s.size : Int) > 12
     ·rw [jt _ h (by simpa using h5)]
      exact (decide_eq_false (fun hx => by omega)).symm
     ·rw [j0 _ h (by simpa using h5) (by omega)]
      exact decide_eq_decide.2 ⟨fun hd => ⟨h1, h2, h3, h4, by omega, hd⟩, fun hd => hd.2.2.2.2.2⟩
    ·rw [if_neg h4] at h
     rw [jt _ h rfl]
     exact (decide_eq_false (fun hx => h4 hx.2.2.2.1)).symm
   ·rw [if_neg h3] at h
    rw [jt _ h rfl]
    exact (decide_eq_false (fun hx => h3 hx.2.2.1)).symm
  ·rw [if_neg h2] at h
   rw [jt _ h rfl]
   exact (decide_eq_false (fun hx => h2 hx.2.1)).symm
 ·rw [if_neg h1] at h
  rw [jt _ h rfl]
  exact (decide_eq_false (fun hx => h1 hx.1)).symm
theorem spec_seg_t (a p b q x y : Int) (s : ByteArray) (hs : s.size ≤ 12) : ∀ (d i : Nat), i ≤ s.size → s.size - i = d → ∃ r, spec_SegOk.l0 (d + 1) (i : Int) a p b q x y s = some r
 | 0, i, h1, h2 => ⟨true, by rw [spec_SegOk.l0, if_neg (by omega)]⟩
 | d + 1, i, h1, h2 => by
  obtain ⟨r, hr⟩ := spec_seg_t a p b q x y s hs d (i + 1) (by omega) (by omega)
  rw [spec_SegOk.l0, if_pos (by omega), if_pos (by omega), l2_eq]
  simp only [Option.bind_some]
  rw [Lib.wrap_id (by omega) (by omega)]
  by_cases hb : lineB (bt s (i : Int)) = true
  ·exact ⟨r, by rw [if_pos hb]; simpa using hr⟩
  ·rw [if_neg hb]
   by_cases he : bt s (i : Int) = 59
   ·exact ⟨r, by rw [if_pos he]; simpa using hr⟩
   ·exact ⟨false, by rw [if_neg he]⟩
theorem spec_seg_ev (a p b q x y : Int) (s : ByteArray) : Ev (fun k => spec_SegOk.f k a p b q x y s) (segOkB a p b q x y s) := by
 have j0 : ∀ t, (t = false → s.size ≤ 12) → ∃ r, spec_SegOk.j0 (s.size + 2) t a p b q x y s = some r := fun t ht => by
  cases t with
  | true => exact ⟨false, by rw [spec_SegOk.j0, if_pos rfl]⟩
  | false =>
   obtain ⟨r, hr⟩ := spec_seg_t a p b q x y s (ht rfl) s.size 0 (by omega) (by omega)
   exact ⟨r, by rw [spec_SegOk.j0, if_neg (by decide)]; simpa using hr⟩
 have hx : ∀ z, spec_l1In.f z 0 240 = some (decide (0 ≤ z ∧ z ≤ 240)) := fun z => by
  unfold spec_l1In.f
  by_cases h : z ≥ 0 <;> simp [h]
 obtain ⟨r, h⟩ : ∃ r, spec_SegOk.f (s.size + 2) a p b q x y s = some r := by
  unfold spec_SegOk.f
  simp only [spec_end, hx, Option.bind_some, decide_eq_true_eq]
  by_cases h1 : endOkP a p
  ·rw [if_pos h1]
   by_cases h2 : endOkP b q
   ·rw [if_pos h2]
    by_cases h3 : 0 ≤ x ∧ x ≤ 240
    ·rw [if_pos h3]
     by_cases h4 : 0 ≤ y ∧ y ≤ 240
     ·rw [if_pos h4]
      exact j0 _ (fun h => by have := of_decide_eq_false h; omega)
     ·rw [if_neg h4]; exact j0 _ (fun h => by cases h)
    ·rw [if_neg h3]; exact j0 _ (fun h => by cases h)
   ·rw [if_neg h2]; exact j0 _ (fun h => by cases h)
  ·rw [if_neg h1]; exact j0 _ (fun h => by cases h)
 have e := spec_seg a p b q x y s _ r h
 subst e
 exact Ev.of (spec_SegOk.mono a p b q x y s) h
theorem impl_seg_ev (a p b q x y : Int) (s : ByteArray) (hs : s.size ≤ 281474976710656) : Ev (fun k => impl_SegOk.f k a p b q x y s) (segOkB a p b q x y s) := by
 obtain ⟨K, h⟩ := spec_seg_ev a p b q x y s
 exact ⟨K, fun k hk => by show impl_SegOk.f k a p b q x y s = _; unfold impl_SegOk.f; rw [if_pos (by omega), if_pos (by omega), show spec_SegOk.f k a p b q x y s = _ from h k hk]; rfl⟩
theorem seg_size (a p b q x y : Int) (s : ByteArray) (k : Nat) (h : impl_SegOk.f k a p b q x y s = some true) : s.size ≤ 12 := by
 unfold impl_SegOk.f at h
 rw [if_pos (by omega)] at h
 by_cases hs : ((s.size : Int) : Int).toNat ≤ 281474976710656
 ·rw [if_pos hs] at h
  obtain ⟨t, h1, h2⟩ := Option.bind_eq_some_iff.mp h
  obtain rfl := Option.some.inj h2
  have := spec_seg a p b q x y s k true h1
  unfold segOkB at this
  exact (of_decide_eq_true this.symm).2.2.2.2.1
 ·rw [if_neg hs] at h; cases h
def endB (a p : Int) : Bool := decide (endOkP a p)
theorem end_any (a p : Int) (w : World) : Calls Tryd.prog 32 #[.agg #[.int .i64 a, .int .i64 p]] w fun e w' => e = .returned (.bool (endB a p)) ∧ Below w.heap.size w w' :=
 impl_EndOk.calls a p (endB a p) w (impl_end a p)
def inB (x lo hi : Int) : Bool := decide (lo ≤ x ∧ x ≤ hi)
theorem in_any (x lo hi : Int) (w : World) : Calls Tryd.prog 33 #[.int .i64 x, .int .i64 lo, .int .i64 hi] w fun e w' => e = .returned (.bool (inB x lo hi)) ∧ Drawn0 w w' :=
 impl_within.calls x lo hi (inB x lo hi) w (by unfold impl_within.f inB; by_cases h : x ≥ lo <;> simp [h])
theorem line_any (c : Int) (w : World) : Calls Tryd.prog 31 #[.int .u8 c] w fun e w' => e = .returned (.bool (lineB c)) ∧ Drawn0 w w' :=
 impl_lineByte.calls c (lineB c) w (lb_eq c)
/-- The text of a byte as a sign is that of ';' just if it is it. -/
theorem enc_59 (n : Int) (h0 : 0 ≤ n) (h1 : n ≤ 255) : (Utf8.encode n = ⟨#[59]⟩) ↔ n = 59 := by
 constructor
 ·intro h
  by_cases h128 : 128 ≤ n
  ·have := (encode_facts n (by simp [Utf8.valid]; omega) h128).1
   rw [h] at this
   exact absurd this (by decide)
  ·unfold Utf8.encode at h
   rw [if_pos (by simp [Utf8.valid]; omega : Utf8.valid n = true)] at h
   simp only at h
   rw [if_pos (by omega)] at h
   have := congrArg (fun s => s.data.toList) h
   simp at this
   have := congrArg UInt8.toNat this
   simp at this
   omega
 ·rintro rfl; rfl
theorem seg_world (a p b q x y : Int) (s : ByteArray) (w : World) : ∃ W1, Aside0 (W1 = Lib.bytesWorld (w.alloc (Obj.cells #[Value.int IntKind.i64 a, Value.int IntKind.i64 p, Value.int IntKind.i64 b, Value.int IntKind.i64 q, Value.int IntKind.i64 x, Value.int IntKind.i64 y, Value.string s] 26)) 5 s) ∧
  (W1.cell? ⟨w.heap.size, 0, none⟩ = some (.int .i64 a) ∧ W1.cell? ⟨w.heap.size, 1, none⟩ = some (.int .i64 p) ∧ W1.cell? ⟨w.heap.size, 2, none⟩ = some (.int .i64 b) ∧ W1.cell? ⟨w.heap.size, 3, none⟩ = some (.int .i64 q) ∧
   W1.cell? ⟨w.heap.size, 4, none⟩ = some (.int .i64 x) ∧ W1.cell? ⟨w.heap.size, 5, none⟩ = some (.int .i64 y) ∧ W1.cell? ⟨w.heap.size, 6, none⟩ = some (.string s)) ∧
  Aside0 (∀ j : Nat, j < s.size → W1.cell? ⟨w.heap.size + 1, j, none⟩ = some (.int .u8 (bt s (j : Int)))) ∧ Aside0 (Below w.heap.size w W1) ∧ w.heap.size < W1.heap.size := by
 obtain ⟨W0, hW0⟩ : ∃ W0, W0 = w.alloc (Obj.cells #[Value.int IntKind.i64 a, Value.int IntKind.i64 p, Value.int IntKind.i64 b, Value.int IntKind.i64 q, Value.int IntKind.i64 x, Value.int IntKind.i64 y, Value.string s] 26) := ⟨_, rfl⟩
 have hsz : W0.heap.size = w.heap.size + 1 := by rw [hW0]; simp
 have old : ∀ j v, W0.cell? ⟨w.heap.size, j, none⟩ = some v → (Lib.bytesWorld W0 5 s).cell? ⟨w.heap.size, j, none⟩ = some v := fun j v h => by
  rw [Lib.bytesWorld_old W0 5 s ⟨w.heap.size, j, none⟩ (by rw [hsz]; simp)]; exact h
 have new : ∀ j v, (#[Value.int IntKind.i64 a, Value.int IntKind.i64 p, Value.int IntKind.i64 b, Value.int IntKind.i64 q, Value.int IntKind.i64 x, Value.int IntKind.i64 y, Value.string s] : Array Value)[j]? = some v → W0.cell? ⟨w.heap.size, j, none⟩ = some v := fun j v h => by
  rw [hW0, cell_blk (heap_alloc_new w _) j]; exact h
 refine ⟨Lib.bytesWorld W0 5 s, ⟨by rw [hW0]⟩, ⟨old 0 _ (new 0 _ rfl), old 1 _ (new 1 _ rfl), old 2 _ (new 2 _ rfl), old 3 _ (new 3 _ rfl), old 4 _ (new 4 _ rfl), old 5 _ (new 5 _ rfl), old 6 _ (new 6 _ rfl)⟩, ⟨fun j hj => ?_⟩, ⟨?_⟩, ?_⟩
 ·have := Lib.bytesWorld_cell W0 5 s j hj
  rw [hsz, bt_data s j hj] at this
  exact this
 ·have h1 : Below w.heap.size w W0 := by rw [hW0]; exact (Below.refl _ _).alloc (Nat.le_refl _) _
  exact h1.trans ((lin_below W0 5 s).mono (by omega))
 ·rw [Lib.bytesWorld_size]; omega
set_option maxHeartbeats 1000000 in
set_option maxRecDepth 100000 in
theorem seg_walk (a p b q x y : Int) (s : ByteArray) (w : World) (hs : s.size ≤ 281474976710656) :
  Calls Tryd.prog 16 #[.agg #[.int .i64 a, .int .i64 p, .int .i64 b, .int .i64 q, .int .i64 x, .int .i64 y, .string s]] w fun e w' => e = .returned (.bool (segOkB a p b q x y s)) ∧ Below w.heap.size w w' := by
 have hcv := fun W => Lib.run_convert_string_bytes (P := Tryd.prog) W 9 22 5 s Tryd.underlying9 Tryd.underlying22 Tryd.underlying5
 obtain ⟨W1, HW1, ⟨c0, c1, c2, c3, c4, c5, c6⟩, HC, HBW, hlt1⟩ := seg_world a p b q x y s w
 go_enter Tryd.func16, Tryd.ntmps16
 go_wp2
 rw [← HW1.out]
 generalize grownCap _ s.size 0 5 = cp
 clear hcv
 go_loopw [9] (fun v wr => ∃ i : Nat, i ≤ s.size ∧ v = .int .i64 (i : Int) ∧ Aside0 (∀ j, j < i → segB (bt s (j : Int)) = true) ∧ Aside0 (∃ n, wr = W1.drewN n)) (fun v _ => s.size - (intOf v).toNat)
 case atStart => exact ⟨0, Nat.zero_le _, rfl, ⟨fun j hj => by omega⟩, ⟨⟨0, rfl⟩⟩⟩
 case round =>
  obtain ⟨i, hi, rfl, HJ, HW⟩ := hrel
  obtain ⟨nd0, rfl⟩ := HW.out
  clear HW
  by_cases hlt : i < s.size
  ·have hx : (W1.drewN nd0).cell? ⟨w.heap.size + 1, i, none⟩ = some (.int .u8 (bt s (i : Int))) := HC.out i hlt
   have hbt := bt_range s (i : Int)
   by_cases hb : lineB (bt s (i : Int)) = true
   ·go_wp2_with (go_at_call 31; refine (line_any _ _).mono ?_; rintro e w' ⟨rfl, ⟨nd, rfl⟩⟩)
    go_roundw
    case rel => exact ⟨i + 1, by omega, by go_num, ⟨fun j hj => by by_cases e : j = i; (subst e; simp [segB, hb]); exact HJ.out j (by omega)⟩, ⟨⟨_, rfl⟩⟩⟩
    case measure => simp [intOf]; omega
   ·replace hb := Bool.eq_false_iff.mpr hb
    by_cases he : bt s (i : Int) = 59
    ·have HE := Aside0.mk he
     clear he
     have e1 : Utf8.encode (bt s (i : Int)) = ⟨#[59]⟩ := (enc_59 _ hbt.1 hbt.2).2 HE.out
     go_wp2_with (go_at_call 31; refine (line_any _ _).mono ?_; rintro e w' ⟨rfl, ⟨nd, rfl⟩⟩)
     go_roundw
     case rel => exact ⟨i + 1, by omega, by go_num, ⟨fun j hj => by by_cases e : j = i; (subst e; simp [segB, HE.out]); exact HJ.out j (by omega)⟩, ⟨⟨_, rfl⟩⟩⟩
     case measure => simp [intOf]; omega
    ·have e1 : ¬ Utf8.encode (bt s (i : Int)) = ⟨#[59]⟩ := fun h => he ((enc_59 _ hbt.1 hbt.2).1 h)
     have HN := Aside0.mk he
     clear he
     have e2 : ((Utf8.encode (bt s (i : Int))).toList == [59]) = false := by
      rw [beq_eq_false_iff_ne]
      intro h
      rw [ByteArray.toList_eq] at h
      exact e1 (ByteArray.ext (Array.toList_inj.1 h))
     clear e1
     go_wp2_with (go_at_call 31; refine (line_any _ _).mono ?_; rintro e w' ⟨rfl, ⟨nd, rfl⟩⟩)
     go_ret
     refine ⟨?_, pw_below_drewN HBW.out _⟩
     have : segOkB a p b q x y s = false := by unfold segOkB; exact decide_eq_false (fun hd => by have := hd.2.2.2.2.2 i hlt; simp [segB, hb, HN.out] at this)
     exact congrArg (fun b => Ending.returned (Value.bool b)) this.symm
  ·have HD : Aside0 (dataP s) := ⟨fun j hj => HJ.out j (by omega)⟩
   clear HJ hi
   have HB0 := Aside0.mk (pw_below_drewN HBW.out nd0)
   have d0 : (W1.drewN nd0).cell? ⟨w.heap.size, 0, none⟩ = some (.int .i64 a) := c0
   have d1 : (W1.drewN nd0).cell? ⟨w.heap.size, 1, none⟩ = some (.int .i64 p) := c1
   have hszd : w.heap.size < (W1.drewN nd0).heap.size := hlt1
   have HT : Aside0 ((W1.drewN nd0).cell? ⟨w.heap.size, 2, none⟩ = some (.int .i64 b) ∧ (W1.drewN nd0).cell? ⟨w.heap.size, 3, none⟩ = some (.int .i64 q) ∧ (W1.drewN nd0).cell? ⟨w.heap.size, 4, none⟩ = some (.int .i64 x) ∧ (W1.drewN nd0).cell? ⟨w.heap.size, 5, none⟩ = some (.int .i64 y) ∧ (W1.drewN nd0).cell? ⟨w.heap.size, 6, none⟩ = some (.string s)) := ⟨c2, c3, c4, c5, c6⟩
   clear c0 c2 c3 c4 c5 c6 HC HBW hlt1 HW1
   obtain ⟨W2, hW2⟩ : ∃ W2, W2 = W1.drewN nd0 := ⟨_, rfl⟩
   rw [← hW2] at d0 d1 hszd HT HB0 ⊢
   clear hW2
   by_cases h1 : endB a p = true
   ·go_wp2_with fail
    refine (end_any a p _).mono ?_
    rintro e W3 ⟨rfl, hb3⟩
    have HB3 := Aside0.mk (HB0.out.trans (hb3.mono (Nat.le_of_lt hszd)))
    have HT3 := Aside0.mk (And.intro ((hb3.cell (p := ⟨w.heap.size, 2, none⟩) hszd).trans HT.out.1) (And.intro ((hb3.cell (p := ⟨w.heap.size, 3, none⟩) hszd).trans HT.out.2.1) (And.intro ((hb3.cell (p := ⟨w.heap.size, 4, none⟩) hszd).trans HT.out.2.2.1) (And.intro ((hb3.cell (p := ⟨w.heap.size, 5, none⟩) hszd).trans HT.out.2.2.2.1) ((hb3.cell (p := ⟨w.heap.size, 6, none⟩) hszd).trans HT.out.2.2.2.2)))))
    have hsz3 : w.heap.size < W3.heap.size := Nat.lt_of_lt_of_le hszd hb3.size
    have d2 := HT3.out.1
    have d3 := HT3.out.2.1
    clear HT hb3 d0 d1 hszd HB0
    by_cases h2 : endB b q = true
    ·go_wp2_with fail
     refine (end_any b q _).mono ?_
     rintro e W4 ⟨rfl, hb4⟩
     have HB4 := Aside0.mk (HB3.out.trans (hb4.mono (Nat.le_of_lt hsz3)))
     have d4 := (hb4.cell (p := ⟨w.heap.size, 4, none⟩) hsz3).trans HT3.out.2.2.1
     have d5 := (hb4.cell (p := ⟨w.heap.size, 5, none⟩) hsz3).trans HT3.out.2.2.2.1
     have d6 := (hb4.cell (p := ⟨w.heap.size, 6, none⟩) hsz3).trans HT3.out.2.2.2.2
     clear HT3 hb4 d2 d3 hsz3 HB3
     by_cases h3 : inB x 0 240 = true
     ·go_wp2_with fail
      refine (in_any x 0 240 _).mono ?_
      rintro e W5 ⟨rfl, ⟨n5, rfl⟩⟩
      by_cases h4 : inB y 0 240 = true
      ·go_wp2_with fail
       refine (in_any y 0 240 _).mono ?_
       rintro e W6 ⟨rfl, ⟨n6, rfl⟩⟩
       go_wp2
       go_ret
       refine ⟨?_, ?_⟩
       ·have : segOkB a p b q x y s = decide ((s.size : Int) ≤ 12) := by
         unfold segOkB
         exact decide_eq_decide.2 ⟨fun hd => by omega, fun hd => ⟨of_decide_eq_true h1, of_decide_eq_true h2, of_decide_eq_true h3, of_decide_eq_true h4, by omega, HD.out⟩⟩
        exact congrArg (fun b => Ending.returned (Value.bool b)) this.symm
       ·exact pw_below_drewN HB4.out _
      ·replace h4 := Bool.eq_false_iff.mpr h4
       go_wp2_with fail
       refine (in_any y 0 240 _).mono ?_
       rintro e W6 ⟨rfl, ⟨n6, rfl⟩⟩
       go_wp2
       go_ret
       refine ⟨?_, pw_below_drewN HB4.out _⟩
       have : segOkB a p b q x y s = false := by unfold segOkB; exact decide_eq_false (fun hd => (of_decide_eq_false h4) hd.2.2.2.1)
       exact congrArg (fun b => Ending.returned (Value.bool b)) this.symm
     ·replace h3 := Bool.eq_false_iff.mpr h3
      go_wp2_with fail
      refine (in_any x 0 240 _).mono ?_
      rintro e W5 ⟨rfl, ⟨n5, rfl⟩⟩
      go_wp2
      go_ret
      refine ⟨?_, pw_below_drewN HB4.out _⟩
      have : segOkB a p b q x y s = false := by unfold segOkB; exact decide_eq_false (fun hd => (of_decide_eq_false h3) hd.2.2.1)
      exact congrArg (fun b => Ending.returned (Value.bool b)) this.symm
    ·replace h2 := Bool.eq_false_iff.mpr h2
     go_wp2_with fail
     refine (end_any b q _).mono ?_
     rintro e W4 ⟨rfl, hb4⟩
     have HB4 := Aside0.mk (HB3.out.trans (hb4.mono (Nat.le_of_lt hsz3)))
     clear hb4
     go_wp2
     go_ret
     refine ⟨?_, HB4.out⟩
     have : segOkB a p b q x y s = false := by unfold segOkB; exact decide_eq_false (fun hd => (of_decide_eq_false h2) hd.2.1)
     exact congrArg (fun b => Ending.returned (Value.bool b)) this.symm
   ·replace h1 := Bool.eq_false_iff.mpr h1
    go_wp2_with fail
    refine (end_any a p _).mono ?_
    rintro e W3 ⟨rfl, hb3⟩
    have HB3 := Aside0.mk (HB0.out.trans (hb3.mono (Nat.le_of_lt hszd)))
    clear hb3
    go_wp2
    go_ret
    refine ⟨?_, HB3.out⟩
    have : segOkB a p b q x y s = false := by unfold segOkB; exact decide_eq_false (fun hd => (of_decide_eq_false h1) hd.1)
    exact congrArg (fun b => Ending.returned (Value.bool b)) this.symm
theorem impl_SegOk.calls (k : Nat) (a0_0 : Int) (a0_1 : Int) (a0_2 : Int) (a0_3 : Int) (a0_4 : Int) (a0_5 : Int) (a0_6 : ByteArray) (r : Bool) (w : World) (h : impl_SegOk.f k a0_0 a0_1 a0_2 a0_3 a0_4 a0_5 a0_6 = some r) :
  Calls Tryd.prog 16 #[.agg #[.int .i64 a0_0, .int .i64 a0_1, .int .i64 a0_2, .int .i64 a0_3, .int .i64 a0_4, .int .i64 a0_5, .string a0_6]] w fun e w' => e = .returned (.bool r) ∧ Below w.heap.size w w' := by
 unfold impl_SegOk.f at h
 rw [if_pos (by omega)] at h
 by_cases hs : ((a0_6.size : Int) : Int).toNat ≤ 281474976710656
 ·rw [if_pos hs] at h
  obtain ⟨t, h1, h2⟩ := Option.bind_eq_some_iff.mp h
  obtain rfl := Option.some.inj h2
  obtain rfl := spec_seg a0_0 a0_1 a0_2 a0_3 a0_4 a0_5 a0_6 k t h1
  exact seg_walk a0_0 a0_1 a0_2 a0_3 a0_4 a0_5 a0_6 w (by omega)
 ·rw [if_neg hs] at h; cases h

/-! ### impl_SegSum: function 18 -/
def impl_SegSum.l0 : Nat → Int → List Int → Int → Int → Option (Int)
 | 0, _, _, _, _ => none
 | k + 1, x3, x6, x7, x8 => if x8 < x7 then (if 0 ≤ x8 then (if x8 < (x6.length : Int) then (impl_SegSum.l0 k (Int.tmod (wrap64 ((wrap64 (x3 * 257)) + (wrap64 (rd x6 x8)))) 65521) x6 x7 (wrap64 (x8 + 1))) else (none)) else (none)) else (some x3)
def impl_SegSum.f (k : Nat) (l0 : List Int) : Option (Int) := impl_SegSum.l0 k 1 l0 (l0.length : Int) 0
theorem impl_SegSum.mono_l : ∀ k, (∀ y0 y1 y2 y3, LeO (impl_SegSum.l0 k y0 y1 y2 y3) (impl_SegSum.l0 (k + 1) y0 y1 y2 y3))
 | 0 => fun _ _ _ _ r h => by simp [impl_SegSum.l0] at h
 | k + 1 => by
  have ih0 := impl_SegSum.mono_l k
  ·intro y0 y1 y2 y3
   unfold impl_SegSum.l0
   repeat' first
   | (with_reducible exact ih0 _ _ _ _)
   | (with_reducible exact LeO.refl _)
   | (with_reducible exact LeO.none _)
   | (with_reducible refine LeO.ite ?_ ?_)
   | (with_reducible refine LeO.bind ?_ (fun _ => ?_))
   | exact ih0 _ _ _ _
   | exact LeO.none _
   | refine LeO.ite ?_ ?_
   | refine LeO.bind ?_ (fun _ => ?_)
theorem impl_SegSum.mono : ∀ a0 k, LeO (impl_SegSum.f k a0) (impl_SegSum.f (k + 1) a0) := by
 intro a0 k
 have ih0 := impl_SegSum.mono_l k
 unfold impl_SegSum.f
 repeat' first
   | (with_reducible exact ih0 _ _ _ _)
   | (with_reducible exact LeO.refl _)
   | (with_reducible exact LeO.none _)
   | (with_reducible refine LeO.ite ?_ ?_)
   | (with_reducible refine LeO.bind ?_ (fun _ => ?_))
   | exact ih0 _ _ _ _
   | exact LeO.none _
   | refine LeO.ite ?_ ?_
   | refine LeO.bind ?_ (fun _ => ?_)
set_option maxHeartbeats 8000000 in
set_option maxRecDepth 100000 in
theorem impl_SegSum.calls (k : Nat) (A0 : Option Addr) (c0 : Nat) (l0 : List Int) (r : Int) (w : World) (hr0 : Kd.C (Kd.int .u8) w A0 l0.length l0) (hc0 : l0.length ≤ c0) (h : impl_SegSum.f k l0 = some r) :
  Calls Tryd.prog 18 #[.slice A0 l0.length c0] w fun e w' => e = .returned (.int .i64 r) ∧ Drawn0 w w' := by
 have HR0 := Aside0.mk hr0
 have HC0 := Aside0.mk hc0
 clear hr0 hc0
 have H : (impl_SegSum.l0 k 1 l0 (l0.length : Int) 0) = some r := h
 clear h
 have H' := Aside0.mk H
 clear H
 go_enter Tryd.func18, Tryd.ntmps18
 go_wp2
 go_loopg [3, 8] k (fun kq v3 v8 w' => ∃ (x3_1 : Int) (x8_1 : Int), v3 = .int .i64 x3_1 ∧ v8 = .int .i64 x8_1 ∧ Aside0 (impl_SegSum.l0 kq x3_1 l0 (l0.length : Int) x8_1 = some r) ∧ Aside0 (kq ≤ k) ∧ Drawn0 w w')
 case atStart => exact ⟨(1), (0), Z1, Z1, H', ⟨Nat.le_refl _⟩, by repeat (first | exact Drawn0.refl _ | apply Drawn0.step)⟩
 case round =>
  clear H'
  try clear c1
  obtain ⟨x3_1, x8_1, rfl, rfl, HA, HK1, ⟨m1, rfl⟩⟩ := hrel
  cases gk with
  | zero => exact absurd HA.out (by simp [impl_SegSum.l0])
  | succ k1 =>
   have H := HA.out
   clear HA
   simp only [impl_SegSum.l0] at H
   by_cases c2 : x8_1 < (l0.length : Int)
   ·rw [if_pos c2] at H
    have c2b0 : decide (x8_1 < (l0.length : Int)) = true := decide_eq_true c2
    clear c2
    by_cases c3 : 0 ≤ x8_1
    ·rw [if_pos c3] at H
     have c3b0 : decide (0 ≤ x8_1) = true := decide_eq_true c3
     clear c3
     by_cases c4 : x8_1 < (l0.length : Int)
     ·rw [if_pos c4] at H
      have c4b0 : decide (x8_1 < (l0.length : Int)) = true := decide_eq_true c4
      clear c4
      have H' := Aside0.mk H
      clear H
      have p148 : 0 ≤ (x8_1 : Int) := of_decide_eq_true Z2
      have q148 : x8_1 < (l0.length : Int) := of_decide_eq_true Z2
      obtain ⟨ad148, e148, hx148_0⟩ := Kd.at_int HR0.out x8_1 p148 q148
      cases e148
      replace p148 := eq_true p148
      replace q148 := eq_true q148
      go_wp2
      go_roundg k1
      case measure => have := HK1.out; omega
      case rel => exact ⟨(Int.tmod (wrap64 ((wrap64 (x3_1 * 257)) + (wrap64 (rd l0 x8_1)))) 65521), (wrap64 (x8_1 + 1)), Z1, Z1, H', ⟨by have := HK1.out; omega⟩, by repeat (first | exact Drawn0.refl _ | apply Drawn0.step)⟩
     ·rw [if_neg c4] at H
      exact absurd H (by simp)
    ·rw [if_neg c3] at H
     exact absurd H (by simp)
   ·rw [if_neg c2] at H
    have c2b0 : decide (x8_1 < (l0.length : Int)) = false := decide_eq_false c2
    clear c2
    obtain rfl := Option.some.inj H
    go_wp2
    go_ret
    exact ⟨by first | rfl | (simp; done) | (simp [*]; done), by repeat (first | exact Drawn0.refl _ | apply Drawn0.step)⟩

/-! ### impl_two: function 28 -/
def impl_two.f (a0 : Int) : Option (List Int) := some (([(a0 / 256) % 256, (a0) % 256] : List Int))
set_option maxHeartbeats 8000000 in
set_option maxRecDepth 100000 in
theorem impl_two.calls (a0 : Int) (r : List Int) (w : World) (h : impl_two.f a0 = some r) :
  Calls Tryd.prog 28 #[.int .i64 a0] w fun e w' => ∃ v0_ : Value, e = .returned (v0_) ∧ Kd.R (Kd.int .u8) 5 w' w.heap.size (fun _ => True) v0_ r ∧ Below w.heap.size w w' := by
 have HB := Aside0.mk (Below.refl w.heap.size w)
 have H : (some (([(a0 / 256) % 256, (a0) % 256] : List Int))) = some r := h
 clear h
 obtain ⟨y149, hy149⟩ : ∃ y_ : List Int, y_ = (([(a0 / 256) % 256, (a0) % 256] : List Int)) := ⟨_, rfl⟩
 replace H : (some y149) = some r := by first | (rw [hy149]; with_reducible exact H) | (have H2_ := (Option.bind_some _ _).symm.trans H; rw [hy149]; with_reducible exact H2_) | (have H2_ := (Option.bind_some _ _).symm.trans H; with_reducible exact H2_) | with_reducible exact H | (rw [hy149]; exact H) | exact H
 have Ny149 := Aside0.mk hy149
 clear hy149
 obtain rfl := Option.some.inj H
 go_enter Tryd.func28, Tryd.ntmps28
 go_wp2_with (first | ((with_reducible refine gate_dst (N := 8) rfl ?_); refine Kd.R_lit (Kd.int .u8) _ 5 ?hg (N := 8) ?hd (xs := ([(a0 / 256) % 256, (a0) % 256] : List Int)) (inner := [.int .u8 ((a0 / 256) % 256), .int .u8 ((a0) % 256)]) (ok := fun _ => True) (okp := fun _ => True) ?hr ?hp (fun _ hk => hk) trivial (Below.refl _ _) (Nat.le_refl _) (by simp) ?_; (case hd => rfl); (case hg => rfl); (case hr => first | (go_simp; done) | (go_simp; rfl)); (case hp => exact (Reps.one (show Kd.M (Kd.int .u8) _ _ _ ((a0 / 256) % 256) [.int .u8 ((a0 / 256) % 256)] from rfl) (Reps.one (show Kd.M (Kd.int .u8) _ _ _ ((a0) % 256) [.int .u8 ((a0) % 256)] from rfl) (Reps.none _ _)))); intro v150 w2 ho3 hb hg_ hnew_; clear hg_ hnew_; (first | rw [← Ny149.out] at ho3 | (simp only [Int.reduceToNat] at ho3; rw [← Ny149.out] at ho3)); have n0_ := Aside0.mk (Kd.R_lower ho3 (below_size Z42)); have n1_ := Aside0.mk (below_step Z42 hb); clear HB; have HO151 := n0_; have HB := n1_; clear n0_ n1_; clear hb ho3))
 go_ret
 exact ⟨_, by first | rfl | (simp [errW_none, errW_some] <;> rfl) | (simp [*, errW_none, errW_some] <;> rfl), by (with_reducible repeat (first | apply Kd.R_alloc | apply Kd.R_drewN | apply Kd.R_drew)); exact HO151.out, by repeat (first | (with_reducible first | exact HB.out | apply below_alloc | apply pw_below_drewN | apply below_drew1) | exact HB.out)⟩

end Go.Proofs.YtdfoelhpeeanlaaDoor.QFnSegBytes
