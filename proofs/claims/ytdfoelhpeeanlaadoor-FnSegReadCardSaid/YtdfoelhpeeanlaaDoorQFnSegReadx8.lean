-- Laid by a program of this repo (wip/tools/sprint.py): print.py's functions and walks; the contracts named 'BY HAND' are proved by hand.
import Derived.Test.YtdfoelhpeeanlaaDoorQFnSegReadx7
import Derived.Test.YtdfoelhpeeanlaaDoorQFnSegReadx5
import Derived.Test.YtdfoelhpeeanlaaDoorQFnSegReadx4
import Derived.Test.YtdfoelhpeeanlaaDoorQFnSegReadx3
import Derived.Test.YtdfoelhpeeanlaaDoorQFnSegReadx2
import Derived.Test.YtdfoelhpeeanlaaDoorQFnSegReadx1
import Derived.Test.YtdfoelhpeeanlaaDoorQFnSegReadx0
import Derived.Test.YtdfoelhpeeanlaaDoorQFnSegReadx6
namespace Go.Proofs.YtdfoelhpeeanlaaDoor.QFnSegRead
open Go.RowKit Go.Proofs.YtdfoelhpeeanlaaDoorW.PrintWords Go.Proofs.YtdfoelhpeeanlaaDoorW.PrintLast Go.Proofs.YtdfoelhpeeanlaaDoorW.PrintMore
attribute [local go_sem] max2_int min2_int max_two min_two max_three min_three max_four min_four   -- for this text's walks alone
set_option linter.unusedVariables false
set_option linter.unusedSimpArgs false

/-! ### spec_l20Turn: function 39 -/
def spec_l20Turn.f (k : Nat) (s0_0 : List Int) (s0_1 : Int) (l1 : List Int) : Option (List Int × Int) := if (l1.length : Int) = 0 then ((spec_l20Rd_pick.f k s0_0 s0_1 256).bind fun bt377 => (some ((([(bt377.1) % 256] : List Int)), bt377.2))) else ((spec_l20Rd_pick.f k s0_0 s0_1 (l1.length : Int)).bind fun bt382 => ((spec_l20Rd_pick.f k s0_0 bt382.2 3).bind fun bt384 => (if bt384.1 = 0 then ((some (([] : List Int) : List Int)).bind fun y386 => (if 0 ≤ bt382.1 then (if bt382.1 ≤ (l1.length : Int) then (if y386.length + (l1.take (bt382.1 : Int).toNat).length < 140737488355328 then ((some (y386 ++ (l1.take (bt382.1 : Int).toNat) : List Int)).bind fun y390 => (if 0 ≤ (wrap64 (bt382.1 + 1)) then (if (wrap64 (bt382.1 + 1)) ≤ (l1.length : Int) then (if y390.length + (l1.drop ((wrap64 (bt382.1 + 1)) : Int).toNat).length < 140737488355328 then (some ((y390 ++ (l1.drop ((wrap64 (bt382.1 + 1)) : Int).toNat)), bt384.2)) else (none)) else (none)) else (none))) else (none)) else (none)) else (none))) else (if bt384.1 = 1 then ((some (([] : List Int) : List Int)).bind fun y397 => (if 0 ≤ bt382.1 then (if bt382.1 ≤ (l1.length : Int) then (if y397.length + (l1.take (bt382.1 : Int).toNat).length < 140737488355328 then ((some (y397 ++ (l1.take (bt382.1 : Int).toNat) : List Int)).bind fun y401 => ((spec_l20Rd_pick.f k s0_0 bt384.2 9).bind fun bt404 => (if y401.length < 140737488355328 then ((some (y401 ++ [(bt404.1) % 256] : List Int)).bind fun y406 => (if y406.length + (l1.drop (bt382.1 : Int).toNat).length < 140737488355328 then (some ((y406 ++ (l1.drop (bt382.1 : Int).toNat)), bt404.2)) else (none))) else (none)))) else (none)) else (none)) else (none))) else ((some (([] : List Int) : List Int)).bind fun y413 => (if y413.length + l1.length < 140737488355328 then ((some (y413 ++ l1 : List Int)).bind fun y416 => (if 0 ≤ bt382.1 then (if bt382.1 < (y416.length : Int) then ((spec_l20Rd_pick.f k s0_0 bt384.2 255).bind fun bt420 => (some ((y416.set (bt382.1 : Int).toNat (Go.bits .xor .u8 (rd y416 bt382.1) ((wrap64 (1 + bt420.1)) % 256))), bt420.2))) else (none)) else (none))) else (none)))))))
theorem spec_l20Turn.mono : ∀ a0 a1 a2 k, LeO (spec_l20Turn.f k a0 a1 a2) (spec_l20Turn.f (k + 1) a0 a1 a2) := by
 intro a0 a1 a2 k
 unfold spec_l20Turn.f
 repeat' first
   | (with_reducible exact spec_l20Rd_pick.mono _ _ _ _)
   | (with_reducible exact LeO.refl _)
   | (with_reducible exact LeO.none _)
   | (with_reducible refine LeO.ite ?_ ?_)
   | (with_reducible refine LeO.bind ?_ (fun _ => ?_))
   | exact spec_l20Rd_pick.mono _ _ _ _
   | exact LeO.none _
   | refine LeO.ite ?_ ?_
   | refine LeO.bind ?_ (fun _ => ?_)
def spec_l20Turn.T6 : Bool × List (List Nat × List Nat) := (true, [([], []), ([], []), ([], []), ([1, 2], [1, 2]), ([0, 3], [0, 3]), ([], []), ([], []), ([6], [6]), ([5, 7], [5, 7]), ([4, 8, 4], [4, 8]), ([9, 9, 0, 1, 2, 3, 4, 5, 6, 7, 8, 9], [9])])
def spec_l20Turn.B6 : List Nat := [0, 0, 0, 6, 15, 0, 0, 64, 224, 511, 1023]
theorem spec_l20Turn.tab6 : rtab .any (opsOf Tryd.f39 6) = spec_l20Turn.T6 := by kernel_rfl
theorem spec_l20Turn.bits6 : waitsOk spec_l20Turn.T6.2 spec_l20Turn.B6 = true := by kernel_rfl
def spec_l20Turn.T8 : Bool × List (List Nat × List Nat) := (true, [([], []), ([], []), ([], []), ([1, 2], [1, 2]), ([0, 3], [0, 3]), ([], []), ([5, 4], [5]), ([6], [6]), ([7], [7]), ([4, 8, 6], [4, 8]), ([], []), ([], []), ([10, 11], [10, 11]), ([9, 12, 9], [9, 12]), ([13, 13, 0, 1, 2, 3, 4, 5, 6, 7, 8, 9, 10, 11, 12, 13], [13])])
def spec_l20Turn.B8 : List Nat := [0, 0, 0, 6, 15, 0, 63, 127, 255, 511, 0, 0, 3072, 8191, 16383]
theorem spec_l20Turn.tab8 : rtab .any (opsOf Tryd.f39 8) = spec_l20Turn.T8 := by kernel_rfl
theorem spec_l20Turn.bits8 : waitsOk spec_l20Turn.T8.2 spec_l20Turn.B8 = true := by kernel_rfl
def spec_l20Turn.T10 : Bool × List (List Nat × List Nat) := (true, [([], []), ([], []), ([], []), ([], []), ([2, 3], [2, 3]), ([4], [4]), ([], []), ([6], [6]), ([7], [7]), ([8], [8]), ([5, 9], [5, 9]), ([0, 1, 0, 1, 2, 3, 4, 5, 6, 7, 8, 9, 10], [0, 1]), ([11, 10, 7, 0, 1, 2, 3, 4, 5, 6, 7, 8, 9, 10], [10, 11])])
def spec_l20Turn.B10 : List Nat := [0, 0, 0, 0, 12, 28, 0, 64, 192, 448, 1020, 2047, 4095]
theorem spec_l20Turn.tab10 : rtab .any (opsOf Tryd.f39 10) = spec_l20Turn.T10 := by kernel_rfl
theorem spec_l20Turn.bits10 : waitsOk spec_l20Turn.T10.2 spec_l20Turn.B10 = true := by kernel_rfl
set_option maxHeartbeats 8000000 in
set_option maxRecDepth 100000 in
theorem spec_l20Turn.calls (k : Nat) (g : Nat) (s0_0 : List Int) (s0_1 : Int) (A1 : Option Addr) (c1 : Nat) (l1 : List Int) (r1 : List Int) (r2 : Int) (w0 w : World) (hI : IsS64 w0 w g s0_0 s0_1) (hB : Below w0.heap.size w0 w) (hr1 : Kd.C (Kd.int .u8) w A1 l1.length l1) (hc1 : l1.length ≤ c1) (hf1 : ∀ ad, A1 = some ad → 0 < l1.length → ad.block ≠ g) (h : spec_l20Turn.f k s0_0 s0_1 l1 = some (r1, r2)) :
  Calls Tryd.prog 39 #[.pointer (some ⟨g, 0, none⟩), .slice A1 l1.length c1] w fun e w' => ∃ v0_ : Value, e = .returned (v0_) ∧ Kd.R (Kd.int .u8) 5 w' w.heap.size (fun _ => True) v0_ r1 ∧ IsS64 w0 w' g s0_0 r2 ∧ Below w0.heap.size w0 w' ∧ KeepBut w w' g none := by
 have HR1 := Aside0.mk hr1
 have HC1 := Aside0.mk hc1
 clear hr1 hc1
 have HI0 := Aside0.mk hI
 have HK := Aside0.mk (KeepBut.refl w g none)
 have HL := Aside0.mk hB.size
 clear hI
 have HW0 := Aside0.mk hB.size
 have HB := Aside0.mk hB
 clear hB
 have H : (if (l1.length : Int) = 0 then ((spec_l20Rd_pick.f k s0_0 s0_1 256).bind fun bt377 => (some ((([(bt377.1) % 256] : List Int)), bt377.2))) else ((spec_l20Rd_pick.f k s0_0 s0_1 (l1.length : Int)).bind fun bt382 => ((spec_l20Rd_pick.f k s0_0 bt382.2 3).bind fun bt384 => (if bt384.1 = 0 then ((some (([] : List Int) : List Int)).bind fun y386 => (if 0 ≤ bt382.1 then (if bt382.1 ≤ (l1.length : Int) then (if y386.length + (l1.take (bt382.1 : Int).toNat).length < 140737488355328 then ((some (y386 ++ (l1.take (bt382.1 : Int).toNat) : List Int)).bind fun y390 => (if 0 ≤ (wrap64 (bt382.1 + 1)) then (if (wrap64 (bt382.1 + 1)) ≤ (l1.length : Int) then (if y390.length + (l1.drop ((wrap64 (bt382.1 + 1)) : Int).toNat).length < 140737488355328 then (some ((y390 ++ (l1.drop ((wrap64 (bt382.1 + 1)) : Int).toNat)), bt384.2)) else (none)) else (none)) else (none))) else (none)) else (none)) else (none))) else (if bt384.1 = 1 then ((some (([] : List Int) : List Int)).bind fun y397 => (if 0 ≤ bt382.1 then (if bt382.1 ≤ (l1.length : Int) then (if y397.length + (l1.take (bt382.1 : Int).toNat).length < 140737488355328 then ((some (y397 ++ (l1.take (bt382.1 : Int).toNat) : List Int)).bind fun y401 => ((spec_l20Rd_pick.f k s0_0 bt384.2 9).bind fun bt404 => (if y401.length < 140737488355328 then ((some (y401 ++ [(bt404.1) % 256] : List Int)).bind fun y406 => (if y406.length + (l1.drop (bt382.1 : Int).toNat).length < 140737488355328 then (some ((y406 ++ (l1.drop (bt382.1 : Int).toNat)), bt404.2)) else (none))) else (none)))) else (none)) else (none)) else (none))) else ((some (([] : List Int) : List Int)).bind fun y413 => (if y413.length + l1.length < 140737488355328 then ((some (y413 ++ l1 : List Int)).bind fun y416 => (if 0 ≤ bt382.1 then (if bt382.1 < (y416.length : Int) then ((spec_l20Rd_pick.f k s0_0 bt384.2 255).bind fun bt420 => (some ((y416.set (bt382.1 : Int).toNat (Go.bits .xor .u8 (rd y416 bt382.1) ((wrap64 (1 + bt420.1)) % 256))), bt420.2))) else (none)) else (none))) else (none)))))))) = some (r1, r2) := h
 clear h
 by_cases c3 : (l1.length : Int) = 0
 ·rw [if_pos c3] at H
  have c3b0 : ((l1.length : Int) == 0) = true := beq_iff_eq.mpr c3
  have c3b1 : ((l1.length : Int) != 0) = false := bne_eq_false_iff_eq.mpr c3
  clear c3
  replace H := Option.bind_eq_some_iff.mp H
  obtain ⟨⟨t377, t378⟩, A40, H⟩ := H
  replace H : (some ((([(t377) % 256] : List Int)), t378)) = some (r1, r2) := H
  have A4 := Aside0.mk A40
  clear A40
  obtain ⟨y379, hy379⟩ : ∃ y_ : List Int, y_ = (([(t377) % 256] : List Int)) := ⟨_, rfl⟩
  replace H : (some (y379, t378)) = some (r1, r2) := by first | (rw [hy379]; with_reducible exact H) | (have H2_ := (Option.bind_some _ _).symm.trans H; rw [hy379]; with_reducible exact H2_) | (have H2_ := (Option.bind_some _ _).symm.trans H; with_reducible exact H2_) | with_reducible exact H | (rw [hy379]; exact H) | exact H
  have Ny379 := Aside0.mk hy379
  clear hy379
  simp only [Option.some.injEq, Prod.mk.injEq] at H
  obtain ⟨rfl, rfl⟩ := H
  go_enter Tryd.func39, Tryd.ntmps39
  go_wp2_with (first | ((with_reducible refine gate_callee (f := 38) rfl ?_); refine goesL_ (some 11) rfl rfl Tryd.func38 (by kernel_rfl) rfl #[.pointer (some ⟨g, 0, none⟩), .int .i64 256] rfl Z37 ?_; (with_reducible refine (spec_l20Rd_pick.calls k g s0_0 s0_1 256 t377 t378 w0 _ ?side1 ?side2 A4.out).mono ?_); (case side1 => exact Z40); (case side2 => exact Z55); rintro e w5 ⟨rfl, hi, hb, hk⟩; refine ⟨_, rfl, ?_⟩; have n0_ := Aside0.mk (KeepBut.trans Z39 hk (.inl rfl)); have n1_ := Aside0.mk (hb); have n2_ := Aside0.mk (hi); clear HK; clear HB; clear HI0; have HK := n0_; have HB := n1_; have HI0 := n2_; clear n0_ n1_ n2_; (try clear hb); (try clear hk); (try clear hi)) | ((with_reducible refine gate_dst (N := 13) rfl ?_); refine Kd.R_lit (Kd.int .u8) _ 5 ?hg (N := 13) ?hd (xs := ([(t377) % 256] : List Int)) (inner := [.int .u8 ((t377) % 256)]) (ok := fun _ => True) (okp := fun _ => True) ?hr ?hp (fun _ hk => hk) trivial (Below.refl _ _) (Nat.le_refl _) (by simp) ?_; (case hd => rfl); (case hg => rfl); (case hr => first | (go_simp; done) | (go_simp; rfl)); (case hp => exact (Reps.one (show Kd.M (Kd.int .u8) _ _ _ ((t377) % 256) [.int .u8 ((t377) % 256)] from rfl) (Reps.none _ _))); intro v380 w6 ho7 hb hg_ hnew_; clear hg_ hnew_; (first | rw [← Ny379.out] at ho7 | (simp only [Int.reduceToNat] at ho7; rw [← Ny379.out] at ho7)); have n0_ := Aside0.mk (Kd.R_lower ho7 (keep_size (w := w) (g := g) (row := none) Z39)); have n1_ := Aside0.mk (IsS64.below Z41 hb); have n2_ := Aside0.mk (KeepBut.trans Z39 (KeepBut.of_below hb g none) (.inl rfl)); have n3_ := Aside0.mk (below_step Z57 hb); clear HI0; clear HK; clear HB; have HO381 := n0_; have HI0 := n1_; have HK := n2_; have HB := n3_; clear n0_ n1_ n2_ n3_; clear hb ho7))
  go_ret
  exact ⟨_, by first | rfl | (simp [errW_none, errW_some] <;> rfl) | (simp [*, errW_none, errW_some] <;> rfl), by (with_reducible repeat (first | apply Kd.R_alloc | apply Kd.R_drewN | apply Kd.R_drew)); exact HO381.out, by repeat (first | (with_reducible first | exact HI0.out | apply IsS64.alloc | apply IsS64.drewN | apply IsS64.drew | apply IsS64.set_1) | exact HI0.out), by repeat (first | (with_reducible first | exact HB.out | apply below_alloc | apply pw_below_drewN | apply below_drew1 | refine below_set ?_ (IsS64.ge HI0.out)) | exact HB.out), by repeat (first | (with_reducible first | exact HK.out | apply KeepBut.set_ | apply keep_drewN | apply keep_drew | apply keep_alloc) | exact HK.out)⟩
 ·rw [if_neg c3] at H
  have c3b0 : ((l1.length : Int) == 0) = false := beq_eq_false_iff_ne.mpr c3
  have c3b1 : ((l1.length : Int) != 0) = true := bne_iff_ne.mpr c3
  have c3b2 : ¬ (l1 = []) := fun h_ => c3 (by rw [h_]; rfl)
  replace H := Option.bind_eq_some_iff.mp H
  obtain ⟨⟨t382, t383⟩, A80, H⟩ := H
  replace H : ((spec_l20Rd_pick.f k s0_0 t383 3).bind fun bt384 => (if bt384.1 = 0 then ((some (([] : List Int) : List Int)).bind fun y386 => (if 0 ≤ t382 then (if t382 ≤ (l1.length : Int) then (if y386.length + (l1.take (t382 : Int).toNat).length < 140737488355328 then ((some (y386 ++ (l1.take (t382 : Int).toNat) : List Int)).bind fun y390 => (if 0 ≤ (wrap64 (t382 + 1)) then (if (wrap64 (t382 + 1)) ≤ (l1.length : Int) then (if y390.length + (l1.drop ((wrap64 (t382 + 1)) : Int).toNat).length < 140737488355328 then (some ((y390 ++ (l1.drop ((wrap64 (t382 + 1)) : Int).toNat)), bt384.2)) else (none)) else (none)) else (none))) else (none)) else (none)) else (none))) else (if bt384.1 = 1 then ((some (([] : List Int) : List Int)).bind fun y397 => (if 0 ≤ t382 then (if t382 ≤ (l1.length : Int) then (if y397.length + (l1.take (t382 : Int).toNat).length < 140737488355328 then ((some (y397 ++ (l1.take (t382 : Int).toNat) : List Int)).bind fun y401 => ((spec_l20Rd_pick.f k s0_0 bt384.2 9).bind fun bt404 => (if y401.length < 140737488355328 then ((some (y401 ++ [(bt404.1) % 256] : List Int)).bind fun y406 => (if y406.length + (l1.drop (t382 : Int).toNat).length < 140737488355328 then (some ((y406 ++ (l1.drop (t382 : Int).toNat)), bt404.2)) else (none))) else (none)))) else (none)) else (none)) else (none))) else ((some (([] : List Int) : List Int)).bind fun y413 => (if y413.length + l1.length < 140737488355328 then ((some (y413 ++ l1 : List Int)).bind fun y416 => (if 0 ≤ t382 then (if t382 < (y416.length : Int) then ((spec_l20Rd_pick.f k s0_0 bt384.2 255).bind fun bt420 => (some ((y416.set (t382 : Int).toNat (Go.bits .xor .u8 (rd y416 t382) ((wrap64 (1 + bt420.1)) % 256))), bt420.2))) else (none)) else (none))) else (none)))))) = some (r1, r2) := H
  have A8 := Aside0.mk A80
  clear A80
  replace H := Option.bind_eq_some_iff.mp H
  obtain ⟨⟨t384, t385⟩, A90, H⟩ := H
  replace H : (if t384 = 0 then ((some (([] : List Int) : List Int)).bind fun y386 => (if 0 ≤ t382 then (if t382 ≤ (l1.length : Int) then (if y386.length + (l1.take (t382 : Int).toNat).length < 140737488355328 then ((some (y386 ++ (l1.take (t382 : Int).toNat) : List Int)).bind fun y390 => (if 0 ≤ (wrap64 (t382 + 1)) then (if (wrap64 (t382 + 1)) ≤ (l1.length : Int) then (if y390.length + (l1.drop ((wrap64 (t382 + 1)) : Int).toNat).length < 140737488355328 then (some ((y390 ++ (l1.drop ((wrap64 (t382 + 1)) : Int).toNat)), t385)) else (none)) else (none)) else (none))) else (none)) else (none)) else (none))) else (if t384 = 1 then ((some (([] : List Int) : List Int)).bind fun y397 => (if 0 ≤ t382 then (if t382 ≤ (l1.length : Int) then (if y397.length + (l1.take (t382 : Int).toNat).length < 140737488355328 then ((some (y397 ++ (l1.take (t382 : Int).toNat) : List Int)).bind fun y401 => ((spec_l20Rd_pick.f k s0_0 t385 9).bind fun bt404 => (if y401.length < 140737488355328 then ((some (y401 ++ [(bt404.1) % 256] : List Int)).bind fun y406 => (if y406.length + (l1.drop (t382 : Int).toNat).length < 140737488355328 then (some ((y406 ++ (l1.drop (t382 : Int).toNat)), bt404.2)) else (none))) else (none)))) else (none)) else (none)) else (none))) else ((some (([] : List Int) : List Int)).bind fun y413 => (if y413.length + l1.length < 140737488355328 then ((some (y413 ++ l1 : List Int)).bind fun y416 => (if 0 ≤ t382 then (if t382 < (y416.length : Int) then ((spec_l20Rd_pick.f k s0_0 t385 255).bind fun bt420 => (some ((y416.set (t382 : Int).toNat (Go.bits .xor .u8 (rd y416 t382) ((wrap64 (1 + bt420.1)) % 256))), bt420.2))) else (none)) else (none))) else (none))))) = some (r1, r2) := H
  have A9 := Aside0.mk A90
  clear A90
  by_cases c10 : t384 = 0
  ·rw [if_pos c10] at H
   have c10b0 : (t384 == 0) = true := beq_iff_eq.mpr c10
   have c10b1 : (t384 != 0) = false := bne_eq_false_iff_eq.mpr c10
   clear c10
   obtain ⟨y386, hy386⟩ : ∃ y_ : List Int, y_ = (([] : List Int)) := ⟨_, rfl⟩
   replace H : (if 0 ≤ t382 then (if t382 ≤ (l1.length : Int) then (if y386.length + (l1.take (t382 : Int).toNat).length < 140737488355328 then ((some (y386 ++ (l1.take (t382 : Int).toNat) : List Int)).bind fun y390 => (if 0 ≤ (wrap64 (t382 + 1)) then (if (wrap64 (t382 + 1)) ≤ (l1.length : Int) then (if y390.length + (l1.drop ((wrap64 (t382 + 1)) : Int).toNat).length < 140737488355328 then (some ((y390 ++ (l1.drop ((wrap64 (t382 + 1)) : Int).toNat)), t385)) else (none)) else (none)) else (none))) else (none)) else (none)) else (none)) = some (r1, r2) := by first | (rw [hy386]; with_reducible exact H) | (have H2_ := (Option.bind_some _ _).symm.trans H; rw [hy386]; with_reducible exact H2_) | (have H2_ := (Option.bind_some _ _).symm.trans H; with_reducible exact H2_) | with_reducible exact H | (rw [hy386]; exact H) | exact H
   have Ny386 := Aside0.mk hy386
   clear hy386
   by_cases c11 : 0 ≤ t382
   ·rw [if_pos c11] at H
    have c11b0 := eq_true c11
    have c11b1 : decide (0 ≤ t382) = true := decide_eq_true c11
    clear c11
    by_cases c12 : t382 ≤ (l1.length : Int)
    ·rw [if_pos c12] at H
     have c12b0 := eq_true c12
     have c12b1 : decide (t382 ≤ (l1.length : Int)) = true := decide_eq_true c12
     clear c12
     by_cases c13 : y386.length + (l1.take (t382 : Int).toNat).length < 140737488355328
     ·rw [if_pos c13] at H
      have LMc13 := Aside0.mk c13
      clear c13
      obtain ⟨y390, hy390⟩ : ∃ y_ : List Int, y_ = (y386 ++ (l1.take (t382 : Int).toNat)) := ⟨_, rfl⟩
      replace H : (if 0 ≤ (wrap64 (t382 + 1)) then (if (wrap64 (t382 + 1)) ≤ (l1.length : Int) then (if y390.length + (l1.drop ((wrap64 (t382 + 1)) : Int).toNat).length < 140737488355328 then (some ((y390 ++ (l1.drop ((wrap64 (t382 + 1)) : Int).toNat)), t385)) else (none)) else (none)) else (none)) = some (r1, r2) := by first | (rw [hy390]; with_reducible exact H) | (have H2_ := (Option.bind_some _ _).symm.trans H; rw [hy390]; with_reducible exact H2_) | (have H2_ := (Option.bind_some _ _).symm.trans H; with_reducible exact H2_) | with_reducible exact H | (rw [hy390]; exact H) | exact H
      have Ny390 := Aside0.mk hy390
      clear hy390
      obtain ⟨ji14, hji14⟩ : ∃ j_ : Int, (wrap64 (t382 + 1)) = j_ := ⟨_, rfl⟩
      replace H : (if 0 ≤ (ji14) then (if (ji14) ≤ (l1.length : Int) then (if y390.length + (l1.drop ((ji14) : Int).toNat).length < 140737488355328 then (some ((y390 ++ (l1.drop ((ji14) : Int).toNat)), t385)) else (none)) else (none)) else (none)) = some (r1, r2) := by first | (rw [hji14] at H; exact H) | (simp only [hji14] at H ⊢; exact H)
      (try rw [hji14] at A8)
      (try rw [hji14] at A9)
      have hji14w : (IntKind.i64.wrap (t382 + 1)) = ji14 := (i64_w _).trans hji14
      by_cases c15 : 0 ≤ (ji14)
      ·rw [if_pos c15] at H
       have c15b0 := eq_true c15
       have c15b1 : decide (0 ≤ (ji14)) = true := decide_eq_true c15
       clear c15
       by_cases c16 : (ji14) ≤ (l1.length : Int)
       ·rw [if_pos c16] at H
        have c16b0 := eq_true c16
        have c16b1 : decide ((ji14) ≤ (l1.length : Int)) = true := decide_eq_true c16
        clear c16
        by_cases c17 : y390.length + (l1.drop ((ji14) : Int).toNat).length < 140737488355328
        ·rw [if_pos c17] at H
         have LMc17 := Aside0.mk c17
         clear c17
         obtain ⟨y394, hy394⟩ : ∃ y_ : List Int, y_ = (y390 ++ (l1.drop ((ji14) : Int).toNat)) := ⟨_, rfl⟩
         replace H : (some (y394, t385)) = some (r1, r2) := by first | (rw [hy394]; with_reducible exact H) | (have H2_ := (Option.bind_some _ _).symm.trans H; rw [hy394]; with_reducible exact H2_) | (have H2_ := (Option.bind_some _ _).symm.trans H; with_reducible exact H2_) | with_reducible exact H | (rw [hy394]; exact H) | exact H
         have Ny394 := Aside0.mk hy394
         clear hy394
         simp only [Option.some.injEq, Prod.mk.injEq] at H
         obtain ⟨rfl, rfl⟩ := H
         go_enter Tryd.func39, Tryd.ntmps39
         try go_wp2_with (first | ((with_reducible refine gate_callee (f := 38) rfl ?_); refine goesL_ (some 17) rfl rfl Tryd.func38 (by kernel_rfl) rfl #[.pointer (some ⟨g, 0, none⟩), .int .i64 (l1.length : Int)] rfl Z37 ?_; (with_reducible refine (spec_l20Rd_pick.calls k g s0_0 s0_1 (l1.length : Int) t382 t383 w0 _ ?side1 ?side2 A8.out).mono ?_); (case side1 => exact Z40); (case side2 => exact Z55); rintro e w18 ⟨rfl, hi, hb, hk⟩; refine ⟨_, rfl, ?_⟩; have n0_ := Aside0.mk (KeepBut.trans Z39 hk (.inl rfl)); have n1_ := Aside0.mk (hb); have n2_ := Aside0.mk (hi); clear HK; clear HB; clear HI0; have HK := n0_; have HB := n1_; have HI0 := n2_; clear n0_ n1_ n2_; (try clear hb); (try clear hk); (try clear hi)) | ((with_reducible refine gate_callee (f := 38) rfl ?_); refine goesL_ (some 19) rfl rfl Tryd.func38 (by kernel_rfl) rfl #[.pointer (some ⟨g, 0, none⟩), .int .i64 3] rfl Z37 ?_; (with_reducible refine (spec_l20Rd_pick.calls k g s0_0 t383 3 t384 t385 w0 _ ?side1 ?side2 A9.out).mono ?_); (case side1 => exact Z40); (case side2 => exact Z55); rintro e w19 ⟨rfl, hi, hb, hk⟩; refine ⟨_, rfl, ?_⟩; have n0_ := Aside0.mk (KeepBut.trans Z39 hk (.inl rfl)); have n1_ := Aside0.mk (hb); have n2_ := Aside0.mk (hi); clear HK; clear HB; clear HI0; have HK := n0_; have HB := n1_; have HI0 := n2_; clear n0_ n1_ n2_; (try clear hb); (try clear hk); (try clear hi)))
         have n0_ := Aside0.mk (IsS64.drew HI0.out)
         have n1_ := Aside0.mk (keep_drew HK.out)
         have n2_ := Aside0.mk (below_drew1 HB.out)
         clear HI0
         clear HK
         clear HB
         have HI0 := n0_
         have HK := n1_
         have HB := n2_
         clear n0_ n1_ n2_
         obtain ⟨i021, hi021, _, hsz21, _⟩ := info_parts info5
         obtain ⟨hcut21, hA21, hC21⟩ := print_take_of (P := Tryd.prog) (Value.int .u8) 0 22 5 .i64 Tryd.underlying22 hi021 hsz21 A1 c1 l1 t382 (of_decide_eq_true Z2) (of_decide_eq_true Z2) HC1.out
         have HR389 := Aside0.mk (Kd.C_of_reads (h1 := fun _ => rfl) (hA21 _ (Kd.reads_of_C HR1.out)))
         have HC389 := Aside0.mk hC21
         have hf389 : ∀ ad : Addr, A1 = some ad → 0 < (l1.take (t382 : Int).toNat).length → ad.block ≠ g := fun ad he h_ => by cases he; exact Kd.foot_ne (fun W_ hk_ => Kd.C_of_reads (h1 := fun _ => rfl) (hA21 _ (Kd.reads_of_C (Kd.C_foot_ne (fun h => h) HR1.out hf1 W_ hk_)))) h_ (by decide)
         clear hA21 hC21 hi021 hsz21
         obtain ⟨i022, hi022, _, hsz22, _⟩ := info_parts info5
         obtain ⟨A22, hcut22, hA22, hC22⟩ := print_drop_of (P := Tryd.prog) (Value.int .u8) 0 22 5 .i64 Tryd.underlying22 hi022 hsz22 A1 c1 l1 (ji14) (of_decide_eq_true Z2) (of_decide_eq_true Z2) HC1.out
         have HR393 := Aside0.mk (Kd.C_of_reads (h1 := fun _ => rfl) (hA22 _ (Kd.reads_of_C HR1.out)))
         have HC393 := Aside0.mk hC22
         have hf393 : ∀ ad : Addr, A22 = some ad → 0 < (l1.drop ((ji14) : Int).toNat).length → ad.block ≠ g := fun ad he h_ => by cases he; exact Kd.foot_ne (fun W_ hk_ => Kd.C_of_reads (h1 := fun _ => rfl) (hA22 _ (Kd.reads_of_C (Kd.C_foot_ne (fun h => h) HR1.out hf1 W_ hk_)))) h_ (by decide)
         clear hA22 hC22 hi022 hsz22
         refine start_ (n := 11) (S := fun w' => True) (ds := []) #[false, false, false, false, false, false, false, false, false, false, false] (by kernel_rfl) rfl rfl trivial (fun hHeld => ?_); refine with_tabW spec_l20Turn.tab6 spec_l20Turn.bits6 (fun HT_ HW_ => ?_)
         generalize w19.drew = w20 at HI0 HK HB HR389 HR393 hHeld ⊢
         refine pure_ (i := 1) (N := some 23) (v := ?_) (a' := ?_) #[false, true, false, false, false, false, false, false, false, false, false] rfl rfl (any_of HT_.out (by kernel_rfl)) (fun _ _ _ h => h) (Or.inl ⟨by rfl, ?_⟩) ?_ ?_
         rotate_left
         ·intro w'
          go_simp
          with_reducible rfl
         rotate_left
         ·simp only [Act.put, List.setIfInBounds_toArray, List.set_cons_zero, List.set_cons_succ, i64_w, i32_w]
          rfl
         refine pure_ (i := 2) (N := some 24) (v := ?_) (a' := ?_) #[false, true, true, false, false, false, false, false, false, false, false] rfl rfl (any_of HT_.out (by kernel_rfl)) (fun _ _ _ h => h) (Or.inl ⟨by rfl, ?_⟩) ?_ ?_
         rotate_left
         ·intro w'
          go_simp
          with_reducible rfl
         rotate_left
         ·simp only [Act.put, List.setIfInBounds_toArray, List.set_cons_zero, List.set_cons_succ, i64_w, i32_w]
          rfl
         refine pure_ (i := 3) (N := some 25) (v := ?_) (a' := ?_) #[false, true, true, true, false, false, false, false, false, false, false] rfl rfl (any_of HT_.out (by kernel_rfl)) (fun _ _ _ h => h) (Or.inl ⟨by rfl, ?_⟩) ?_ ?_
         rotate_left
         ·intro w'
          go_simp
          with_reducible rfl
         rotate_left
         ·simp only [Act.put, List.setIfInBounds_toArray, List.set_cons_zero, List.set_cons_succ, i64_w, i32_w]
          rfl
         refine pure_ (i := 5) (N := some 27) (v := ?_) (a' := ?_) #[false, true, true, true, false, true, false, false, false, false, false] rfl rfl (any_of HT_.out (by kernel_rfl)) (fun _ _ _ h => h) (Or.inl ⟨by rfl, ?_⟩) ?_ ?_
         rotate_left
         ·intro w'
          go_simp
          with_reducible rfl
         rotate_left
         ·simp only [Act.put, List.setIfInBounds_toArray, List.set_cons_zero, List.set_cons_succ, i64_w, i32_w]
          rfl
         refine pure_ (i := 6) (N := some 28) (v := ?_) (a' := ?_) #[false, true, true, true, false, true, true, false, false, false, false] rfl rfl (any_of HT_.out (by kernel_rfl)) (fun _ _ _ h => h) (Or.inl ⟨by rfl, ?_⟩) ?_ ?_
         rotate_left
         ·intro w'
          go_simp
          with_reducible rfl
         rotate_left
         ·simp only [Act.put, List.setIfInBounds_toArray, List.set_cons_zero, List.set_cons_succ, i64_w, i32_w]
          rfl
         refine pure_ (i := 7) (N := some 29) (v := ?_) (a' := ?_) #[false, true, true, true, false, true, true, true, false, false, false] rfl rfl (any_of HT_.out (by kernel_rfl)) (fun _ _ _ h => h) (Or.inl ⟨by rfl, ?_⟩) ?_ ?_
         rotate_left
         ·intro w'
          go_simp
          with_reducible rfl
         rotate_left
         ·simp only [Act.put, List.setIfInBounds_toArray, List.set_cons_zero, List.set_cons_succ, i64_w, i32_w]
          rfl
         refine pure_ (i := 8) (N := some 30) (v := ?_) (a' := ?_) #[false, true, true, true, false, true, true, true, true, false, false] rfl rfl (any_of HT_.out (by kernel_rfl)) (fun _ _ _ h => h) (Or.inl ⟨by rfl, ?_⟩) ?_ ?_
         rotate_left
         ·intro w'
          go_simp
          with_reducible rfl
         rotate_left
         ·simp only [Act.put, List.setIfInBounds_toArray, List.set_cons_zero, List.set_cons_succ, i64_w, i32_w]
          rfl
         refine one_ (i := 0) (N := some 22) #[true, true, true, true, false, true, true, true, true, false, false] rfl rfl (one_of HT_.out (by kernel_rfl)) (by decide) (fun K hK => ?_)
         refine Kd.R_lit_step (Kd.int .u8) _ 5 ?hg (N := 22) ?hd (xs := ([] : List Int)) (inner := []) (ok := fun _ => True) (okp := fun _ => True) ?hr ?hp (fun _ hk => hk) trivial (Below.refl _ _) (Nat.le_refl _) (by simp) ?_; (case hd => rfl); (case hg => rfl); (case hr => first | (go_simp; done) | (go_simp; rfl)); (case hp => exact (Reps.none _ _))
         intro v387 w23 ho24 hb hg_ hnew_
         clear hg_ hnew_
         (first | rw [← Ny386.out] at ho24 | (simp only [Int.reduceToNat] at ho24; rw [← Ny386.out] at ho24))
         have n0_ := Aside0.mk (Kd.R_lower ho24 (keep_size (w := w) (g := g) (row := none) Z39))
         have n1_ := Aside0.mk (IsS64.below Z41 hb)
         have n2_ := Aside0.mk (KeepBut.trans Z39 (KeepBut.of_below hb g none) (.inl rfl))
         have n3_ := Aside0.mk (below_step Z57 hb)
         clear HI0
         clear HK
         clear HB
         have HO388 := n0_
         have HI0 := n1_
         have HK := n2_
         have HB := n3_
         clear n0_ n1_ n2_ n3_
         clear hb ho24
         refine hK.out _ _ trivial (fun hHeld => ?_)
         clear hK K
         refine norm_ (a' := ?_) ?_ ?_
         rotate_left
         ·show Act.put _ (some 22) _ = _
          simp only [Act.put, List.setIfInBounds_toArray, List.set_cons_zero, List.set_cons_succ, i64_w, i32_w]
          rfl
         refine one_ (i := 4) (N := some 26) #[true, true, true, true, true, true, true, true, true, false, false] rfl rfl (one_of HT_.out (by kernel_rfl)) (by decide) (fun K hK => ?_)
         refine Kd.R_append_rows_step (Kd.int .u8) w.heap.size (by rfl) (.tmp 22) (.tmp 25) 22 5 (.int .u8 0) 1 rfl Tryd.underlying22 info5 rfl (by decide) (by omega) v387 y386 (l1.take (t382 : Int).toNat) _ _ _ (fun _ => True) (fun _ => False) rfl rfl ?aO ?aR (fun _ _ h => h) (fun _ h => h.elim) ?aF (Below.refl _ _) ?aS ?aL ?_
         (case aR => first | (refine (congrArg (fun n_ => Kd.C _ _ _ n_ _) (show (l1.take (t382 : Int).toNat).length = t382.toNat from Z96)).mp ?_; exact Kd.C_keep 0 HR389.out Z39 hf389) | (rw [← show (l1.take (t382 : Int).toNat).length = t382.toNat from Z96]; exact Kd.C_keep 0 HR389.out Z39 hf389) | (exact Kd.C_keep 0 HR389.out Z39 hf389))
         (case aF => exact (fun _ _ => trivial))
         (case aO => exact (by (with_reducible repeat (first | apply Kd.R_alloc | apply Kd.R_drewN | apply Kd.R_drew)); exact HO388.out))
         (case aS => exact (keep_size (w := w) (g := g) (row := none) Z39))
         (case aL => have := LMc13.out; have hlx_ := (show (l1.take (t382 : Int).toNat).length = t382.toNat from Z96); omega)
         intro v391 w25 ho hb hg hat
         rw [← Ny390.out] at ho
         have n0_ := Aside0.mk (IsS64.grown Z41 hg (IsS64.own_ne HI0.out HO388.out (by decide)))
         have n1_ := Aside0.mk (below_weaken Z57 HL.out hb)
         have n2_ := Aside0.mk (KeepBut.trans Z39 (KeepBut.of_grown hg g) (Kd.R_base2 HO388.out))
         have n3_ := Aside0.mk (ho)
         clear HI0
         clear HB
         clear HK
         clear HO388
         have HI0 := n0_
         have HB := n1_
         have HK := n2_
         have HO392 := n3_
         clear n0_ n1_ n2_ n3_
         clear ho hb hg hat
         refine hK.out _ _ trivial (fun hHeld => ?_)
         clear hK K
         refine norm_ (a' := ?_) ?_ ?_
         rotate_left
         ·show Act.put _ (some 26) _ = _
          simp only [Act.put, List.setIfInBounds_toArray, List.set_cons_zero, List.set_cons_succ, i64_w, i32_w]
          rfl
         refine one_ (i := 9) (N := some 31) #[true, true, true, true, true, true, true, true, true, true, false] rfl rfl (one_of HT_.out (by kernel_rfl)) (by decide) (fun K hK => ?_)
         refine Kd.R_append_rows_step (Kd.int .u8) w.heap.size (by rfl) (.tmp 26) (.tmp 30) 22 5 (.int .u8 0) 1 rfl Tryd.underlying22 info5 rfl (by decide) (by omega) v391 y390 (l1.drop ((ji14) : Int).toNat) _ _ _ (fun _ => True) (fun _ => False) rfl rfl ?aO ?aR (fun _ _ h => h) (fun _ h => h.elim) ?aF (Below.refl _ _) ?aS ?aL ?_
         (case aR => first | (rw [← show (l1.drop ((ji14) : Int).toNat).length = (l1.length - (ji14).toNat) from List.length_drop]; exact Kd.C_keep 0 HR393.out Z39 hf393) | (exact Kd.C_keep 0 HR393.out Z39 hf393))
         (case aF => exact (fun _ _ => trivial))
         (case aO => exact (by (with_reducible repeat (first | apply Kd.R_alloc | apply Kd.R_drewN | apply Kd.R_drew)); exact HO392.out))
         (case aS => exact (keep_size (w := w) (g := g) (row := none) Z39))
         (case aL => have := LMc17.out; have hlx_ := (show (l1.drop ((ji14) : Int).toNat).length = (l1.length - (ji14).toNat) from List.length_drop); omega)
         intro v395 w26 ho hb hg hat
         rw [← Ny394.out] at ho
         have n0_ := Aside0.mk (IsS64.grown Z41 hg (IsS64.own_ne HI0.out HO392.out (by decide)))
         have n1_ := Aside0.mk (below_weaken Z57 HL.out hb)
         have n2_ := Aside0.mk (KeepBut.trans Z39 (KeepBut.of_grown hg g) (Kd.R_base2 HO392.out))
         have n3_ := Aside0.mk (ho)
         clear HI0
         clear HB
         clear HK
         clear HO392
         have HI0 := n0_
         have HB := n1_
         have HK := n2_
         have HO396 := n3_
         clear n0_ n1_ n2_ n3_
         clear ho hb hg hat
         refine hK.out _ _ trivial (fun hHeld => ?_)
         clear hK K
         refine norm_ (a' := ?_) ?_ ?_
         rotate_left
         ·show Act.put _ (some 31) _ = _
          simp only [Act.put, List.setIfInBounds_toArray, List.set_cons_zero, List.set_cons_succ, i64_w, i32_w]
          rfl
         refine pure_ (i := 10) (N := some 4) (v := ?_) (a' := ?_) #[true, true, true, true, true, true, true, true, true, true, true] rfl rfl (any_of HT_.out (by kernel_rfl)) (fun _ _ _ h => h) (Or.inl ⟨by rfl, ?_⟩) ?_ ?_
         rotate_left
         ·intro w'
          go_simp
          with_reducible rfl
         rotate_left
         ·simp only [Act.put, List.setIfInBounds_toArray, List.set_cons_zero, List.set_cons_succ, i64_w, i32_w]
          rfl
         refine done_ (done_of HT_.out (by kernel_rfl)) ?_
         try go_wp2
         go_ret
         exact ⟨_, by first | rfl | (simp [errW_none, errW_some] <;> rfl) | (simp only [← hji14]; first | rfl | (simp [errW_none, errW_some] <;> rfl)) | (simp [*, errW_none, errW_some] <;> rfl), by (with_reducible repeat (first | apply Kd.R_alloc | apply Kd.R_drewN | apply Kd.R_drew)); exact HO396.out, by repeat (first | (with_reducible first | exact HI0.out | apply IsS64.alloc | apply IsS64.drewN | apply IsS64.drew | apply IsS64.set_1) | exact HI0.out), by repeat (first | (with_reducible first | exact HB.out | apply below_alloc | apply pw_below_drewN | apply below_drew1 | refine below_set ?_ (IsS64.ge HI0.out)) | exact HB.out), by repeat (first | (with_reducible first | exact HK.out | apply KeepBut.set_ | apply keep_drewN | apply keep_drew | apply keep_alloc) | exact HK.out)⟩
        ·rw [if_neg c17] at H
         exact absurd H (by simp)
       ·rw [if_neg c16] at H
        exact absurd H (by simp)
      ·rw [if_neg c15] at H
       exact absurd H (by simp)
     ·rw [if_neg c13] at H
      exact absurd H (by simp)
    ·rw [if_neg c12] at H
     exact absurd H (by simp)
   ·rw [if_neg c11] at H
    exact absurd H (by simp)
  ·rw [if_neg c10] at H
   have c10b0 : (t384 == 0) = false := beq_eq_false_iff_ne.mpr c10
   have c10b1 : (t384 != 0) = true := bne_iff_ne.mpr c10
   by_cases c27 : t384 = 1
   ·rw [if_pos c27] at H
    have c27b0 : (t384 == 1) = true := beq_iff_eq.mpr c27
    have c27b1 : (t384 != 1) = false := bne_eq_false_iff_eq.mpr c27
    clear c27
    obtain ⟨y397, hy397⟩ : ∃ y_ : List Int, y_ = (([] : List Int)) := ⟨_, rfl⟩
    replace H : (if 0 ≤ t382 then (if t382 ≤ (l1.length : Int) then (if y397.length + (l1.take (t382 : Int).toNat).length < 140737488355328 then ((some (y397 ++ (l1.take (t382 : Int).toNat) : List Int)).bind fun y401 => ((spec_l20Rd_pick.f k s0_0 t385 9).bind fun bt404 => (if y401.length < 140737488355328 then ((some (y401 ++ [(bt404.1) % 256] : List Int)).bind fun y406 => (if y406.length + (l1.drop (t382 : Int).toNat).length < 140737488355328 then (some ((y406 ++ (l1.drop (t382 : Int).toNat)), bt404.2)) else (none))) else (none)))) else (none)) else (none)) else (none)) = some (r1, r2) := by first | (rw [hy397]; with_reducible exact H) | (have H2_ := (Option.bind_some _ _).symm.trans H; rw [hy397]; with_reducible exact H2_) | (have H2_ := (Option.bind_some _ _).symm.trans H; with_reducible exact H2_) | with_reducible exact H | (rw [hy397]; exact H) | exact H
    have Ny397 := Aside0.mk hy397
    clear hy397
    by_cases c28 : 0 ≤ t382
    ·rw [if_pos c28] at H
     have c28b0 := eq_true c28
     have c28b1 : decide (0 ≤ t382) = true := decide_eq_true c28
     clear c28
     by_cases c29 : t382 ≤ (l1.length : Int)
     ·rw [if_pos c29] at H
      have c29b0 := eq_true c29
      have c29b1 : decide (t382 ≤ (l1.length : Int)) = true := decide_eq_true c29
      clear c29
      by_cases c30 : y397.length + (l1.take (t382 : Int).toNat).length < 140737488355328
      ·rw [if_pos c30] at H
       have LMc30 := Aside0.mk c30
       clear c30
       obtain ⟨y401, hy401⟩ : ∃ y_ : List Int, y_ = (y397 ++ (l1.take (t382 : Int).toNat)) := ⟨_, rfl⟩
       replace H : ((spec_l20Rd_pick.f k s0_0 t385 9).bind fun bt404 => (if y401.length < 140737488355328 then ((some (y401 ++ [(bt404.1) % 256] : List Int)).bind fun y406 => (if y406.length + (l1.drop (t382 : Int).toNat).length < 140737488355328 then (some ((y406 ++ (l1.drop (t382 : Int).toNat)), bt404.2)) else (none))) else (none))) = some (r1, r2) := by first | (rw [hy401]; with_reducible exact H) | (have H2_ := (Option.bind_some _ _).symm.trans H; rw [hy401]; with_reducible exact H2_) | (have H2_ := (Option.bind_some _ _).symm.trans H; with_reducible exact H2_) | with_reducible exact H | (rw [hy401]; exact H) | exact H
       have Ny401 := Aside0.mk hy401
       clear hy401
       replace H := Option.bind_eq_some_iff.mp H
       obtain ⟨⟨t404, t405⟩, A310, H⟩ := H
       replace H : (if y401.length < 140737488355328 then ((some (y401 ++ [(t404) % 256] : List Int)).bind fun y406 => (if y406.length + (l1.drop (t382 : Int).toNat).length < 140737488355328 then (some ((y406 ++ (l1.drop (t382 : Int).toNat)), t405)) else (none))) else (none)) = some (r1, r2) := H
       have A31 := Aside0.mk A310
       clear A310
       by_cases c32 : y401.length < 140737488355328
       ·rw [if_pos c32] at H
        have LMc32 := Aside0.mk c32
        clear c32
        obtain ⟨y406, hy406⟩ : ∃ y_ : List Int, y_ = (y401 ++ [(t404) % 256]) := ⟨_, rfl⟩
        replace H : (if y406.length + (l1.drop (t382 : Int).toNat).length < 140737488355328 then (some ((y406 ++ (l1.drop (t382 : Int).toNat)), t405)) else (none)) = some (r1, r2) := by first | (rw [hy406]; with_reducible exact H) | (have H2_ := (Option.bind_some _ _).symm.trans H; rw [hy406]; with_reducible exact H2_) | (have H2_ := (Option.bind_some _ _).symm.trans H; with_reducible exact H2_) | with_reducible exact H | (rw [hy406]; exact H) | exact H
        have Ny406 := Aside0.mk hy406
        clear hy406
        have c33b0 := eq_true (of_decide_eq_true Z2 : 0 ≤ t382)
        have c34b0 := eq_true (of_decide_eq_true Z2 : t382 ≤ (l1.length : Int))
        by_cases c35 : y406.length + (l1.drop (t382 : Int).toNat).length < 140737488355328
        ·rw [if_pos c35] at H
         have LMc35 := Aside0.mk c35
         clear c35
         obtain ⟨y410, hy410⟩ : ∃ y_ : List Int, y_ = (y406 ++ (l1.drop (t382 : Int).toNat)) := ⟨_, rfl⟩
         replace H : (some (y410, t405)) = some (r1, r2) := by first | (rw [hy410]; with_reducible exact H) | (have H2_ := (Option.bind_some _ _).symm.trans H; rw [hy410]; with_reducible exact H2_) | (have H2_ := (Option.bind_some _ _).symm.trans H; with_reducible exact H2_) | with_reducible exact H | (rw [hy410]; exact H) | exact H
         have Ny410 := Aside0.mk hy410
         clear hy410
         simp only [Option.some.injEq, Prod.mk.injEq] at H
         obtain ⟨rfl, rfl⟩ := H
         go_enter Tryd.func39, Tryd.ntmps39
         try go_wp2_with (first | ((with_reducible refine gate_callee (f := 38) rfl ?_); refine goesL_ (some 17) rfl rfl Tryd.func38 (by kernel_rfl) rfl #[.pointer (some ⟨g, 0, none⟩), .int .i64 (l1.length : Int)] rfl Z37 ?_; (with_reducible refine (spec_l20Rd_pick.calls k g s0_0 s0_1 (l1.length : Int) t382 t383 w0 _ ?side1 ?side2 A8.out).mono ?_); (case side1 => exact Z40); (case side2 => exact Z55); rintro e w36 ⟨rfl, hi, hb, hk⟩; refine ⟨_, rfl, ?_⟩; have n0_ := Aside0.mk (KeepBut.trans Z39 hk (.inl rfl)); have n1_ := Aside0.mk (hb); have n2_ := Aside0.mk (hi); clear HK; clear HB; clear HI0; have HK := n0_; have HB := n1_; have HI0 := n2_; clear n0_ n1_ n2_; (try clear hb); (try clear hk); (try clear hi)) | ((with_reducible refine gate_callee (f := 38) rfl ?_); refine goesL_ (some 19) rfl rfl Tryd.func38 (by kernel_rfl) rfl #[.pointer (some ⟨g, 0, none⟩), .int .i64 3] rfl Z37 ?_; (with_reducible refine (spec_l20Rd_pick.calls k g s0_0 t383 3 t384 t385 w0 _ ?side1 ?side2 A9.out).mono ?_); (case side1 => exact Z40); (case side2 => exact Z55); rintro e w37 ⟨rfl, hi, hb, hk⟩; refine ⟨_, rfl, ?_⟩; have n0_ := Aside0.mk (KeepBut.trans Z39 hk (.inl rfl)); have n1_ := Aside0.mk (hb); have n2_ := Aside0.mk (hi); clear HK; clear HB; clear HI0; have HK := n0_; have HB := n1_; have HI0 := n2_; clear n0_ n1_ n2_; (try clear hb); (try clear hk); (try clear hi)))
         have n0_ := Aside0.mk (IsS64.drew HI0.out)
         have n1_ := Aside0.mk (keep_drew HK.out)
         have n2_ := Aside0.mk (below_drew1 HB.out)
         clear HI0
         clear HK
         clear HB
         have HI0 := n0_
         have HK := n1_
         have HB := n2_
         clear n0_ n1_ n2_
         obtain ⟨i039, hi039, _, hsz39, _⟩ := info_parts info5
         obtain ⟨hcut39, hA39, hC39⟩ := print_take_of (P := Tryd.prog) (Value.int .u8) 0 22 5 .i64 Tryd.underlying22 hi039 hsz39 A1 c1 l1 t382 (of_decide_eq_true Z2) (of_decide_eq_true Z2) HC1.out
         have HR400 := Aside0.mk (Kd.C_of_reads (h1 := fun _ => rfl) (hA39 _ (Kd.reads_of_C HR1.out)))
         have HC400 := Aside0.mk hC39
         have hf400 : ∀ ad : Addr, A1 = some ad → 0 < (l1.take (t382 : Int).toNat).length → ad.block ≠ g := fun ad he h_ => by cases he; exact Kd.foot_ne (fun W_ hk_ => Kd.C_of_reads (h1 := fun _ => rfl) (hA39 _ (Kd.reads_of_C (Kd.C_foot_ne (fun h => h) HR1.out hf1 W_ hk_)))) h_ (by decide)
         clear hA39 hC39 hi039 hsz39
         obtain ⟨i040, hi040, _, hsz40, _⟩ := info_parts info5
         obtain ⟨A40, hcut40, hA40, hC40⟩ := print_drop_of (P := Tryd.prog) (Value.int .u8) 0 22 5 .i64 Tryd.underlying22 hi040 hsz40 A1 c1 l1 t382 (of_decide_eq_true Z2) (of_decide_eq_true Z2) HC1.out
         have HR409 := Aside0.mk (Kd.C_of_reads (h1 := fun _ => rfl) (hA40 _ (Kd.reads_of_C HR1.out)))
         have HC409 := Aside0.mk hC40
         have hf409 : ∀ ad : Addr, A40 = some ad → 0 < (l1.drop (t382 : Int).toNat).length → ad.block ≠ g := fun ad he h_ => by cases he; exact Kd.foot_ne (fun W_ hk_ => Kd.C_of_reads (h1 := fun _ => rfl) (hA40 _ (Kd.reads_of_C (Kd.C_foot_ne (fun h => h) HR1.out hf1 W_ hk_)))) h_ (by decide)
         clear hA40 hC40 hi040 hsz40
         refine start_ (n := 15) (S := fun w' => True) (ds := []) #[false, false, false, false, false, false, false, false, false, false, false, false, false, false, false] (by kernel_rfl) rfl rfl trivial (fun hHeld => ?_); refine with_tabW spec_l20Turn.tab8 spec_l20Turn.bits8 (fun HT_ HW_ => ?_)
         generalize w37.drew = w38 at HI0 HK HB HR400 HR409 hHeld ⊢
         refine pure_ (i := 1) (N := some 35) (v := ?_) (a' := ?_) #[false, true, false, false, false, false, false, false, false, false, false, false, false, false, false] rfl rfl (any_of HT_.out (by kernel_rfl)) (fun _ _ _ h => h) (Or.inl ⟨by rfl, ?_⟩) ?_ ?_
         rotate_left
         ·intro w'
          go_simp
          with_reducible rfl
         rotate_left
         ·simp only [Act.put, List.setIfInBounds_toArray, List.set_cons_zero, List.set_cons_succ, i64_w, i32_w]
          rfl
         refine pure_ (i := 2) (N := some 36) (v := ?_) (a' := ?_) #[false, true, true, false, false, false, false, false, false, false, false, false, false, false, false] rfl rfl (any_of HT_.out (by kernel_rfl)) (fun _ _ _ h => h) (Or.inl ⟨by rfl, ?_⟩) ?_ ?_
         rotate_left
         ·intro w'
          go_simp
          with_reducible rfl
         rotate_left
         ·simp only [Act.put, List.setIfInBounds_toArray, List.set_cons_zero, List.set_cons_succ, i64_w, i32_w]
          rfl
         refine pure_ (i := 3) (N := some 37) (v := ?_) (a' := ?_) #[false, true, true, true, false, false, false, false, false, false, false, false, false, false, false] rfl rfl (any_of HT_.out (by kernel_rfl)) (fun _ _ _ h => h) (Or.inl ⟨by rfl, ?_⟩) ?_ ?_
         rotate_left
         ·intro w'
          go_simp
          with_reducible rfl
         rotate_left
         ·simp only [Act.put, List.setIfInBounds_toArray, List.set_cons_zero, List.set_cons_succ, i64_w, i32_w]
          rfl
         refine pure_ (i := 5) (N := some 39) (v := ?_) (a' := ?_) #[false, true, true, true, false, true, false, false, false, false, false, false, false, false, false] rfl rfl (any_of HT_.out (by kernel_rfl)) (fun _ _ _ h => h) (Or.inl ⟨by rfl, ?_⟩) ?_ ?_
         rotate_left
         ·intro w'
          go_simp
          with_reducible rfl
         rotate_left
         ·simp only [Act.put, List.setIfInBounds_toArray, List.set_cons_zero, List.set_cons_succ, i64_w, i32_w]
          rfl
         refine pure_ (i := 10) (N := some 44) (v := ?_) (a' := ?_) #[false, true, true, true, false, true, false, false, false, false, true, false, false, false, false] rfl rfl (any_of HT_.out (by kernel_rfl)) (fun _ _ _ h => h) (Or.inl ⟨by rfl, ?_⟩) ?_ ?_
         rotate_left
         ·intro w'
          go_simp
          with_reducible rfl
         rotate_left
         ·simp only [Act.put, List.setIfInBounds_toArray, List.set_cons_zero, List.set_cons_succ, i64_w, i32_w]
          rfl
         refine pure_ (i := 11) (N := some 45) (v := ?_) (a' := ?_) #[false, true, true, true, false, true, false, false, false, false, true, true, false, false, false] rfl rfl (any_of HT_.out (by kernel_rfl)) (fun _ _ _ h => h) (Or.inl ⟨by rfl, ?_⟩) ?_ ?_
         rotate_left
         ·intro w'
          go_simp
          with_reducible rfl
         rotate_left
         ·simp only [Act.put, List.setIfInBounds_toArray, List.set_cons_zero, List.set_cons_succ, i64_w, i32_w]
          rfl
         refine pure_ (i := 12) (N := some 46) (v := ?_) (a' := ?_) #[false, true, true, true, false, true, false, false, false, false, true, true, true, false, false] rfl rfl (any_of HT_.out (by kernel_rfl)) (fun _ _ _ h => h) (Or.inl ⟨by rfl, ?_⟩) ?_ ?_
         rotate_left
         ·intro w'
          go_simp
          with_reducible rfl
         rotate_left
         ·simp only [Act.put, List.setIfInBounds_toArray, List.set_cons_zero, List.set_cons_succ, i64_w, i32_w]
          rfl
         refine one_ (i := 0) (N := some 34) #[true, true, true, true, false, true, false, false, false, false, true, true, true, false, false] rfl rfl (one_of HT_.out (by kernel_rfl)) (by decide) (fun K hK => ?_)
         refine Kd.R_lit_step (Kd.int .u8) _ 5 ?hg (N := 34) ?hd (xs := ([] : List Int)) (inner := []) (ok := fun _ => True) (okp := fun _ => True) ?hr ?hp (fun _ hk => hk) trivial (Below.refl _ _) (Nat.le_refl _) (by simp) ?_; (case hd => rfl); (case hg => rfl); (case hr => first | (go_simp; done) | (go_simp; rfl)); (case hp => exact (Reps.none _ _))
         intro v398 w41 ho42 hb hg_ hnew_
         clear hg_ hnew_
         (first | rw [← Ny397.out] at ho42 | (simp only [Int.reduceToNat] at ho42; rw [← Ny397.out] at ho42))
         have n0_ := Aside0.mk (Kd.R_lower ho42 (keep_size (w := w) (g := g) (row := none) Z39))
         have n1_ := Aside0.mk (IsS64.below Z41 hb)
         have n2_ := Aside0.mk (KeepBut.trans Z39 (KeepBut.of_below hb g none) (.inl rfl))
         have n3_ := Aside0.mk (below_step Z57 hb)
         clear HI0
         clear HK
         clear HB
         have HO399 := n0_
         have HI0 := n1_
         have HK := n2_
         have HB := n3_
         clear n0_ n1_ n2_ n3_
         clear hb ho42
         refine hK.out _ _ trivial (fun hHeld => ?_)
         clear hK K
         refine norm_ (a' := ?_) ?_ ?_
         rotate_left
         ·show Act.put _ (some 34) _ = _
          simp only [Act.put, List.setIfInBounds_toArray, List.set_cons_zero, List.set_cons_succ, i64_w, i32_w]
          rfl
         refine one_ (i := 4) (N := some 38) #[true, true, true, true, true, true, false, false, false, false, true, true, true, false, false] rfl rfl (one_of HT_.out (by kernel_rfl)) (by decide) (fun K hK => ?_)
         refine Kd.R_append_rows_step (Kd.int .u8) w.heap.size (by rfl) (.tmp 34) (.tmp 37) 22 5 (.int .u8 0) 1 rfl Tryd.underlying22 info5 rfl (by decide) (by omega) v398 y397 (l1.take (t382 : Int).toNat) _ _ _ (fun _ => True) (fun _ => False) rfl rfl ?aO ?aR (fun _ _ h => h) (fun _ h => h.elim) ?aF (Below.refl _ _) ?aS ?aL ?_
         (case aR => first | (refine (congrArg (fun n_ => Kd.C _ _ _ n_ _) (show (l1.take (t382 : Int).toNat).length = t382.toNat from Z96)).mp ?_; exact Kd.C_keep 0 HR400.out Z39 hf400) | (rw [← show (l1.take (t382 : Int).toNat).length = t382.toNat from Z96]; exact Kd.C_keep 0 HR400.out Z39 hf400) | (exact Kd.C_keep 0 HR400.out Z39 hf400))
         (case aF => exact (fun _ _ => trivial))
         (case aO => exact (by (with_reducible repeat (first | apply Kd.R_alloc | apply Kd.R_drewN | apply Kd.R_drew)); exact HO399.out))
         (case aS => exact (keep_size (w := w) (g := g) (row := none) Z39))
         (case aL => have := LMc30.out; have hlx_ := (show (l1.take (t382 : Int).toNat).length = t382.toNat from Z96); omega)
         intro v402 w43 ho hb hg hat
         rw [← Ny401.out] at ho
         have n0_ := Aside0.mk (IsS64.grown Z41 hg (IsS64.own_ne HI0.out HO399.out (by decide)))
         have n1_ := Aside0.mk (below_weaken Z57 HL.out hb)
         have n2_ := Aside0.mk (KeepBut.trans Z39 (KeepBut.of_grown hg g) (Kd.R_base2 HO399.out))
         have n3_ := Aside0.mk (ho)
         clear HI0
         clear HB
         clear HK
         clear HO399
         have HI0 := n0_
         have HB := n1_
         have HK := n2_
         have HO403 := n3_
         clear n0_ n1_ n2_ n3_
         clear ho hb hg hat
         refine hK.out _ _ trivial (fun hHeld => ?_)
         clear hK K
         refine norm_ (a' := ?_) ?_ ?_
         rotate_left
         ·show Act.put _ (some 38) _ = _
          simp only [Act.put, List.setIfInBounds_toArray, List.set_cons_zero, List.set_cons_succ, i64_w, i32_w]
          rfl
         refine one_ (i := 6) (N := some 40) #[true, true, true, true, true, true, true, false, false, false, true, true, true, false, false] rfl rfl (one_of HT_.out (by kernel_rfl)) (by decide) (fun K hK => ?_)
         refine goes_ Tryd.func38 (by kernel_rfl) rfl #[.pointer (some ⟨g, 0, none⟩), .int .i64 9] (by rfl) rfl rfl Z37 ?_
         with_reducible refine (spec_l20Rd_pick.calls k g s0_0 t385 9 t404 t405 w0 _ ?side1 ?side2 A31.out).mono ?_
         (case side1 => exact Z40)
         (case side2 => exact Z55)
         rintro e w44 ⟨rfl, hi, hb, hk⟩
         refine ⟨_, rfl, ?_⟩
         have n0_ := Aside0.mk (Kd.R_mono (Kd.R_keep (IsS64.apart (show IsS64 w0 _ g s0_0 t385 from by repeat (first | (with_reducible first | exact HI0.out | apply IsS64.alloc | apply IsS64.drewN | apply IsS64.drew | apply IsS64.set_1) | exact HI0.out)) Z14 (by decide)) hk (fun _ h => h.2)) (fun _ h => h.1))
         have n1_ := Aside0.mk (KeepBut.trans Z39 hk (.inl rfl))
         have n2_ := Aside0.mk (hb)
         have n3_ := Aside0.mk (hi)
         clear HO403
         clear HK
         clear HB
         clear HI0
         have HO403 := n0_
         have HK := n1_
         have HB := n2_
         have HI0 := n3_
         clear n0_ n1_ n2_ n3_
         (try clear hb)
         (try clear hb2)
         (try clear hk)
         (try clear hi)
         refine hK.out _ _ trivial (fun hHeld => ?_)
         clear hK K
         refine norm_ (a' := ?_) ?_ ?_
         rotate_left
         ·show Act.put _ (some 40) _ = _
          simp only [Act.put, List.setIfInBounds_toArray, List.set_cons_zero, List.set_cons_succ, i64_w, i32_w]
          rfl
         refine pure_ (i := 7) (N := some 41) (v := ?_) (a' := ?_) #[true, true, true, true, true, true, true, true, false, false, true, true, true, false, false] rfl rfl (any_of HT_.out (by kernel_rfl)) (fun _ _ _ h => h) (Or.inl ⟨by rfl, ?_⟩) ?_ ?_
         rotate_left
         ·intro w'
          go_simp
          with_reducible rfl
         rotate_left
         ·simp only [Act.put, List.setIfInBounds_toArray, List.set_cons_zero, List.set_cons_succ, i64_w, i32_w]
          rfl
         refine one_ (i := 8) (N := some 42) #[true, true, true, true, true, true, true, true, true, false, true, true, true, false, false] rfl rfl (one_of HT_.out (by kernel_rfl)) (by decide) (fun K hK => ?_)
         refine value_ (w1 := ?_) (v := ?_) (by rfl) rfl ?_ ?_
         rotate_left 2
         ·go_simp
          constructor
          ·rfl
          ·rfl
         refine hK.out _ _ trivial (fun hHeld => ?_)
         clear hK K
         refine norm_ (a' := ?_) ?_ ?_
         rotate_left
         ·show Act.put _ (some 42) _ = _
          simp only [Act.put, List.setIfInBounds_toArray, List.set_cons_zero, List.set_cons_succ, i64_w, i32_w]
          rfl
         refine one_ (i := 9) (N := some 43) #[true, true, true, true, true, true, true, true, true, true, true, true, true, false, false] rfl rfl (one_of HT_.out (by kernel_rfl)) (by decide) (fun K hK => ?_)
         refine Kd.R_append_step (Kd.int .u8) w.heap.size (by rfl) (.tmp 38) (.tmp 42) 22 5 (.int .u8 0) 1 rfl Tryd.underlying22 info5 rfl (by decide) (by omega) v402 y401 ((t404) % 256) [.int .u8 ((t404) % 256)] (fun _ => True) (fun _ => False) rfl rfl ?aP (fun _ hk => hk.elim) ?aF ?aO (Below.refl _ _) ?aS ?aL ?_
         (case aP => exact rfl)
         (case aF => exact (fun _ _ => trivial))
         (case aO => exact Z14)
         (case aS => exact (keep_size (w := w) (g := g) (row := none) Z39))
         (case aL => have := LMc32.out; omega)
         intro v407 w45 ho hb hg hat
         rw [← Ny406.out] at ho
         have n0_ := Aside0.mk (IsS64.grown Z41 hg (IsS64.own_ne HI0.out HO403.out (by decide)))
         have n1_ := Aside0.mk (below_weaken Z57 HL.out hb)
         have n2_ := Aside0.mk (KeepBut.trans Z39 (KeepBut.of_grown hg g) (Kd.R_base2 HO403.out))
         have n3_ := Aside0.mk (ho)
         clear HI0
         clear HB
         clear HK
         clear HO403
         have HI0 := n0_
         have HB := n1_
         have HK := n2_
         have HO408 := n3_
         clear n0_ n1_ n2_ n3_
         clear ho hb hg hat
         refine hK.out _ _ trivial (fun hHeld => ?_)
         clear hK K
         refine norm_ (a' := ?_) ?_ ?_
         rotate_left
         ·show Act.put _ (some 43) _ = _
          simp only [Act.put, List.setIfInBounds_toArray, List.set_cons_zero, List.set_cons_succ, i64_w, i32_w]
          rfl
         refine one_ (i := 13) (N := some 47) #[true, true, true, true, true, true, true, true, true, true, true, true, true, true, false] rfl rfl (one_of HT_.out (by kernel_rfl)) (by decide) (fun K hK => ?_)
         refine Kd.R_append_rows_step (Kd.int .u8) w.heap.size (by rfl) (.tmp 43) (.tmp 46) 22 5 (.int .u8 0) 1 rfl Tryd.underlying22 info5 rfl (by decide) (by omega) v407 y406 (l1.drop (t382 : Int).toNat) _ _ _ (fun _ => True) (fun _ => False) rfl rfl ?aO ?aR (fun _ _ h => h) (fun _ h => h.elim) ?aF (Below.refl _ _) ?aS ?aL ?_
         (case aR => first | (rw [← show (l1.drop (t382 : Int).toNat).length = (l1.length - t382.toNat) from List.length_drop]; exact Kd.C_keep 0 HR409.out Z39 hf409) | (exact Kd.C_keep 0 HR409.out Z39 hf409))
         (case aF => exact (fun _ _ => trivial))
         (case aO => exact (by (with_reducible repeat (first | apply Kd.R_alloc | apply Kd.R_drewN | apply Kd.R_drew)); exact HO408.out))
         (case aS => exact (keep_size (w := w) (g := g) (row := none) Z39))
         (case aL => have := LMc35.out; have hlx_ := (show (l1.drop (t382 : Int).toNat).length = (l1.length - t382.toNat) from List.length_drop); omega)
         intro v411 w46 ho hb hg hat
         rw [← Ny410.out] at ho
         have n0_ := Aside0.mk (IsS64.grown Z41 hg (IsS64.own_ne HI0.out HO408.out (by decide)))
         have n1_ := Aside0.mk (below_weaken Z57 HL.out hb)
         have n2_ := Aside0.mk (KeepBut.trans Z39 (KeepBut.of_grown hg g) (Kd.R_base2 HO408.out))
         have n3_ := Aside0.mk (ho)
         clear HI0
         clear HB
         clear HK
         clear HO408
         have HI0 := n0_
         have HB := n1_
         have HK := n2_
         have HO412 := n3_
         clear n0_ n1_ n2_ n3_
         clear ho hb hg hat
         refine hK.out _ _ trivial (fun hHeld => ?_)
         clear hK K
         refine norm_ (a' := ?_) ?_ ?_
         rotate_left
         ·show Act.put _ (some 47) _ = _
          simp only [Act.put, List.setIfInBounds_toArray, List.set_cons_zero, List.set_cons_succ, i64_w, i32_w]
          rfl
         refine pure_ (i := 14) (N := some 4) (v := ?_) (a' := ?_) #[true, true, true, true, true, true, true, true, true, true, true, true, true, true, true] rfl rfl (any_of HT_.out (by kernel_rfl)) (fun _ _ _ h => h) (Or.inl ⟨by rfl, ?_⟩) ?_ ?_
         rotate_left
         ·intro w'
          go_simp
          with_reducible rfl
         rotate_left
         ·simp only [Act.put, List.setIfInBounds_toArray, List.set_cons_zero, List.set_cons_succ, i64_w, i32_w]
          rfl
         refine done_ (done_of HT_.out (by kernel_rfl)) ?_
         try go_wp2
         go_ret
         exact ⟨_, by first | rfl | (simp [errW_none, errW_some] <;> rfl) | (simp [*, errW_none, errW_some] <;> rfl), by (with_reducible repeat (first | apply Kd.R_alloc | apply Kd.R_drewN | apply Kd.R_drew)); exact HO412.out, by repeat (first | (with_reducible first | exact HI0.out | apply IsS64.alloc | apply IsS64.drewN | apply IsS64.drew | apply IsS64.set_1) | exact HI0.out), by repeat (first | (with_reducible first | exact HB.out | apply below_alloc | apply pw_below_drewN | apply below_drew1 | refine below_set ?_ (IsS64.ge HI0.out)) | exact HB.out), by repeat (first | (with_reducible first | exact HK.out | apply KeepBut.set_ | apply keep_drewN | apply keep_drew | apply keep_alloc) | exact HK.out)⟩
        ·rw [if_neg c35] at H
         exact absurd H (by simp)
       ·rw [if_neg c32] at H
        exact absurd H (by simp)
      ·rw [if_neg c30] at H
       exact absurd H (by simp)
     ·rw [if_neg c29] at H
      exact absurd H (by simp)
    ·rw [if_neg c28] at H
     exact absurd H (by simp)
   ·rw [if_neg c27] at H
    have c27b0 : (t384 == 1) = false := beq_eq_false_iff_ne.mpr c27
    have c27b1 : (t384 != 1) = true := bne_iff_ne.mpr c27
    obtain ⟨y413, hy413⟩ : ∃ y_ : List Int, y_ = (([] : List Int)) := ⟨_, rfl⟩
    replace H : (if y413.length + l1.length < 140737488355328 then ((some (y413 ++ l1 : List Int)).bind fun y416 => (if 0 ≤ t382 then (if t382 < (y416.length : Int) then ((spec_l20Rd_pick.f k s0_0 t385 255).bind fun bt420 => (some ((y416.set (t382 : Int).toNat (Go.bits .xor .u8 (rd y416 t382) ((wrap64 (1 + bt420.1)) % 256))), bt420.2))) else (none)) else (none))) else (none)) = some (r1, r2) := by first | (rw [hy413]; with_reducible exact H) | (have H2_ := (Option.bind_some _ _).symm.trans H; rw [hy413]; with_reducible exact H2_) | (have H2_ := (Option.bind_some _ _).symm.trans H; with_reducible exact H2_) | with_reducible exact H | (rw [hy413]; exact H) | exact H
    have Ny413 := Aside0.mk hy413
    clear hy413
    by_cases c47 : y413.length + l1.length < 140737488355328
    ·rw [if_pos c47] at H
     have LMc47 := Aside0.mk c47
     clear c47
     obtain ⟨y416, hy416⟩ : ∃ y_ : List Int, y_ = (y413 ++ l1) := ⟨_, rfl⟩
     replace H : (if 0 ≤ t382 then (if t382 < (y416.length : Int) then ((spec_l20Rd_pick.f k s0_0 t385 255).bind fun bt420 => (some ((y416.set (t382 : Int).toNat (Go.bits .xor .u8 (rd y416 t382) ((wrap64 (1 + bt420.1)) % 256))), bt420.2))) else (none)) else (none)) = some (r1, r2) := by first | (rw [hy416]; with_reducible exact H) | (have H2_ := (Option.bind_some _ _).symm.trans H; rw [hy416]; with_reducible exact H2_) | (have H2_ := (Option.bind_some _ _).symm.trans H; with_reducible exact H2_) | with_reducible exact H | (rw [hy416]; exact H) | exact H
     have Ny416 := Aside0.mk hy416
     clear hy416
     by_cases c48 : 0 ≤ t382
     ·rw [if_pos c48] at H
      have c48b0 : decide (0 ≤ t382) = true := decide_eq_true c48
      clear c48
      by_cases c49 : t382 < (y416.length : Int)
      ·rw [if_pos c49] at H
       have c49b0 : decide (t382 < (y416.length : Int)) = true := decide_eq_true c49
       clear c49
       replace H := Option.bind_eq_some_iff.mp H
       obtain ⟨⟨t420, t421⟩, A500, H⟩ := H
       replace H : (some ((y416.set (t382 : Int).toNat (Go.bits .xor .u8 (rd y416 t382) ((wrap64 (1 + t420)) % 256))), t421)) = some (r1, r2) := H
       have A50 := Aside0.mk A500
       clear A500
       obtain ⟨y422, hy422⟩ : ∃ y_ : List Int, y_ = (y416.set (t382 : Int).toNat (Go.bits .xor .u8 (rd y416 t382) ((wrap64 (1 + t420)) % 256))) := ⟨_, rfl⟩
       replace H : (some (y422, t421)) = some (r1, r2) := by first | (rw [hy422]; with_reducible exact H) | (have H2_ := (Option.bind_some _ _).symm.trans H; rw [hy422]; with_reducible exact H2_) | (have H2_ := (Option.bind_some _ _).symm.trans H; with_reducible exact H2_) | with_reducible exact H | (rw [hy422]; exact H) | exact H
       have Ny422 := Aside0.mk hy422
       clear hy422
       simp only [Option.some.injEq, Prod.mk.injEq] at H
       obtain ⟨rfl, rfl⟩ := H
       go_enter Tryd.func39, Tryd.ntmps39
       try go_wp2_with (first | ((with_reducible refine gate_callee (f := 38) rfl ?_); refine goesL_ (some 17) rfl rfl Tryd.func38 (by kernel_rfl) rfl #[.pointer (some ⟨g, 0, none⟩), .int .i64 (l1.length : Int)] rfl Z37 ?_; (with_reducible refine (spec_l20Rd_pick.calls k g s0_0 s0_1 (l1.length : Int) t382 t383 w0 _ ?side1 ?side2 A8.out).mono ?_); (case side1 => exact Z40); (case side2 => exact Z55); rintro e w52 ⟨rfl, hi, hb, hk⟩; refine ⟨_, rfl, ?_⟩; have n0_ := Aside0.mk (KeepBut.trans Z39 hk (.inl rfl)); have n1_ := Aside0.mk (hb); have n2_ := Aside0.mk (hi); clear HK; clear HB; clear HI0; have HK := n0_; have HB := n1_; have HI0 := n2_; clear n0_ n1_ n2_; (try clear hb); (try clear hk); (try clear hi)) | ((with_reducible refine gate_callee (f := 38) rfl ?_); refine goesL_ (some 19) rfl rfl Tryd.func38 (by kernel_rfl) rfl #[.pointer (some ⟨g, 0, none⟩), .int .i64 3] rfl Z37 ?_; (with_reducible refine (spec_l20Rd_pick.calls k g s0_0 t383 3 t384 t385 w0 _ ?side1 ?side2 A9.out).mono ?_); (case side1 => exact Z40); (case side2 => exact Z55); rintro e w53 ⟨rfl, hi, hb, hk⟩; refine ⟨_, rfl, ?_⟩; have n0_ := Aside0.mk (KeepBut.trans Z39 hk (.inl rfl)); have n1_ := Aside0.mk (hb); have n2_ := Aside0.mk (hi); clear HK; clear HB; clear HI0; have HK := n0_; have HB := n1_; have HI0 := n2_; clear n0_ n1_ n2_; (try clear hb); (try clear hk); (try clear hi)) | ((with_reducible refine gate_dst (N := 48) rfl ?_); refine Kd.R_lit (Kd.int .u8) _ 5 ?hg (N := 48) ?hd (xs := ([] : List Int)) (inner := []) (ok := fun _ => True) (okp := fun _ => True) ?hr ?hp (fun _ hk => hk) trivial (Below.refl _ _) (Nat.le_refl _) (by simp) ?_; (case hd => rfl); (case hg => rfl); (case hr => first | (go_simp; done) | (go_simp; rfl)); (case hp => exact (Reps.none _ _)); intro v414 w54 ho55 hb hg_ hnew_; clear hg_ hnew_; (first | rw [← Ny413.out] at ho55 | (simp only [Int.reduceToNat] at ho55; rw [← Ny413.out] at ho55)); have n0_ := Aside0.mk (Kd.R_lower ho55 (keep_size (w := w) (g := g) (row := none) Z39)); have n1_ := Aside0.mk (IsS64.below Z41 hb); have n2_ := Aside0.mk (KeepBut.trans Z39 (KeepBut.of_below hb g none) (.inl rfl)); have n3_ := Aside0.mk (below_step Z57 hb); clear HI0; clear HK; clear HB; have HO415 := n0_; have HI0 := n1_; have HK := n2_; have HB := n3_; clear n0_ n1_ n2_ n3_; clear hb ho55) | ((with_reducible refine gate_builtin (b := .append) (xs := #[.tmp 48, .tmp 49]) rfl ?_); at_builtin; refine Kd.R_append_rows (Kd.int .u8) w.heap.size rfl (.tmp 48) (.tmp 49) 22 5 (.int .u8 0) 1 rfl Tryd.underlying22 info5 rfl (by decide) (by omega) v414 y413 l1 _ _ _ (fun _ => True) (fun _ => False) rfl rfl ?aO ?aR (fun _ _ h => h) (fun _ h => h.elim) ?aF (Below.refl _ _) ?aS ?aL ?_; (case aR => exact Kd.C_keep 0 HR1.out Z39 hf1); (case aF => exact (fun _ _ => trivial)); (case aO => exact (by (with_reducible repeat (first | apply Kd.R_alloc | apply Kd.R_drewN | apply Kd.R_drew)); exact HO415.out)); (case aS => exact (keep_size (w := w) (g := g) (row := none) Z39)); (case aL => have := LMc47.out; omega); intro v417 w56 ho hb hg hat; rw [← Ny416.out] at ho; have n0_ := Aside0.mk (IsS64.grown Z41 hg (IsS64.own_ne HI0.out HO415.out (by decide))); have n1_ := Aside0.mk (below_weaken Z57 HL.out hb); have n2_ := Aside0.mk (KeepBut.trans Z39 (KeepBut.of_grown hg g) (Kd.R_base2 HO415.out)); have n3_ := Aside0.mk (ho); clear HI0; clear HB; clear HK; clear HO415; have HI0 := n0_; have HB := n1_; have HK := n2_; have HO418 := n3_; clear n0_ n1_ n2_ n3_; clear ho hb hg hat))
       have n0_ := Aside0.mk (Kd.R_drew HO418.out)
       have n1_ := Aside0.mk (IsS64.drew HI0.out)
       have n2_ := Aside0.mk (keep_drew HK.out)
       have n3_ := Aside0.mk (below_drew1 HB.out)
       clear HO418
       clear HI0
       clear HK
       clear HB
       have HO418 := n0_
       have HI0 := n1_
       have HK := n2_
       have HB := n3_
       clear n0_ n1_ n2_ n3_
       obtain ⟨Ao58, co58, eo58⟩ := Kd.R_slice HO418.out
       (first | subst eo58 | (injection eo58 with f1_ f2_ f3_; have f4_ := f1_.symm; have f5_ := f3_.symm; clear f1_ f2_ f3_; subst f4_; subst f5_))
       have p419 : 0 ≤ (t382 : Int) := of_decide_eq_true Z2
       have q419 : t382 < (y416.length : Int) := of_decide_eq_true Z2
       obtain ⟨ad419, e419, hx419_0⟩ := Kd.at_int (Kd.R_reads' HO418.out).2.2 t382 p419 q419
       cases e419
       replace p419 := eq_true p419
       replace q419 := eq_true q419
       refine start_ (n := 13) (S := fun w' => w'.cell? (ad419.add (t382).toNat) = some (.int .u8 (rd y416 t382))) (ds := [12]) #[false, false, false, false, false, false, false, false, false, false, false, false, false] (by kernel_rfl) rfl rfl (hx419_0) (fun hHeld => ?_); refine with_tabW spec_l20Turn.tab10 spec_l20Turn.bits10 (fun HT_ HW_ => ?_)
       generalize w56.drew = w57 at HO418 HI0 HK HB hx419_0 hHeld ⊢
       refine pure_ (i := 0) (N := some 51) (v := ?_) (a' := ?_) #[true, false, false, false, false, false, false, false, false, false, false, false, false] rfl rfl (any_of HT_.out (by kernel_rfl)) (fun _ _ _ h => h) (Or.inl ⟨by rfl, ?_⟩) ?_ ?_
       rotate_left
       ·intro w'
        go_simp
        with_reducible rfl
       rotate_left
       ·simp only [Act.put, List.setIfInBounds_toArray, List.set_cons_zero, List.set_cons_succ, i64_w, i32_w]
        rfl
       refine pure_ (i := 1) (N := some 52) (v := ?_) (a' := ?_) #[true, true, false, false, false, false, false, false, false, false, false, false, false] rfl rfl (any_of HT_.out (by kernel_rfl)) (fun _ _ _ h => h) (Or.inl ⟨by rfl, ?_⟩) ?_ ?_
       rotate_left
       ·intro w'
        go_simp
        with_reducible rfl
       rotate_left
       ·simp only [Act.put, List.setIfInBounds_toArray, List.set_cons_zero, List.set_cons_succ, i64_w, i32_w]
        rfl
       refine pure_ (i := 2) (N := some 53) (v := ?_) (a' := ?_) #[true, true, true, false, false, false, false, false, false, false, false, false, false] rfl rfl (any_of HT_.out (by kernel_rfl)) (fun _ _ _ h => h) (Or.inl ⟨by rfl, ?_⟩) ?_ ?_
       rotate_left
       ·intro w'
        go_simp
        with_reducible rfl
       rotate_left
       ·simp only [Act.put, List.setIfInBounds_toArray, List.set_cons_zero, List.set_cons_succ, i64_w, i32_w]
        rfl
       refine pure_ (i := 3) (N := some 54) (v := ?_) (a' := ?_) #[true, true, true, true, false, false, false, false, false, false, false, false, false] rfl rfl (any_of HT_.out (by kernel_rfl)) (fun _ _ _ h => h) (Or.inl ⟨by rfl, ?_⟩) ?_ ?_
       rotate_left
       ·intro w'
        go_simp
        with_reducible rfl
       rotate_left
       ·simp only [Act.put, List.setIfInBounds_toArray, List.set_cons_zero, List.set_cons_succ, i64_w, i32_w]
        rfl
       refine pure_ (i := 4) (N := some 55) (v := ?_) (a' := ?_) #[true, true, true, true, true, false, false, false, false, false, false, false, false] rfl rfl (any_of HT_.out (by kernel_rfl)) (fun _ _ _ h => h) (Or.inl ⟨by rfl, ?_⟩) ?_ ?_
       rotate_left
       ·intro w'
        go_simp
        with_reducible rfl
       rotate_left
       ·simp only [Act.put, List.setIfInBounds_toArray, List.set_cons_zero, List.set_cons_succ, i64_w, i32_w]
        rfl
       refine pure_ (i := 6) (N := some 57) (v := ?_) (a' := ?_) #[true, true, true, true, true, false, true, false, false, false, false, false, false] rfl rfl (any_of HT_.out (by kernel_rfl)) (fun _ _ _ h => h) (Or.inl ⟨by rfl, ?_⟩) ?_ ?_
       rotate_left
       ·intro w'
        go_simp
        with_reducible rfl
       rotate_left
       ·simp only [Act.put, List.setIfInBounds_toArray, List.set_cons_zero, List.set_cons_succ, i64_w, i32_w]
        rfl
       refine take_ (i := 5) (N := some 56) (v := ?_) (a' := ?_) #[true, true, true, true, true, true, true, false, false, false, false, false, false] rfl rfl (take_ofW HT_.out HW_.out (by kernel_rfl)) (fun _ _ _ h => h) (Or.inl ⟨by rfl, ?_⟩) hHeld ?_ ?_
       rotate_left
       ·intro w' s0
        go_simp
        with_reducible rfl
       rotate_left
       ·simp only [Act.put, List.setIfInBounds_toArray, List.set_cons_zero, List.set_cons_succ, i64_w, i32_w]
        rfl
       refine one_ (i := 7) (N := some 58) #[true, true, true, true, true, true, true, true, false, false, false, false, false] rfl rfl (one_of HT_.out (by kernel_rfl)) (by decide) (fun K hK => ?_)
       refine goes_ Tryd.func38 (by kernel_rfl) rfl #[.pointer (some ⟨g, 0, none⟩), .int .i64 255] (by rfl) rfl rfl Z37 ?_
       with_reducible refine (spec_l20Rd_pick.calls k g s0_0 t385 255 t420 t421 w0 _ ?side1 ?side2 A50.out).mono ?_
       (case side1 => exact Z40)
       (case side2 => exact Z55)
       rintro e w59 ⟨rfl, hi, hb, hk⟩
       have HS0_ := keep_cell hk (hHeld) (by first | (rw [add_block]; exact Kd.own_blk (IsS64.own_ne HI0.out HO418.out (by decide))) | (show (Addr.add _ _).block ≠ _; rw [add_block]; exact Kd.own_blk (IsS64.own_ne HI0.out HO418.out (by decide))) | exact Kd.own_blk (IsS64.own_ne HI0.out HO418.out (by decide)))
       refine ⟨_, rfl, ?_⟩
       have n0_ := Aside0.mk (Kd.R_mono (Kd.R_keep (IsS64.apart (show IsS64 w0 _ g s0_0 t385 from by repeat (first | (with_reducible first | exact HI0.out | apply IsS64.alloc | apply IsS64.drewN | apply IsS64.drew | apply IsS64.set_1) | exact HI0.out)) (by (with_reducible repeat (first | apply Kd.R_alloc | apply Kd.R_drewN | apply Kd.R_drew)); exact HO418.out) (by decide)) hk (fun _ h => h.2)) (fun _ h => h.1))
       have n1_ := Aside0.mk (KeepBut.trans Z39 hk (.inl rfl))
       have n2_ := Aside0.mk (hb)
       have n3_ := Aside0.mk (hi)
       clear HO418
       clear HK
       clear HB
       clear HI0
       have HO418 := n0_
       have HK := n1_
       have HB := n2_
       have HI0 := n3_
       clear n0_ n1_ n2_ n3_
       (try clear hb)
       (try clear hb2)
       (try clear hk)
       (try clear hi)
       have p51 : 0 ≤ (t382 : Int) := of_decide_eq_true Z2
       have q51 : (t382 : Int) < ((y416.length : Int) : Int) := of_decide_eq_true Z2
       obtain ⟨go51, co51, eo51, gb51, gl51, cl51, HG51⟩ := Kd.R_form HO418.out (by omega)
       (first | cases eo51 | (injection eo51 with ea_ en_ ec_; (first | subst ea_ | (injection ea_ with ea_; subst ea_)); subst ec_; clear en_))
       have GB51 := Aside0.mk gb51
       have GG51 := Aside0.mk HG51
       clear gb51 gl51 HG51
       (first | simp only [add_plain] at hx419_0 | skip)
       obtain ⟨hx51_0, hf51_0⟩ := Kd.R_celln 0 HO418.out (t382 : Int) p51 q51
       replace p51 := eq_true p51
       replace q51 := eq_true q51
       have HN0_go51 := Aside0.mk (show g ≠ go51 from by have h_ := IsS64.own_ne HI0.out HO418.out (by decide); intro e_; exact h_ (by rw [e_]; rfl))
       have HP60 := Kd.R_putn HO418.out (t382 : Int) (Go.bits .xor .u8 (rd y416 t382) ((wrap64 (1 + t420)) % 256))
       rw [← Ny422.out] at HP60
       have HQ60 := Aside0.mk HP60
       clear HP60
       refine hK.out _ _ (HS0_) (fun hHeld => ?_)
       clear hK K
       refine norm_ (a' := ?_) ?_ ?_
       rotate_left
       ·show Act.put _ (some 58) _ = _
        simp only [Act.put, List.setIfInBounds_toArray, List.set_cons_zero, List.set_cons_succ, i64_w, i32_w]
        rfl
       refine pure_ (i := 8) (N := some 59) (v := ?_) (a' := ?_) #[true, true, true, true, true, true, true, true, true, false, false, false, false] rfl rfl (any_of HT_.out (by kernel_rfl)) (fun _ _ _ h => h) (Or.inl ⟨by rfl, ?_⟩) ?_ ?_
       rotate_left
       ·intro w'
        go_simp
        with_reducible rfl
       rotate_left
       ·simp only [Act.put, List.setIfInBounds_toArray, List.set_cons_zero, List.set_cons_succ, i64_w, i32_w]
        rfl
       refine pure_ (i := 9) (N := some 60) (v := ?_) (a' := ?_) #[true, true, true, true, true, true, true, true, true, true, false, false, false] rfl rfl (any_of HT_.out (by kernel_rfl)) (fun _ _ _ h => h) (Or.inl ⟨by rfl, ?_⟩) ?_ ?_
       rotate_left
       ·intro w'
        go_simp
        with_reducible rfl
       rotate_left
       ·simp only [Act.put, List.setIfInBounds_toArray, List.set_cons_zero, List.set_cons_succ, i64_w, i32_w]
        rfl
       refine pure_ (i := 10) (N := some 61) (v := ?_) (a' := ?_) #[true, true, true, true, true, true, true, true, true, true, true, false, false] rfl rfl (any_of HT_.out (by kernel_rfl)) (fun _ _ _ h => h) (Or.inl ⟨by rfl, ?_⟩) ?_ ?_
       rotate_left
       ·intro w'
        go_simp
        with_reducible rfl
       rotate_left
       ·simp only [Act.put, List.setIfInBounds_toArray, List.set_cons_zero, List.set_cons_succ, i64_w, i32_w]
        rfl
       refine pure_ (i := 11) (N := some 62) (v := ?_) (a' := ?_) #[true, true, true, true, true, true, true, true, true, true, true, true, false] rfl rfl (any_of HT_.out (by kernel_rfl)) (fun _ _ _ h => h) (Or.inl ⟨by rfl, ?_⟩) ?_ ?_
       rotate_left
       ·intro w'
        go_simp
        with_reducible rfl
       rotate_left
       ·simp only [Act.put, List.setIfInBounds_toArray, List.set_cons_zero, List.set_cons_succ, i64_w, i32_w]
        rfl
       refine last_ (i := 12) (N := none) #[true, true, true, true, true, true, true, true, true, true, true, true, true] rfl rfl (one_of HT_.out (by kernel_rfl)) (by decide) (fun K hK => ?_)
       refine skip_ (w1 := ?_) (by rfl) rfl ?_ ?_
       rotate_left
       ·go_simp
        rfl
       refine hK.out _ _ ?_
       clear hK K
       refine done_ (done_of HT_.out (by kernel_rfl)) ?_
       try go_wp2
       go_ret
       exact ⟨_, by first | rfl | (simp [errW_none, errW_some] <;> rfl) | (simp [*, errW_none, errW_some] <;> rfl), by (with_reducible repeat (first | apply Kd.R_alloc | apply Kd.R_drewN | apply Kd.R_drew)); exact HQ60.out, by repeat (first | (with_reducible first | exact HI0.out | apply IsS64.alloc | apply IsS64.drewN | apply IsS64.drew | apply IsS64.set_1 | refine IsS64.far ?_ HN0_go51.out _) | exact HI0.out), by repeat (first | (with_reducible first | exact HB.out | apply below_alloc | apply pw_below_drewN | apply below_drew1 | refine below_set ?_ (Nat.le_trans HL.out GB51.out) | refine below_set ?_ (IsS64.ge HI0.out)) | exact HB.out), by repeat (first | (with_reducible first | exact HK.out | apply KeepBut.set_ | apply keep_drewN | apply keep_drew | apply keep_alloc | refine keep_far ?_ GB51.out _) | exact HK.out)⟩
      ·rw [if_neg c49] at H
       exact absurd H (by simp)
     ·rw [if_neg c48] at H
      exact absurd H (by simp)
    ·rw [if_neg c47] at H
     exact absurd H (by simp)

end Go.Proofs.YtdfoelhpeeanlaaDoor.QFnSegRead
