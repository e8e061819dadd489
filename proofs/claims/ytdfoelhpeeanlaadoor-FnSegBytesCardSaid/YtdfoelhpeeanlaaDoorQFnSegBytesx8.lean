-- Laid by a program of this repo (wip/tools/sprint.py): print.py's functions and walks; the contracts named 'BY HAND' are proved by hand.
import Derived.Test.YtdfoelhpeeanlaaDoorQFnSegBytesx7
import Derived.Test.YtdfoelhpeeanlaaDoorQFnSegBytesx6
import Derived.Test.YtdfoelhpeeanlaaDoorQFnSegBytesx4
import Derived.Test.YtdfoelhpeeanlaaDoorQFnSegBytesx3
import Derived.Test.YtdfoelhpeeanlaaDoorQFnSegBytesx2
import Derived.Test.YtdfoelhpeeanlaaDoorQFnSegBytesx1
import Derived.Test.YtdfoelhpeeanlaaDoorQFnSegBytesx0
import Derived.Test.YtdfoelhpeeanlaaDoorQFnSegBytesx5
namespace Go.Proofs.YtdfoelhpeeanlaaDoor.QFnSegBytes
open Go.RowKit Go.Proofs.YtdfoelhpeeanlaaDoorW.PrintWords Go.Proofs.YtdfoelhpeeanlaaDoorW.PrintLast Go.Proofs.YtdfoelhpeeanlaaDoorW.PrintMore
attribute [local go_sem] max2_int min2_int max_two min_two max_three min_three max_four min_four   -- for this text's walks alone
set_option linter.unusedVariables false
set_option linter.unusedSimpArgs false

/-! ### spec_l20Turn: function 39 -/
def spec_l20Turn.f (k : Nat) (s0_0 : List Int) (s0_1 : Int) (l1 : List Int) : Option (List Int × Int) := if (l1.length : Int) = 0 then ((spec_l20Rd_pick.f k s0_0 s0_1 256).bind fun bt378 => (some ((([(bt378.1) % 256] : List Int)), bt378.2))) else ((spec_l20Rd_pick.f k s0_0 s0_1 (l1.length : Int)).bind fun bt383 => ((spec_l20Rd_pick.f k s0_0 bt383.2 3).bind fun bt385 => (if bt385.1 = 0 then ((some (([] : List Int) : List Int)).bind fun y387 => (if 0 ≤ bt383.1 then (if bt383.1 ≤ (l1.length : Int) then (if y387.length + (l1.take (bt383.1 : Int).toNat).length < 140737488355328 then ((some (y387 ++ (l1.take (bt383.1 : Int).toNat) : List Int)).bind fun y391 => (if 0 ≤ (wrap64 (bt383.1 + 1)) then (if (wrap64 (bt383.1 + 1)) ≤ (l1.length : Int) then (if y391.length + (l1.drop ((wrap64 (bt383.1 + 1)) : Int).toNat).length < 140737488355328 then (some ((y391 ++ (l1.drop ((wrap64 (bt383.1 + 1)) : Int).toNat)), bt385.2)) else (none)) else (none)) else (none))) else (none)) else (none)) else (none))) else (if bt385.1 = 1 then ((some (([] : List Int) : List Int)).bind fun y398 => (if 0 ≤ bt383.1 then (if bt383.1 ≤ (l1.length : Int) then (if y398.length + (l1.take (bt383.1 : Int).toNat).length < 140737488355328 then ((some (y398 ++ (l1.take (bt383.1 : Int).toNat) : List Int)).bind fun y402 => ((spec_l20Rd_pick.f k s0_0 bt385.2 9).bind fun bt405 => (if y402.length < 140737488355328 then ((some (y402 ++ [(bt405.1) % 256] : List Int)).bind fun y407 => (if y407.length + (l1.drop (bt383.1 : Int).toNat).length < 140737488355328 then (some ((y407 ++ (l1.drop (bt383.1 : Int).toNat)), bt405.2)) else (none))) else (none)))) else (none)) else (none)) else (none))) else ((some (([] : List Int) : List Int)).bind fun y414 => (if y414.length + l1.length < 140737488355328 then ((some (y414 ++ l1 : List Int)).bind fun y417 => (if 0 ≤ bt383.1 then (if bt383.1 < (y417.length : Int) then ((spec_l20Rd_pick.f k s0_0 bt385.2 255).bind fun bt421 => (some ((y417.set (bt383.1 : Int).toNat (Go.bits .xor .u8 (rd y417 bt383.1) ((wrap64 (1 + bt421.1)) % 256))), bt421.2))) else (none)) else (none))) else (none)))))))
theorem spec_l20Turn.mono : ∀ a0 a1 a2 k, LeO (spec_l20Turn.f k a0 a1 a2) (spec_l20Turn.f (k + 1) a0 a1 a2) := by
 intro a0 a1 a2 k
 unfold spec_l20Turn.f
 repeat' first
   | (with_reducible exact spec_l20Rd_pick.mono _ _ _ _)
   | (with_reducible exact LeO.refl _)
   | (with_reducible exact LeO.none _)
   | (with_reducible refine LeO.ite ?_ ?_)
   | (with_reducible refine LeO.bind ?_ (fun _ => ?_))
   | exact spec_l20Rd_pick.mono _ _ _ _
   | exact LeO.none _
   | refine LeO.ite ?_ ?_
   | refine LeO.bind ?_ (fun _ => ?_)
def spec_l20Turn.T6 : Bool × List (List Nat × List Nat) := (true, [([], []), ([], []), ([], []), ([1, 2], [1, 2]), ([0, 3], [0, 3]), ([], []), ([], []), ([6], [6]), ([5, 7], [5, 7]), ([4, 8, 4], [4, 8]), ([9, 9, 0, 1, 2, 3, 4, 5, 6, 7, 8, 9], [9])])
def spec_l20Turn.B6 : List Nat := [0, 0, 0, 6, 15, 0, 0, 64, 224, 511, 1023]
theorem spec_l20Turn.tab6 : rtab .any (opsOf Tryd.f39 6) = spec_l20Turn.T6 := by kernel_rfl
theorem spec_l20Turn.bits6 : waitsOk spec_l20Turn.T6.2 spec_l20Turn.B6 = true := by kernel_rfl
def spec_l20Turn.T8 : Bool × List (List Nat × List Nat) := (true, [([], []), ([], []), ([], []), ([1, 2], [1, 2]), ([0, 3], [0, 3]), ([], []), ([5, 4], [5]), ([6], [6]), ([7], [7]), ([4, 8, 6], [4, 8]), ([], []), ([], []), ([10, 11], [10, 11]), ([9, 12, 9], [9, 12]), ([13, 13, 0, 1, 2, 3, 4, 5, 6, 7, 8, 9, 10, 11, 12, 13], [13])])
def spec_l20Turn.B8 : List Nat := [0, 0, 0, 6, 15, 0, 63, 127, 255, 511, 0, 0, 3072, 8191, 16383]
theorem spec_l20Turn.tab8 : rtab .any (opsOf Tryd.f39 8) = spec_l20Turn.T8 := by kernel_rfl
theorem spec_l20Turn.bits8 : waitsOk spec_l20Turn.T8.2 spec_l20Turn.B8 = true := by kernel_rfl
def spec_l20Turn.T10 : Bool × List (List Nat × List Nat) := (true, [([], []), ([], []), ([], []), ([], []), ([2, 3], [2, 3]), ([4], [4]), ([], []), ([6], [6]), ([7], [7]), ([8], [8]), ([5, 9], [5, 9]), ([0, 1, 0, 1, 2, 3, 4, 5, 6, 7, 8, 9, 10], [0, 1]), ([11, 10, 7, 0, 1, 2, 3, 4, 5, 6, 7, 8, 9, 10], [10, 11])])
def spec_l20Turn.B10 : List Nat := [0, 0, 0, 0, 12, 28, 0, 64, 192, 448, 1020, 2047, 4095]
theorem spec_l20Turn.tab10 : rtab .any (opsOf Tryd.f39 10) = spec_l20Turn.T10 := by kernel_rfl
theorem spec_l20Turn.bits10 : waitsOk spec_l20Turn.T10.2 spec_l20Turn.B10 = true := by kernel_rfl
set_option maxHeartbeats 8000000 in
set_option maxRecDepth 100000 in
theorem spec_l20Turn.calls (k : Nat) (g : Nat) (s0_0 : List Int) (s0_1 : Int) (A1 : Option Addr) (c1 : Nat) (l1 : List Int) (r1 : List Int) (r2 : Int) (w0 w : World) (hI : IsS64 w0 w g s0_0 s0_1) (hB : Below w0.heap.size w0 w) (hr1 : Kd.C (Kd.int .u8) w A1 l1.length l1) (hc1 : l1.length ≤ c1) (hf1 : ∀ ad, A1 = some ad → 0 < l1.length → ad.block ≠ g) (h : spec_l20Turn.f k s0_0 s0_1 l1 = some (r1, r2)) :
  Calls Tryd.prog 39 #[.pointer (some ⟨g, 0, none⟩), .slice A1 l1.length c1] w fun e w' => ∃ v0_ : Value, e = .returned (v0_) ∧ Kd.R (Kd.int .u8) 5 w' w.heap.size (fun _ => True) v0_ r1 ∧ IsS64 w0 w' g s0_0 r2 ∧ Below w0.heap.size w0 w' ∧ KeepBut w w' g none := by
 have HR1 := Aside0.mk hr1
 have HC1 := Aside0.mk hc1
 clear hr1 hc1
 have HI0 := Aside0.mk hI
 have HK := Aside0.mk (KeepBut.refl w g none)
 have HL := Aside0.mk hB.size
 clear hI
 have HW0 := Aside0.mk hB.size
 have HB := Aside0.mk hB
 clear hB
 have H : (if (l1.length : Int) = 0 then ((spec_l20Rd_pick.f k s0_0 s0_1 256).bind fun bt378 => (some ((([(bt378.1) % 256] : List Int)), bt378.2))) else ((spec_l20Rd_pick.f k s0_0 s0_1 (l1.length : Int)).bind fun bt383 => ((spec_l20Rd_pick.f k s0_0 bt383.2 3).bind fun bt385 => (if bt385.1 = 0 then ((some (([] : List Int) : List Int)).bind fun y387 => (if 0 ≤ bt383.1 then (if bt383.1 ≤ (l1.length : Int) then (if y387.length + (l1.take (bt383.1 : Int).toNat).length < 140737488355328 then ((some (y387 ++ (l1.take (bt383.1 : Int).toNat) : List Int)).bind fun y391 => (if 0 ≤ (wrap64 (bt383.1 + 1)) then (if (wrap64 (bt383.1 + 1)) ≤ (l1.length : Int) then (if y391.length + (l1.drop ((wrap64 (bt383.1 + 1)) : Int).toNat).length < 140737488355328 then (some ((y391 ++ (l1.drop ((wrap64 (bt383.1 + 1)) : Int).toNat)), bt385.2)) else (none)) else (none)) else (none))) else (none)) else (none)) else (none))) else (if bt385.1 = 1 then ((some (([] : List Int) : List Int)).bind fun y398 => (if 0 ≤ bt383.1 then (if bt383.1 ≤ (l1.length : Int) then (if y398.length + (l1.take (bt383.1 : Int).toNat).length < 140737488355328 then ((some (y398 ++ (l1.take (bt383.1 : Int).toNat) : List Int)).bind fun y402 => ((spec_l20Rd_pick.f k s0_0 bt385.2 9).bind fun bt405 => (if y402.length < 140737488355328 then ((some (y402 ++ [(bt405.1) % 256] : List Int)).bind fun y407 => (if y407.length + (l1.drop (bt383.1 : Int).toNat).length < 140737488355328 then (some ((y407 ++ (l1.drop (bt383.1 : Int).toNat)), bt405.2)) else (none))) else (none)))) else (none)) else (none)) else (none))) else ((some (([] : List Int) : List Int)).bind fun y414 => (if y414.length + l1.length < 140737488355328 then ((some (y414 ++ l1 : List Int)).bind fun y417 => (if 0 ≤ bt383.1 then (if bt383.1 < (y417.length : Int) then ((spec_l20Rd_pick.f k s0_0 bt385.2 255).bind fun bt421 => (some ((y417.set (bt383.1 : Int).toNat (Go.bits .xor .u8 (rd y417 bt383.1) ((wrap64 (1 + bt421.1)) % 256))), bt421.2))) else (none)) else (none))) else (none)))))))) = some (r1, r2) := h
 clear h
 by_cases c3 : (l1.length : Int) = 0
 ·rw [if_pos c3] at H
  have c3b0 : ((l1.length : Int) == 0) = true := beq_iff_eq.mpr c3
  have c3b1 : ((l1.length : Int) != 0) = false := bne_eq_false_iff_eq.mpr c3
  clear c3
  replace H := Option.bind_eq_some_iff.mp H
  obtain ⟨⟨t378, t379⟩, A40, H⟩ := H
  replace H : (some ((([(t378) % 256] : List Int)), t379)) = some (r1, r2) := H
  have A4 := Aside0.mk A40
  clear A40
  obtain ⟨y380, hy380⟩ : ∃ y_ : List Int, y_ = (([(t378) % 256] : List Int)) := ⟨_, rfl⟩
  replace H : (some (y380, t379)) = some (r1, r2) := by first | (rw [hy380]; with_reducible exact H) | (have H2_ := (Option.bind_some _ _).symm.trans H; rw [hy380]; with_reducible exact H2_) | (have H2_ := (Option.bind_some _ _).symm.trans H; with_reducible exact H2_) | with_reducible exact H | (rw [hy380]; exact H) | exact H
  have Ny380 := Aside0.mk hy380
  clear hy380
  simp only [Option.some.injEq, Prod.mk.injEq] at H
  obtain ⟨rfl, rfl⟩ := H
  go_enter Tryd.func39, Tryd.ntmps39
  go_wp2_with (first | ((with_reducible refine gate_callee (f := 38) rfl ?_); refine goesL_ (some 11) rfl rfl Tryd.func38 (by kernel_rfl) rfl #[.pointer (some ⟨g, 0, none⟩), .int .i64 256] rfl Z44 ?_; (with_reducible refine (spec_l20Rd_pick.calls k g s0_0 s0_1 256 t378 t379 w0 _ ?side1 ?side2 A4.out).mono ?_); (case side1 => exact Z47); (case side2 => exact Z61); rintro e w5 ⟨rfl, hi, hb, hk⟩; refine ⟨_, rfl, ?_⟩; have n0_ := Aside0.mk (KeepBut.trans Z46 hk (.inl rfl)); have n1_ := Aside0.mk (hb); have n2_ := Aside0.mk (hi); clear HK; clear HB; clear HI0; have HK := n0_; have HB := n1_; have HI0 := n2_; clear n0_ n1_ n2_; (try clear hb); (try clear hk); (try clear hi)) | ((with_reducible refine gate_dst (N := 13) rfl ?_); refine Kd.R_lit (Kd.int .u8) _ 5 ?hg (N := 13) ?hd (xs := ([(t378) % 256] : List Int)) (inner := [.int .u8 ((t378) % 256)]) (ok := fun _ => True) (okp := fun _ => True) ?hr ?hp (fun _ hk => hk) trivial (Below.refl _ _) (Nat.le_refl _) (by simp) ?_; (case hd => rfl); (case hg => rfl); (case hr => first | (go_simp; done) | (go_simp; rfl)); (case hp => exact (Reps.one (show Kd.M (Kd.int .u8) _ _ _ ((t378) % 256) [.int .u8 ((t378) % 256)] from rfl) (Reps.none _ _))); intro v381 w6 ho7 hb hg_ hnew_; clear hg_ hnew_; (first | rw [← Ny380.out] at ho7 | (simp only [Int.reduceToNat] at ho7; rw [← Ny380.out] at ho7)); have n0_ := Aside0.mk (Kd.R_lower ho7 (keep_size (w := w) (g := g) (row := none) Z46)); have n1_ := Aside0.mk (IsS64.below Z48 hb); have n2_ := Aside0.mk (KeepBut.trans Z46 (KeepBut.of_below hb g none) (.inl rfl)); have n3_ := Aside0.mk (below_step Z67 hb); clear HI0; clear HK; clear HB; have HO382 := n0_; have HI0 := n1_; have HK := n2_; have HB := n3_; clear n0_ n1_ n2_ n3_; clear hb ho7))
  go_ret
  exact ⟨_, by first | rfl | (simp [errW_none, errW_some] <;> rfl) | (simp [*, errW_none, errW_some] <;> rfl), by (with_reducible repeat (first | apply Kd.R_alloc | apply Kd.R_drewN | apply Kd.R_drew)); exact HO382.out, by repeat (first | (with_reducible first | exact HI0.out | apply IsS64.alloc | apply IsS64.drewN | apply IsS64.drew | apply IsS64.set_1) | exact HI0.out), by repeat (first | (with_reducible first | exact HB.out | apply below_alloc | apply pw_below_drewN | apply below_drew1 | refine below_set ?_ (IsS64.ge HI0.out)) | exact HB.out), by repeat (first | (with_reducible first | exact HK.out | apply KeepBut.set_ | apply keep_drewN | apply keep_drew | apply keep_alloc) | exact HK.out)⟩
 ·rw [if_neg c3] at H
  have c3b0 : ((l1.length : Int) == 0) = false := beq_eq_false_iff_ne.mpr c3
  have c3b1 : ((l1.length : Int) != 0) = true := bne_iff_ne.mpr c3
  have c3b2 : ¬ (l1 = []) := fun h_ => c3 (by rw [h_]; rfl)
  replace H := Option.bind_eq_some_iff.mp H
  obtain ⟨⟨t383, t384⟩, A80, H⟩ := H
  replace H : ((spec_l20Rd_pick.f k s0_0 t384 3).bind fun bt385 => (if bt385.1 = 0 then ((some (([] : List Int) : List Int)).bind fun y387 => (if 0 ≤ t383 then (if t383 ≤ (l1.length : Int) then (if y387.length + (l1.take (t383 : Int).toNat).length < 140737488355328 then ((some (y387 ++ (l1.take (t383 : Int).toNat) : List Int)).bind fun y391 => (if 0 ≤ (wrap64 (t383 + 1)) then (if (wrap64 (t383 + 1)) ≤ (l1.length : Int) then (if y391.length + (l1.drop ((wrap64 (t383 + 1)) : Int).toNat).length < 140737488355328 then (some ((y391 ++ (l1.drop ((wrap64 (t383 + 1)) : Int).toNat)), bt385.2)) else (none)) else (none)) else (none))) else (none)) else (none)) else (none))) else (if bt385.1 = 1 then ((some (([] : List Int) : List Int)).bind fun y398 => (if 0 ≤ t383 then (if t383 ≤ (l1.length : Int) then (if y398.length + (l1.take (t383 : Int).toNat).length < 140737488355328 then ((some (y398 ++ (l1.take (t383 : Int).toNat) : List Int)).bind fun y402 => ((spec_l20Rd_pick.f k s0_0 bt385.2 9).bind fun bt405 => (if y402.length < 140737488355328 then ((some (y402 ++ [(bt405.1) % 256] : List Int)).bind fun y407 => (if y407.length + (l1.drop (t383 : Int).toNat).length < 140737488355328 then (some ((y407 ++ (l1.drop (t383 : Int).toNat)), bt405.2)) else (none))) else (none)))) else (none)) else (none)) else (none))) else ((some (([] : List Int) : List Int)).bind fun y414 => (if y414.length + l1.length < 140737488355328 then ((some (y414 ++ l1 : List Int)).bind fun y417 => (if 0 ≤ t383 then (if t383 < (y417.length : Int) then ((spec_l20Rd_pick.f k s0_0 bt385.2 255).bind fun bt421 => (some ((y417.set (t383 : Int).toNat (Go.bits .xor .u8 (rd y417 t383) ((wrap64 (1 + bt421.1)) % 256))), bt421.2))) else (none)) else (none))) else (none)))))) = some (r1, r2) := H
  have A8 := Aside0.mk A80
  clear A80
  replace H := Option.bind_eq_some_iff.mp H
  obtain ⟨⟨t385, t386⟩, A90, H⟩ := H
  replace H : (if t385 = 0 then ((some (([] : List Int) : List Int)).bind fun y387 => (if 0 ≤ t383 then (if t383 ≤ (l1.length : Int) then (if y387.length + (l1.take (t383 : Int).toNat).length < 140737488355328 then ((some (y387 ++ (l1.take (t383 : Int).toNat) : List Int)).bind fun y391 => (if 0 ≤ (wrap64 (t383 + 1)) then (if (wrap64 (t383 + 1)) ≤ (l1.length : Int) then (if y391.length + (l1.drop ((wrap64 (t383 + 1)) : Int).toNat).length < 140737488355328 then (some ((y391 ++ (l1.drop ((wrap64 (t383 + 1)) : Int).toNat)), t386)) else (none)) else (none)) else (none))) else (none)) else (none)) else (none))) else (if t385 = 1 then ((some (([] : List Int) : List Int)).bind fun y398 => (if 0 ≤ t383 then (if t383 ≤ (l1.length : Int) then (if y398.length + (l1.take (t383 : Int).toNat).length < 140737488355328 then ((some (y398 ++ (l1.take (t383 : Int).toNat) : List Int)).bind fun y402 => ((spec_l20Rd_pick.f k s0_0 t386 9).bind fun bt405 => (if y402.length < 140737488355328 then ((some (y402 ++ [(bt405.1) % 256] : List Int)).bind fun y407 => (if y407.length + (l1.drop (t383 : Int).toNat).length < 140737488355328 then (some ((y407 ++ (l1.drop (t383 : Int).toNat)), bt405.2)) else (none))) else (none)))) else (none)) else (none)) else (none))) else ((some (([] : List Int) : List Int)).bind fun y414 => (if y414.length + l1.length < 140737488355328 then ((some (y414 ++ l1 : List Int)).bind fun y417 => (if 0 ≤ t383 then (if t383 < (y417.length : Int) then ((spec_l20Rd_pick.f k s0_0 t386 255).bind fun bt421 => (some ((y417.set (t383 : Int).toNat (Go.bits .xor .u8 (rd y417 t383) ((wrap64 (1 + bt421.1)) % 256))), bt421.2))) else (none)) else (none))) else (none))))) = some (r1, r2) := H
  have A9 := Aside0.mk A90
  clear A90
  by_cases c10 : t385 = 0
  ·rw [if_pos c10] at H
   have c10b0 : (t385 == 0) = true := beq_iff_eq.mpr c10
   have c10b1 : (t385 != 0) = false := bne_eq_false_iff_eq.mpr c10
   clear c10
   obtain ⟨y387, hy387⟩ : ∃ y_ : List Int, y_ = (([] : List Int)) := ⟨_, rfl⟩
   replace H : (if 0 ≤ t383 then (if t383 ≤ (l1.length : Int) then (if y387.length + (l1.take (t383 : Int).toNat).length < 140737488355328 then ((some (y387 ++ (l1.take (t383 : Int).toNat) : List Int)).bind fun y391 => (if 0 ≤ (wrap64 (t383 + 1)) then (if (wrap64 (t383 + 1)) ≤ (l1.length : Int) then (if y391.length + (l1.drop ((wrap64 (t383 + 1)) : Int).toNat).length < 140737488355328 then (some ((y391 ++ (l1.drop ((wrap64 (t383 + 1)) : Int).toNat)), t386)) else (none)) else (none)) else (none))) else (none)) else (none)) else (none)) = some (r1, r2) := by first | (rw [hy387]; with_reducible exact H) | (have H2_ := (Option.bind_some _ _).symm.trans H; rw [hy387]; with_reducible exact H2_) | (have H2_ := (Option.bind_some _ _).symm.trans H; with_reducible exact H2_) | with_reducible exact H | (rw [hy387]; exact H) | exact H
   have Ny387 := Aside0.mk hy387
   clear hy387
   by_cases c11 : 0 ≤ t383
   ·rw [if_pos c11] at H
    have c11b0 := eq_true c11
    have c11b1 : decide (0 ≤ t383) = true := decide_eq_true c11
    clear c11
    by_cases c12 : t383 ≤ (l1.length : Int)
    ·rw [if_pos c12] at H
     have c12b0 := eq_true c12
     have c12b1 : decide (t383 ≤ (l1.length : Int)) = true := decide_eq_true c12
     clear c12
     by_cases c13 : y387.length + (l1.take (t383 : Int).toNat).length < 140737488355328
     ·rw [if_pos c13] at H
      have LMc13 := Aside0.mk c13
      clear c13
      obtain ⟨y391, hy391⟩ : ∃ y_ : List Int, y_ = (y387 ++ (l1.take (t383 : Int).toNat)) := ⟨_, rfl⟩
      replace H : (if 0 ≤ (wrap64 (t383 + 1)) then (if (wrap64 (t383 + 1)) ≤ (l1.length : Int) then (if y391.length + (l1.drop ((wrap64 (t383 + 1)) : Int).toNat).length < 140737488355328 then (some ((y391 ++ (l1.drop ((wrap64 (t383 + 1)) : Int).toNat)), t386)) else (none)) else (none)) else (none)) = some (r1, r2) := by first | (rw [hy391]; with_reducible exact H) | (have H2_ := (Option.bind_some _ _).symm.trans H; rw [hy391]; with_reducible exact H2_) | (have H2_ := (Option.bind_some _ _).symm.trans H; with_reducible exact H2_) | with_reducible exact H | (rw [hy391]; exact H) | exact H
      have Ny391 := Aside0.mk hy391
      clear hy391
      obtain ⟨ji14, hji14⟩ : ∃ j_ : Int, (wrap64 (t383 + 1)) = j_ := ⟨_, rfl⟩
      replace H : (if 0 ≤ (ji14) then (if (ji14) ≤ (l1.length : Int) then (if y391.length + (l1.drop ((ji14) : Int).toNat).length < 140737488355328 then (some ((y391 ++ (l1.drop ((ji14) : Int).toNat)), t386)) else (none)) else (none)) else (none)) = some (r1, r2) := by first | (rw [hji14] at H; exact H) | (simp only [hji14] at H ⊢; exact H)
      (try rw [hji14] at A8)
      (try rw [hji14] at A9)
      have hji14w : (IntKind.i64.wrap (t383 + 1)) = ji14 := (i64_w _).trans hji14
      by_cases c15 : 0 ≤ (ji14)
      ·rw [if_pos c15] at H
       have c15b0 := eq_true c15
       have c15b1 : decide (0 ≤ (ji14)) = true := decide_eq_true c15
       clear c15
       by_cases c16 : (ji14) ≤ (l1.length : Int)
       ·rw [if_pos c16] at H
        have c16b0 := eq_true c16
        have c16b1 : decide ((ji14) ≤ (l1.length : Int)) = true := decide_eq_true c16
        clear c16
        by_cases c17 : y391.length + (l1.drop ((ji14) : Int).toNat).length < 140737488355328
        ·rw [if_pos c17] at H
         have LMc17 := Aside0.mk c17
         clear c17
         obtain ⟨y395, hy395⟩ : ∃ y_ : List Int, y_ = (y391 ++ (l1.drop ((ji14) : Int).toNat)) := ⟨_, rfl⟩
         replace H : (some (y395, t386)) = some (r1, r2) := by first | (rw [hy395]; with_reducible exact H) | (have H2_ := (Option.bind_some _ _).symm.trans H; rw [hy395]; with_reducible exact H2_) | (have H2_ := (Option.bind_some _ _).symm.trans H; with_reducible exact H2_) | with_reducible exact H | (rw [hy395]; exact H) | exact H
         have Ny395 := Aside0.mk hy395
         clear hy395
         simp only [Option.some.injEq, Prod.mk.injEq] at H
         obtain ⟨rfl, rfl⟩ := H
         go_enter Tryd.func39, Tryd.ntmps39
         try go_wp2_with (first | ((with_reducible refine gate_callee (f := 38) rfl ?_); refine goesL_ (some 17) rfl rfl Tryd.func38 (by kernel_rfl) rfl #[.pointer (some ⟨g, 0, none⟩), .int .i64 (l1.length : Int)] rfl Z44 ?_; (with_reducible refine (spec_l20Rd_pick.calls k g s0_0 s0_1 (l1.length : Int) t383 t384 w0 _ ?side1 ?side2 A8.out).mono ?_); (case side1 => exact Z47); (case side2 => exact Z61); rintro e w18 ⟨rfl, hi, hb, hk⟩; refine ⟨_, rfl, ?_⟩; have n0_ := Aside0.mk (KeepBut.trans Z46 hk (.inl rfl)); have n1_ := Aside0.mk (hb); have n2_ := Aside0.mk (hi); clear HK; clear HB; clear HI0; have HK := n0_; have HB := n1_; have HI0 := n2_; clear n0_ n1_ n2_; (try clear hb); (try clear hk); (try clear hi)) | ((with_reducible refine gate_callee (f := 38) rfl ?_); refine goesL_ (some 19) rfl rfl Tryd.func38 (by kernel_rfl) rfl #[.pointer (some ⟨g, 0, none⟩), .int .i64 3] rfl Z44 ?_; (with_reducible refine (spec_l20Rd_pick.calls k g s0_0 t384 3 t385 t386 w0 _ ?side1 ?side2 A9.out).mono ?_); (case side1 => exact Z47); (case side2 => exact Z61); rintro e w19 ⟨rfl, hi, hb, hk⟩; refine ⟨_, rfl, ?_⟩; have n0_ := Aside0.mk (KeepBut.trans Z46 hk (.inl rfl)); have n1_ := Aside0.mk (hb); have n2_ := Aside0.mk (hi); clear HK; clear HB; clear HI0; have HK := n0_; have HB := n1_; have HI0 := n2_; clear n0_ n1_ n2_; (try clear hb); (try clear hk); (try clear hi)))
         have n0_ := Aside0.mk (IsS64.drew HI0.out)
         have n1_ := Aside0.mk (keep_drew HK.out)
         have n2_ := Aside0.mk (below_drew1 HB.out)
         clear HI0
         clear HK
         clear HB
         have HI0 := n0_
         have HK := n1_
         have HB := n2_
         clear n0_ n1_ n2_
         obtain ⟨i021, hi021, _, hsz21, _⟩ := info_parts info5
         obtain ⟨hcut21, hA21, hC21⟩ := print_take_of (P := Tryd.prog) (Value.int .u8) 0 22 5 .i64 Tryd.underlying22 hi021 hsz21 A1 c1 l1 t383 (of_decide_eq_true Z2) (of_decide_eq_true Z2) HC1.out
         have HR390 := Aside0.mk (Kd.C_of_reads (h1 := fun _ => rfl) (hA21 _ (Kd.reads_of_C HR1.out)))
         have HC390 := Aside0.mk hC21
         have hf390 : ∀ ad : Addr, A1 = some ad → 0 < (l1.take (t383 : Int).toNat).length → ad.block ≠ g := fun ad he h_ => by cases he; exact Kd.foot_ne (fun W_ hk_ => Kd.C_of_reads (h1 := fun _ => rfl) (hA21 _ (Kd.reads_of_C (Kd.C_foot_ne (fun h => h) HR1.out hf1 W_ hk_)))) h_ (by decide)
         clear hA21 hC21 hi021 hsz21
         obtain ⟨i022, hi022, _, hsz22, _⟩ := info_parts info5
         obtain ⟨A22, hcut22, hA22, hC22⟩ := print_drop_of (P := Tryd.prog) (Value.int .u8) 0 22 5 .i64 Tryd.underlying22 hi022 hsz22 A1 c1 l1 (ji14) (of_decide_eq_true Z2) (of_decide_eq_true Z2) HC1.out
         have HR394 := Aside0.mk (Kd.C_of_reads (h1 := fun _ => rfl) (hA22 _ (Kd.reads_of_C HR1.out)))
         have HC394 := Aside0.mk hC22
         have hf394 : ∀ ad : Addr, A22 = some ad → 0 < (l1.drop ((ji14) : Int).toNat).length → ad.block ≠ g := fun ad he h_ => by cases he; exact Kd.foot_ne (fun W_ hk_ => Kd.C_of_reads (h1 := fun _ => rfl) (hA22 _ (Kd.reads_of_C (Kd.C_foot_ne (fun h => h) HR1.out hf1 W_ hk_)))) h_ (by decide)
         clear hA22 hC22 hi022 hsz22
         refine start_ (n := 11) (S := fun w' => True) (ds := []) #[false, false, false, false, false, false, false, false, false, false, false] (by kernel_rfl) rfl rfl trivial (fun hHeld => ?_); refine with_tabW spec_l20Turn.tab6 spec_l20Turn.bits6 (fun HT_ HW_ => ?_)
         generalize w19.drew = w20 at HI0 HK HB HR390 HR394 hHeld ⊢
         refine pure_ (i := 1) (N := some 23) (v := ?_) (a' := ?_) #[false, true, false, false, false, false, false, false, false, false, false] rfl rfl (any_of HT_.out (by kernel_rfl)) (fun _ _ _ h => h) (Or.inl ⟨by rfl, ?_⟩) ?_ ?_
         rotate_left
         ·intro w'
          go_simp
          with_reducible rfl
         rotate_left
         ·simp only [Act.put, List.setIfInBounds_toArray, List.set_cons_zero, List.set_cons_succ, i64_w, i32_w]
          rfl
         refine pure_ (i := 2) (N := some 24) (v := ?_) (a' := ?_) #[false, true, true, false, false, false, false, false, false, false, false] rfl rfl (any_of HT_.out (by kernel_rfl)) (fun _ _ _ h => h) (Or.inl ⟨by rfl, ?_⟩) ?_ ?_
         rotate_left
         ·intro w'
          go_simp
          with_reducible rfl
         rotate_left
         ·simp only [Act.put, List.setIfInBounds_toArray, List.set_cons_zero, List.set_cons_succ, i64_w, i32_w]
          rfl
         refine pure_ (i := 3) (N := some 25) (v := ?_) (a' := ?_) #[false, true, true, true, false, false, false, false, false, false, false] rfl rfl (any_of HT_.out (by kernel_rfl)) (fun _ _ _ h => h) (Or.inl ⟨by rfl, ?_⟩) ?_ ?_
         rotate_left
         ·intro w'
          go_simp
          with_reducible rfl
         rotate_left
         ·simp only [Act.put, List.setIfInBounds_toArray, List.set_cons_zero, List.set_cons_succ, i64_w, i32_w]
          rfl
         refine pure_ (i := 5) (N := some 27) (v := ?_) (a' := ?_) #[false, true, true, true, false, true, false, false, false, false, false] rfl rfl (any_of HT_.out (by kernel_rfl)) (fun _ _ _ h => h) (Or.inl ⟨by rfl, ?_⟩) ?_ ?_
         rotate_left
         ·intro w'
          go_simp
          with_reducible rfl
         rotate_left
         ·simp only [Act.put, List.setIfInBounds_toArray, List.set_cons_zero, List.set_cons_succ, i64_w, i32_w]
          rfl
         refine pure_ (i := 6) (N := some 28) (v := ?_) (a' := ?_) #[false, true, true, true, false, true, true, false, false, false, false] rfl rfl (any_of HT_.out (by kernel_rfl)) (fun _ _ _ h => h) (Or.inl ⟨by rfl, ?_⟩) ?_ ?_
         rotate_left
         ·intro w'
          go_simp
          with_reducible rfl
         rotate_left
         ·simp only [Act.put, List.setIfInBounds_toArray, List.set_cons_zero, List.set_cons_succ, i64_w, i32_w]
          rfl
         refine pure_ (i := 7) (N := some 29) (v := ?_) (a' := ?_) #[false, true, true, true, false, true, true, true, false, false, false] rfl rfl (any_of HT_.out (by kernel_rfl)) (fun _ _ _ h => h) (Or.inl ⟨by rfl, ?_⟩) ?_ ?_
         rotate_left
         ·intro w'
          go_simp
          with_reducible rfl
         rotate_left
         ·simp only [Act.put, List.setIfInBounds_toArray, List.set_cons_zero, List.set_cons_succ, i64_w, i32_w]
          rfl
         refine pure_ (i := 8) (N := some 30) (v := ?_) (a' := ?_) #[false, true, true, true, false, true, true, true, true, false, false] rfl rfl (any_of HT_.out (by kernel_rfl)) (fun _ _ _ h => h) (Or.inl ⟨by rfl, ?_⟩) ?_ ?_
         rotate_left
         ·intro w'
          go_simp
          with_reducible rfl
         rotate_left
         ·simp only [Act.put, List.setIfInBounds_toArray, List.set_cons_zero, List.set_cons_succ, i64_w, i32_w]
          rfl
         refine one_ (i := 0) (N := some 22) #[true, true, true, true, false, true, true, true, true, false, false] rfl rfl (one_of HT_.out (by kernel_rfl)) (by decide) (fun K hK => ?_)
         refine Kd.R_lit_step (Kd.int .u8) _ 5 ?hg (N := 22) ?hd (xs := ([] : List Int)) (inner := []) (ok := fun _ => True) (okp := fun _ => True) ?hr ?hp (fun _ hk => hk) trivial (Below.refl _ _) (Nat.le_refl _) (by simp) ?_; (case hd => rfl); (case hg => rfl); (case hr => first | (go_simp; done) | (go_simp; rfl)); (case hp => exact (Reps.none _ _))
         intro v388 w23 ho24 hb hg_ hnew_
         clear hg_ hnew_
         (first | rw [← Ny387.out] at ho24 | (simp only [Int.reduceToNat] at ho24; rw [← Ny387.out] at ho24))
         have n0_ := Aside0.mk (Kd.R_lower ho24 (keep_size (w := w) (g := g) (row := none) Z46))
         have n1_ := Aside0.mk (IsS64.below Z48 hb)
         have n2_ := Aside0.mk (KeepBut.trans Z46 (KeepBut.of_below hb g none) (.inl rfl))
         have n3_ := Aside0.mk (below_step Z67 hb)
         clear HI0
         clear HK
         clear HB
         have HO389 := n0_
         have HI0 := n1_
         have HK := n2_
         have HB := n3_
         clear n0_ n1_ n2_ n3_
         clear hb ho24
         refine hK.out _ _ trivial (fun hHeld => ?_)
         clear hK K
         refine norm_ (a' := ?_) ?_ ?_
         rotate_left
         ·show Act.put _ (some 22) _ = _
          simp only [Act.put, List.setIfInBounds_toArray, List.set_cons_zero, List.set_cons_succ, i64_w, i32_w]
          rfl
         refine one_ (i := 4) (N := some 26) #[true, true, true, true, true, true, true, true, true, false, false] rfl rfl (one_of HT_.out (by kernel_rfl)) (by decide) (fun K hK => ?_)
         refine Kd.R_append_rows_step (Kd.int .u8) w.heap.size (by rfl) (.tmp 22) (.tmp 25) 22 5 (.int .u8 0) 1 rfl Tryd.underlying22 info5 rfl (by decide) (by omega) v388 y387 (l1.take (t383 : Int).toNat) _ _ _ (fun _ => True) (fun _ => False) rfl rfl ?aO ?aR (fun _ _ h => h) (fun _ h => h.elim) ?aF (Below.refl _ _) ?aS ?aL ?_
         (case aR => first | (refine (congrArg (fun n_ => Kd.C _ _ _ n_ _) (show (l1.take (t383 : Int).toNat).length = t383.toNat from Z107)).mp ?_; exact Kd.C_keep 0 HR390.out Z46 hf390) | (rw [← show (l1.take (t383 : Int).toNat).length = t383.toNat from Z107]; exact Kd.C_keep 0 HR390.out Z46 hf390) | (exact Kd.C_keep 0 HR390.out Z46 hf390))
         (case aF => exact (fun _ _ => trivial))
         (case aO => exact (by (with_reducible repeat (first | apply Kd.R_alloc | apply Kd.R_drewN | apply Kd.R_drew)); exact HO389.out))
         (case aS => exact (keep_size (w := w) (g := g) (row := none) Z46))
         (case aL => have := LMc13.out; have hlx_ := (show (l1.take (t383 : Int).toNat).length = t383.toNat from Z107); omega)
         intro v392 w25 ho hb hg hat
         rw [← Ny391.out] at ho
         have n0_ := Aside0.mk (IsS64.grown Z48 hg (IsS64.own_ne HI0.out HO389.out (by decide)))
         have n1_ := Aside0.mk (below_weaken Z67 HL.out hb)
         have n2_ := Aside0.mk (KeepBut.trans Z46 (KeepBut.of_grown hg g) (Kd.R_base2 HO389.out))
         have n3_ := Aside0.mk (ho)
         clear HI0
         clear HB
         clear HK
         clear HO389
         have HI0 := n0_
         have HB := n1_
         have HK := n2_
         have HO393 := n3_
         clear n0_ n1_ n2_ n3_
         clear ho hb hg hat
         refine hK.out _ _ trivial (fun hHeld => ?_)
         clear hK K
         refine norm_ (a' := ?_) ?_ ?_
         rotate_left
         ·show Act.put _ (some 26) _ = _
          simp only [Act.put, List.setIfInBounds_toArray, List.set_cons_zero, List.set_cons_succ, i64_w, i32_w]
          rfl
         refine one_ (i := 9) (N := some 31) #[true, true, true, true, true, true, true, true, true, true, false] rfl rfl (one_of HT_.out (by kernel_rfl)) (by decide) (fun K hK => ?_)
         refine Kd.R_append_rows_step (Kd.int .u8) w.heap.size (by rfl) (.tmp 26) (.tmp 30) 22 5 (.int .u8 0) 1 rfl Tryd.underlying22 info5 rfl (by decide) (by omega) v392 y391 (l1.drop ((ji14) : Int).toNat) _ _ _ (fun _ => True) (fun _ => False) rfl rfl ?aO ?aR (fun _ _ h => h) (fun _ h => h.elim) ?aF (Below.refl _ _) ?aS ?aL ?_
         (case aR => first | (rw [← show (l1.drop ((ji14) : Int).toNat).length = (l1.length - (ji14).toNat) from List.length_drop]; exact Kd.C_keep 0 HR394.out Z46 hf394) | (exact Kd.C_keep 0 HR394.out Z46 hf394))
         (case aF => exact (fun _ _ => trivial))
         (case aO => exact (by (with_reducible repeat (first | apply Kd.R_alloc | apply Kd.R_drewN | apply Kd.R_drew)); exact HO393.out))
         (case aS => exact (keep_size (w := w) (g := g) (row := none) Z46))
         (case aL => have := LMc17.out; have hlx_ := (show (l1.drop ((ji14) : Int).toNat).length = (l1.length - (ji14).toNat) from List.length_drop); omega)
         intro v396 w26 ho hb hg hat
         rw [← Ny395.out] at ho
         have n0_ := Aside0.mk (IsS64.grown Z48 hg (IsS64.own_ne HI0.out HO393.out (by decide)))
         have n1_ := Aside0.mk (below_weaken Z67 HL.out hb)
         have n2_ := Aside0.mk (KeepBut.trans Z46 (KeepBut.of_grown hg g) (Kd.R_base2 HO393.out))
         have n3_ := Aside0.mk (ho)
         clear HI0
         clear HB
         clear HK
         clear HO393
         have HI0 := n0_
         have HB := n1_
         have HK := n2_
         have HO397 := n3_
         clear n0_ n1_ n2_ n3_
         clear ho hb hg hat
         refine hK.out _ _ trivial (fun hHeld => ?_)
         clear hK K
         refine norm_ (a' := ?_) ?_ ?_
         rotate_left
         ·show Act.put _ (some 31) _ = _
          simp only [Act.put, List.setIfInBounds_toArray, List.set_cons_zero, List.set_cons_succ, i64_w, i32_w]
          rfl
         refine pure_ (i := 10) (N := some 4) (v := ?_) (a' := ?_) #[true, true, true, true, true, true, true, true, true, true, true] rfl rfl (any_of HT_.out (by kernel_rfl)) (fun _ _ _ h => h) (Or.inl ⟨by rfl, ?_⟩) ?_ ?_
         rotate_left
         ·intro w'
          go_simp
          with_reducible rfl
         rotate_left
         ·simp only [Act.put, List.setIfInBounds_toArray, List.set_cons_zero, List.set_cons_succ, i64_w, i32_w]
          rfl
         refine done_ (done_of HT_.out (by kernel_rfl)) ?_
         try go_wp2
         go_ret
         exact ⟨_, by first | rfl | (simp [errW_none, errW_some] <;> rfl) | (simp only [← hji14]; first | rfl | (simp [errW_none, errW_some] <;> rfl)) | (simp [*, errW_none, errW_some] <;> rfl), by (with_reducible repeat (first | apply Kd.R_alloc | apply Kd.R_drewN | apply Kd.R_drew)); exact HO397.out, by repeat (first | (with_reducible first | exact HI0.out | apply IsS64.alloc | apply IsS64.drewN | apply IsS64.drew | apply IsS64.set_1) | exact HI0.out), by repeat (first | (with_reducible first | exact HB.out | apply below_alloc | apply pw_below_drewN | apply below_drew1 | refine below_set ?_ (IsS64.ge HI0.out)) | exact HB.out), by repeat (first | (with_reducible first | exact HK.out | apply KeepBut.set_ | apply keep_drewN | apply keep_drew | apply keep_alloc) | exact HK.out)⟩
        ·rw [if_neg c17] at H
         exact absurd H (by simp)
       ·rw [if_neg c16] at H
        exact absurd H (by simp)
      ·rw [if_neg c15] at H
       exact absurd H (by simp)
     ·rw [if_neg c13] at H
      exact absurd H (by simp)
    ·rw [if_neg c12] at H
     exact absurd H (by simp)
   ·rw [if_neg c11] at H
    exact absurd H (by simp)
  ·rw [if_neg c10] at H
   have c10b0 : (t385 == 0) = false := beq_eq_false_iff_ne.mpr c10
   have c10b1 : (t385 != 0) = true := bne_iff_ne.mpr c10
   by_cases c27 : t385 = 1
   ·rw [if_pos c27] at H
    have c27b0 : (t385 == 1) = true := beq_iff_eq.mpr c27
    have c27b1 : (t385 != 1) = false := bne_eq_false_iff_eq.mpr c27
    clear c27
    obtain ⟨y398, hy398⟩ : ∃ y_ : List Int, y_ = (([] : List Int)) := ⟨_, rfl⟩
    replace H : (if 0 ≤ t383 then (if t383 ≤ (l1.length : Int) then (if y398.length + (l1.take (t383 : Int).toNat).length < 140737488355328 then ((some (y398 ++ (l1.take (t383 : Int).toNat) : List Int)).bind fun y402 => ((spec_l20Rd_pick.f k s0_0 t386 9).bind fun bt405 => (if y402.length < 140737488355328 then ((some (y402 ++ [(bt405.1) % 256] : List Int)).bind fun y407 => (if y407.length + (l1.drop (t383 : Int).toNat).length < 140737488355328 then (some ((y407 ++ (l1.drop (t383 : Int).toNat)), bt405.2)) else (none))) else (none)))) else (none)) else (none)) else (none)) = some (r1, r2) := by first | (rw [hy398]; with_reducible exact H) | (have H2_ := (Option.bind_some _ _).symm.trans H; rw [hy398]; with_reducible exact H2_) | (have H2_ := (Option.bind_some _ _).symm.trans H; with_reducible exact H2_) | with_reducible exact H | (rw [hy398]; exact H) | exact H
    have Ny398 := Aside0.mk hy398
    clear hy398
    by_cases c28 : 0 ≤ t383
    ·rw [if_pos c28] at H
     have c28b0 := eq_true c28
     have c28b1 : decide (0 ≤ t383) = true := decide_eq_true c28
     clear c28
     by_cases c29 : t383 ≤ (l1.length : Int)
     ·rw [if_pos c29] at H
      have c29b0 := eq_true c29
      have c29b1 : decide (t383 ≤ (l1.length : Int)) = true := decide_eq_true c29
      clear c29
      by_cases c30 : y398.length + (l1.take (t383 : Int).toNat).length < 140737488355328
      ·rw [if_pos c30] at H
       have LMc30 := Aside0.mk c30
       clear c30
       obtain ⟨y402, hy402⟩ : ∃ y_ : List Int, y_ = (y398 ++ (l1.take (t383 : Int).toNat)) := ⟨_, rfl⟩
       replace H : ((spec_l20Rd_pick.f k s0_0 t386 9).bind fun bt405 => (if y402.length < 140737488355328 then ((some (y402 ++ [(bt405.1) % 256] : List Int)).bind fun y407 => (if y407.length + (l1.drop (t383 : Int).toNat).length < 140737488355328 then (some ((y407 ++ (l1.drop (t383 : Int).toNat)), bt405.2)) else (none))) else (none))) = some (r1, r2) := by first | (rw [hy402]; with_reducible exact H) | (have H2_ := (Option.bind_some _ _).symm.trans H; rw [hy402]; with_reducible exact H2_) | (have H2_ := (Option.bind_some _ _).symm.trans H; with_reducible exact H2_) | with_reducible exact H | (rw [hy402]; exact H) | exact H
       have Ny402 := Aside0.mk hy402
       clear hy402
       replace H := Option.bind_eq_some_iff.mp H
       obtain ⟨⟨t405, t406⟩, A310, H⟩ := H
       replace H : (if y402.length < 140737488355328 then ((some (y402 ++ [(t405) % 256] : List Int)).bind fun y407 => (if y407.length + (l1.drop (t383 : Int).toNat).length < 140737488355328 then (some ((y407 ++ (l1.drop (t383 : Int).toNat)), t406)) else (none))) else (none)) = some (r1, r2) := H
       have A31 := Aside0.mk A310
       clear A310
       by_cases c32 : y402.length < 140737488355328
       ·rw [if_pos c32] at H
        have LMc32 := Aside0.mk c32
        clear c32
        obtain ⟨y407, hy407⟩ : ∃ y_ : List Int, y_ = (y402 ++ [(t405) % 256]) := ⟨_, rfl⟩
        replace H : (if y407.length + (l1.drop (t383 : Int).toNat).length < 140737488355328 then (some ((y407 ++ (l1.drop (t383 : Int).toNat)), t406)) else (none)) = some (r1, r2) := by first | (rw [hy407]; with_reducible exact H) | (have H2_ := (Option.bind_some _ _).symm.trans H; rw [hy407]; with_reducible exact H2_) | (have H2_ := (Option.bind_some _ _).symm.trans H; with_reducible exact H2_) | with_reducible exact H | (rw [hy407]; exact H) | exact H
        have Ny407 := Aside0.mk hy407
        clear hy407
        have c33b0 := eq_true (of_decide_eq_true Z2 : 0 ≤ t383)
        have c34b0 := eq_true (of_decide_eq_true Z2 : t383 ≤ (l1.length : Int))
        by_cases c35 : y407.length + (l1.drop (t383 : Int).toNat).length < 140737488355328
        ·rw [if_pos c35] at H
         have LMc35 := Aside0.mk c35
         clear c35
         obtain ⟨y411, hy411⟩ : ∃ y_ : List Int, y_ = (y407 ++ (l1.drop (t383 : Int).toNat)) := ⟨_, rfl⟩
         replace H : (some (y411, t406)) = some (r1, r2) := by first | (rw [hy411]; with_reducible exact H) | (have H2_ := (Option.bind_some _ _).symm.trans H; rw [hy411]; with_reducible exact H2_) | (have H2_ := (Option.bind_some _ _).symm.trans H; with_reducible exact H2_) | with_reducible exact H | (rw [hy411]; exact H) | exact H
         have Ny411 := Aside0.mk hy411
         clear hy411
         simp only [Option.some.injEq, Prod.mk.injEq] at H
         obtain ⟨rfl, rfl⟩ := H
         go_enter Tryd.func39, Tryd.ntmps39
         try go_wp2_with (first | ((with_reducible refine gate_callee (f := 38) rfl ?_); refine goesL_ (some 17) rfl rfl Tryd.func38 (by kernel_rfl) rfl #[.pointer (some ⟨g, 0, none⟩), .int .i64 (l1.length : Int)] rfl Z44 ?_; (with_reducible refine (spec_l20Rd_pick.calls k g s0_0 s0_1 (l1.length : Int) t383 t384 w0 _ ?side1 ?side2 A8.out).mono ?_); (case side1 => exact Z47); (case side2 => exact Z61); rintro e w36 ⟨rfl, hi, hb, hk⟩; refine ⟨_, rfl, ?_⟩; have n0_ := Aside0.mk (KeepBut.trans Z46 hk (.inl rfl)); have n1_ := Aside0.mk (hb); have n2_ := Aside0.mk (hi); clear HK; clear HB; clear HI0; have HK := n0_; have HB := n1_; have HI0 := n2_; clear n0_ n1_ n2_; (try clear hb); (try clear hk); (try clear hi)) | ((with_reducible refine gate_callee (f := 38) rfl ?_); refine goesL_ (some 19) rfl rfl Tryd.func38 (by kernel_rfl) rfl #[.pointer (some ⟨g, 0, none⟩), .int .i64 3] rfl Z44 ?_; (with_reducible refine (spec_l20Rd_pick.calls k g s0_0 t384 3 t385 t386 w0 _ ?side1 ?side2 A9.out).mono ?_); (case side1 => exact Z47); (case side2 => exact Z61); rintro e w37 ⟨rfl, hi, hb, hk⟩; refine ⟨_, rfl, ?_⟩; have n0_ := Aside0.mk (KeepBut.trans Z46 hk (.inl rfl)); have n1_ := Aside0.mk (hb); have n2_ := Aside0.mk (hi); clear HK; clear HB; clear HI0; have HK := n0_; have HB := n1_; have HI0 := n2_; clear n0_ n1_ n2_; (try clear hb); (try clear hk); (try clear hi)))
         have n0_ := Aside0.mk (IsS64.drew HI0.out)
         have n1_ := Aside0.mk (keep_drew HK.out)
         have n2_ := Aside0.mk (below_drew1 HB.out)
         clear HI0
         clear HK
         clear HB
         have HI0 := n0_
         have HK := n1_
         have HB := n2_
         clear n0_ n1_ n2_
         obtain ⟨i039, hi039, _, hsz39, _⟩ := info_parts info5
         obtain ⟨hcut39, hA39, hC39⟩ := print_take_of (P := Tryd.prog) (Value.int .u8) 0 22 5 .i64 Tryd.underlying22 hi039 hsz39 A1 c1 l1 t383 (of_decide_eq_true Z2) (of_decide_eq_true Z2) HC1.out
         have HR401 := Aside0.mk (Kd.C_of_reads (h1 := fun _ => rfl) (hA39 _ (Kd.reads_of_C HR1.out)))
         have HC401 := Aside0.mk hC39
         have hf401 : ∀ ad : Addr, A1 = some ad → 0 < (l1.take (t383 : Int).toNat).length → ad.block ≠ g := fun ad he h_ => by cases he; exact Kd.foot_ne (fun W_ hk_ => Kd.C_of_reads (h1 := fun _ => rfl) (hA39 _ (Kd.reads_of_C (Kd.C_foot_ne (fun h => h) HR1.out hf1 W_ hk_)))) h_ (by decide)
         clear hA39 hC39 hi039 hsz39
         obtain ⟨i040, hi040, _, hsz40, _⟩ := info_parts info5
         obtain ⟨A40, hcut40, hA40, hC40⟩ := print_drop_of (P := Tryd.prog) (Value.int .u8) 0 22 5 .i64 Tryd.underlying22 hi040 hsz40 A1 c1 l1 t383 (of_decide_eq_true Z2) (of_decide_eq_true Z2) HC1.out
         have HR410 := Aside0.mk (Kd.C_of_reads (h1 := fun _ => rfl) (hA40 _ (Kd.reads_of_C HR1.out)))
         have HC410 := Aside0.mk hC40
         have hf410 : ∀ ad : Addr, A40 = some ad → 0 < (l1.drop (t383 : Int).toNat).length → ad.block ≠ g := fun ad he h_ => by cases he; exact Kd.foot_ne (fun W_ hk_ => Kd.C_of_reads (h1 := fun _ => rfl) (hA40 _ (Kd.reads_of_C (Kd.C_foot_ne (fun h => h) HR1.out hf1 W_ hk_)))) h_ (by decide)
         clear hA40 hC40 hi040 hsz40
         refine start_ (n := 15) (S := fun w' => True) (ds := []) #[false, false, false, false, false, false, false, false, false, false, false, false, false, false, false] (by kernel_rfl) rfl rfl trivial (fun hHeld => ?_); refine with_tabW spec_l20Turn.tab8 spec_l20Turn.bits8 (fun HT_ HW_ => ?_)
         generalize w37.drew = w38 at HI0 HK HB HR401 HR410 hHeld ⊢
         refine pure_ (i := 1) (N := some 35) (v := ?_) (a' := ?_) #[false, true, false, false, false, false, false, false, false, false, false, false, false, false, false] rfl rfl (any_of HT_.out (by kernel_rfl)) (fun _ _ _ h => h) (Or.inl ⟨by rfl, ?_⟩) ?_ ?_
         rotate_left
         ·intro w'
          go_simp
          with_reducible rfl
         rotate_left
         ·simp only [Act.put, List.setIfInBounds_toArray, List.set_cons_zero, List.set_cons_succ, i64_w, i32_w]
          rfl
         refine pure_ (i := 2) (N := some 36) (v := ?_) (a' := ?_) #[false, true, true, false, false, false, false, false, false, false, false, false, false, false, false] rfl rfl (any_of HT_.out (by kernel_rfl)) (fun _ _ _ h => h) (Or.inl ⟨by rfl, ?_⟩) ?_ ?_
         rotate_left
         ·intro w'
          go_simp
          with_reducible rfl
         rotate_left
         ·simp only [Act.put, List.setIfInBounds_toArray, List.set_cons_zero, List.set_cons_succ, i64_w, i32_w]
          rfl
         refine pure_ (i := 3) (N := some 37) (v := ?_) (a' := ?_) #[false, true, true, true, false, false, false, false, false, false, false, false, false, false, false] rfl rfl (any_of HT_.out (by kernel_rfl)) (fun _ _ _ h => h) (Or.inl ⟨by rfl, ?_⟩) ?_ ?_
         rotate_left
         ·intro w'
          go_simp
          with_reducible rfl
         rotate_left
         ·simp only [Act.put, List.setIfInBounds_toArray, List.set_cons_zero, List.set_cons_succ, i64_w, i32_w]
          rfl
         refine pure_ (i := 5) (N := some 39) (v := ?_) (a' := ?_) #[false, true, true, true, false, true, false, false, false, false, false, false, false, false, false] rfl rfl (any_of HT_.out (by kernel_rfl)) (fun _ _ _ h => h) (Or.inl ⟨by rfl, ?_⟩) ?_ ?_
         rotate_left
         ·intro w'
          go_simp
          with_reducible rfl
         rotate_left
         ·simp only [Act.put, List.setIfInBounds_toArray, List.set_cons_zero, List.set_cons_succ, i64_w, i32_w]
          rfl
         refine pure_ (i := 10) (N := some 44) (v := ?_) (a' := ?_) #[false, true, true, true, false, true, false, false, false, false, true, false, false, false, false] rfl rfl (any_of HT_.out (by kernel_rfl)) (fun _ _ _ h => h) (Or.inl ⟨by rfl, ?_⟩) ?_ ?_
         rotate_left
         ·intro w'
          go_simp
          with_reducible rfl
         rotate_left
         ·simp only [Act.put, List.setIfInBounds_toArray, List.set_cons_zero, List.set_cons_succ, i64_w, i32_w]
          rfl
         refine pure_ (i := 11) (N := some 45) (v := ?_) (a' := ?_) #[false, true, true, true, false, true, false, false, false, false, true, true, false, false, false] rfl rfl (any_of HT_.out (by kernel_rfl)) (fun _ _ _ h => h) (Or.inl ⟨by rfl, ?_⟩) ?_ ?_
         rotate_left
         ·intro w'
          go_simp
          with_reducible rfl
         rotate_left
         ·simp only [Act.put, List.setIfInBounds_toArray, List.set_cons_zero, List.set_cons_succ, i64_w, i32_w]
          rfl
         refine pure_ (i := 12) (N := some 46) (v := ?_) (a' := ?_) #[false, true, true, true, false, true, false, false, false, false, true, true, true, false, false] rfl rfl (any_of HT_.out (by kernel_rfl)) (fun _ _ _ h => h) (Or.inl ⟨by rfl, ?_⟩) ?_ ?_
         rotate_left
         ·intro w'
          go_simp
          with_reducible rfl
         rotate_left
         ·simp only [Act.put, List.setIfInBounds_toArray, List.set_cons_zero, List.set_cons_succ, i64_w, i32_w]
          rfl
         refine one_ (i := 0) (N := some 34) #[true, true, true, true, false, true, false, false, false, false, true, true, true, false, false] rfl rfl (one_of HT_.out (by kernel_rfl)) (by decide) (fun K hK => ?_)
         refine Kd.R_lit_step (Kd.int .u8) _ 5 ?hg (N := 34) ?hd (xs := ([] : List Int)) (inner := []) (ok := fun _ => True) (okp := fun _ => True) ?hr ?hp (fun _ hk => hk) trivial (Below.refl _ _) (Nat.le_refl _) (by simp) ?_; (case hd => rfl); (case hg => rfl); (case hr => first | (go_simp; done) | (go_simp; rfl)); (case hp => exact (Reps.none _ _))
         intro v399 w41 ho42 hb hg_ hnew_
         clear hg_ hnew_
         (first | rw [← Ny398.out] at ho42 | (simp only [Int.reduceToNat] at ho42; rw [← Ny398.out] at ho42))
         have n0_ := Aside0.mk (Kd.R_lower ho42 (keep_size (w := w) (g := g) (row := none) Z46))
         have n1_ := Aside0.mk (IsS64.below Z48 hb)
         have n2_ := Aside0.mk (KeepBut.trans Z46 (KeepBut.of_below hb g none) (.inl rfl))
         have n3_ := Aside0.mk (below_step Z67 hb)
         clear HI0
         clear HK
         clear HB
         have HO400 := n0_
         have HI0 := n1_
         have HK := n2_
         have HB := n3_
         clear n0_ n1_ n2_ n3_
         clear hb ho42
         refine hK.out _ _ trivial (fun hHeld => ?_)
         clear hK K
         refine norm_ (a' := ?_) ?_ ?_
         rotate_left
         ·show Act.put _ (some 34) _ = _
          simp only [Act.put, List.setIfInBounds_toArray, List.set_cons_zero, List.set_cons_succ, i64_w, i32_w]
          rfl
         refine one_ (i := 4) (N := some 38) #[true, true, true, true, true, true, false, false, false, false, true, true, true, false, false] rfl rfl (one_of HT_.out (by kernel_rfl)) (by decide) (fun K hK => ?_)
         refine Kd.R_append_rows_step (Kd.int .u8) w.heap.size (by rfl) (.tmp 34) (.tmp 37) 22 5 (.int .u8 0) 1 rfl Tryd.underlying22 info5 rfl (by decide) (by omega) v399 y398 (l1.take (t383 : Int).toNat) _ _ _ (fun _ => True) (fun _ => False) rfl rfl ?aO ?aR (fun _ _ h => h) (fun _ h => h.elim) ?aF (Below.refl _ _) ?aS ?aL ?_
         (case aR => first | (refine (congrArg (fun n_ => Kd.C _ _ _ n_ _) (show (l1.take (t383 : Int).toNat).length = t383.toNat from Z107)).mp ?_; exact Kd.C_keep 0 HR401.out Z46 hf401) | (rw [← show (l1.take (t383 : Int).toNat).length = t383.toNat from Z107]; exact Kd.C_keep 0 HR401.out Z46 hf401) | (exact Kd.C_keep 0 HR401.out Z46 hf401))
         (case aF => exact (fun _ _ => trivial))
         (case aO => exact (by (with_reducible repeat (first | apply Kd.R_alloc | apply Kd.R_drewN | apply Kd.R_drew)); exact HO400.out))
         (case aS => exact (keep_size (w := w) (g := g) (row := none) Z46))
         (case aL => have := LMc30.out; have hlx_ := (show (l1.take (t383 : Int).toNat).length = t383.toNat from Z107); omega)
         intro v403 w43 ho hb hg hat
         rw [← Ny402.out] at ho
         have n0_ := Aside0.mk (IsS64.grown Z48 hg (IsS64.own_ne HI0.out HO400.out (by decide)))
         have n1_ := Aside0.mk (below_weaken Z67 HL.out hb)
         have n2_ := Aside0.mk (KeepBut.trans Z46 (KeepBut.of_grown hg g) (Kd.R_base2 HO400.out))
         have n3_ := Aside0.mk (ho)
         clear HI0
         clear HB
         clear HK
         clear HO400
         have HI0 := n0_
         have HB := n1_
         have HK := n2_
         have HO404 := n3_
         clear n0_ n1_ n2_ n3_
         clear ho hb hg hat
         refine hK.out _ _ trivial (fun hHeld => ?_)
         clear hK K
         refine norm_ (a' := ?_) ?_ ?_
         rotate_left
         ·show Act.put _ (some 38) _ = _
          simp only [Act.put, List.setIfInBounds_toArray, List.set_cons_zero, List.set_cons_succ, i64_w, i32_w]
          rfl
         refine one_ (i := 6) (N := some 40) #[true, true, true, true, true, true, true, false, false, false, true, true, true, false, false] rfl rfl (one_of HT_.out (by kernel_rfl)) (by decide) (fun K hK => ?_)
         refine goes_ Tryd.func38 (by kernel_rfl) rfl #[.pointer (some ⟨g, 0, none⟩), .int .i64 9] (by rfl) rfl rfl Z44 ?_
         with_reducible refine (spec_l20Rd_pick.calls k g s0_0 t386 9 t405 t406 w0 _ ?side1 ?side2 A31.out).mono ?_
         (case side1 => exact Z47)
         (case side2 => exact Z61)
         rintro e w44 ⟨rfl, hi, hb, hk⟩
         refine ⟨_, rfl, ?_⟩
         have n0_ := Aside0.mk (Kd.R_mono (Kd.R_keep (IsS64.apart (show IsS64 w0 _ g s0_0 t386 from by repeat (first | (with_reducible first | exact HI0.out | apply IsS64.alloc | apply IsS64.drewN | apply IsS64.drew | apply IsS64.set_1) | exact HI0.out)) Z16 (by decide)) hk (fun _ h => h.2)) (fun _ h => h.1))
         have n1_ := Aside0.mk (KeepBut.trans Z46 hk (.inl rfl))
         have n2_ := Aside0.mk (hb)
         have n3_ := Aside0.mk (hi)
         clear HO404
         clear HK
         clear HB
         clear HI0
         have HO404 := n0_
         have HK := n1_
         have HB := n2_
         have HI0 := n3_
         clear n0_ n1_ n2_ n3_
         (try clear hb)
         (try clear hb2)
         (try clear hk)
         (try clear hi)
         refine hK.out _ _ trivial (fun hHeld => ?_)
         clear hK K
         refine norm_ (a' := ?_) ?_ ?_
         rotate_left
         ·show Act.put _ (some 40) _ = _
          simp only [Act.put, List.setIfInBounds_toArray, List.set_cons_zero, List.set_cons_succ, i64_w, i32_w]
          rfl
         refine pure_ (i := 7) (N := some 41) (v := ?_) (a' := ?_) #[true, true, true, true, true, true, true, true, false, false, true, true, true, false, false] rfl rfl (any_of HT_.out (by kernel_rfl)) (fun _ _ _ h => h) (Or.inl ⟨by rfl, ?_⟩) ?_ ?_
         rotate_left
         ·intro w'
          go_simp
          with_reducible rfl
         rotate_left
         ·simp only [Act.put, List.setIfInBounds_toArray, List.set_cons_zero, List.set_cons_succ, i64_w, i32_w]
          rfl
         refine one_ (i := 8) (N := some 42) #[true, true, true, true, true, true, true, true, true, false, true, true, true, false, false] rfl rfl (one_of HT_.out (by kernel_rfl)) (by decide) (fun K hK => ?_)
         refine value_ (w1 := ?_) (v := ?_) (by rfl) rfl ?_ ?_
         rotate_left 2
         ·go_simp
          constructor
          ·rfl
          ·rfl
         refine hK.out _ _ trivial (fun hHeld => ?_)
         clear hK K
         refine norm_ (a' := ?_) ?_ ?_
         rotate_left
         ·show Act.put _ (some 42) _ = _
          simp only [Act.put, List.setIfInBounds_toArray, List.set_cons_zero, List.set_cons_succ, i64_w, i32_w]
          rfl
         refine one_ (i := 9) (N := some 43) #[true, true, true, true, true, true, true, true, true, true, true, true, true, false, false] rfl rfl (one_of HT_.out (by kernel_rfl)) (by decide) (fun K hK => ?_)
         refine Kd.R_append_step (Kd.int .u8) w.heap.size (by rfl) (.tmp 38) (.tmp 42) 22 5 (.int .u8 0) 1 rfl Tryd.underlying22 info5 rfl (by decide) (by omega) v403 y402 ((t405) % 256) [.int .u8 ((t405) % 256)] (fun _ => True) (fun _ => False) rfl rfl ?aP (fun _ hk => hk.elim) ?aF ?aO (Below.refl _ _) ?aS ?aL ?_
         (case aP => exact rfl)
         (case aF => exact (fun _ _ => trivial))
         (case aO => exact Z16)
         (case aS => exact (keep_size (w := w) (g := g) (row := none) Z46))
         (case aL => have := LMc32.out; omega)
         intro v408 w45 ho hb hg hat
         rw [← Ny407.out] at ho
         have n0_ := Aside0.mk (IsS64.grown Z48 hg (IsS64.own_ne HI0.out HO404.out (by decide)))
         have n1_ := Aside0.mk (below_weaken Z67 HL.out hb)
         have n2_ := Aside0.mk (KeepBut.trans Z46 (KeepBut.of_grown hg g) (Kd.R_base2 HO404.out))
         have n3_ := Aside0.mk (ho)
         clear HI0
         clear HB
         clear HK
         clear HO404
         have HI0 := n0_
         have HB := n1_
         have HK := n2_
         have HO409 := n3_
         clear n0_ n1_ n2_ n3_
         clear ho hb hg hat
         refine hK.out _ _ trivial (fun hHeld => ?_)
         clear hK K
         refine norm_ (a' := ?_) ?_ ?_
         rotate_left
         ·show Act.put _ (some 43) _ = _
          simp only [Act.put, List.setIfInBounds_toArray, List.set_cons_zero, List.set_cons_succ, i64_w, i32_w]
          rfl
         refine one_ (i := 13) (N := some 47) #[true, true, true, true, true, true, true, true, true, true, true, true, true, true, false] rfl rfl (one_of HT_.out (by kernel_rfl)) (by decide) (fun K hK => ?_)
         refine Kd.R_append_rows_step (Kd.int .u8) w.heap.size (by rfl) (.tmp 43) (.tmp 46) 22 5 (.int .u8 0) 1 rfl Tryd.underlying22 info5 rfl (by decide) (by omega) v408 y407 (l1.drop (t383 : Int).toNat) _ _ _ (fun _ => True) (fun _ => False) rfl rfl ?aO ?aR (fun _ _ h => h) (fun _ h => h.elim) ?aF (Below.refl _ _) ?aS ?aL ?_
         (case aR => first | (rw [← show (l1.drop (t383 : Int).toNat).length = (l1.length - t383.toNat) from List.length_drop]; exact Kd.C_keep 0 HR410.out Z46 hf410) | (exact Kd.C_keep 0 HR410.out Z46 hf410))
         (case aF => exact (fun _ _ => trivial))
         (case aO => exact (by (with_reducible repeat (first | apply Kd.R_alloc | apply Kd.R_drewN | apply Kd.R_drew)); exact HO409.out))
         (case aS => exact (keep_size (w := w) (g := g) (row := none) Z46))
         (case aL => have := LMc35.out; have hlx_ := (show (l1.drop (t383 : Int).toNat).length = (l1.length - t383.toNat) from List.length_drop); omega)
         intro v412 w46 ho hb hg hat
         rw [← Ny411.out] at ho
         have n0_ := Aside0.mk (IsS64.grown Z48 hg (IsS64.own_ne HI0.out HO409.out (by decide)))
         have n1_ := Aside0.mk (below_weaken Z67 HL.out hb)
         have n2_ := Aside0.mk (KeepBut.trans Z46 (KeepBut.of_grown hg g) (Kd.R_base2 HO409.out))
         have n3_ := Aside0.mk (ho)
         clear HI0
         clear HB
         clear HK
         clear HO409
         have HI0 := n0_
         have HB := n1_
         have HK := n2_
         have HO413 := n3_
         clear n0_ n1_ n2_ n3_
         clear ho hb hg hat
         refine hK.out _ _ trivial (fun hHeld => ?_)
         clear hK K
         refine norm_ (a' := ?_) ?_ ?_
         rotate_left
         ·show Act.put _ (some 47) _ = _
          simp only [Act.put, List.setIfInBounds_toArray, List.set_cons_zero, List.set_cons_succ, i64_w, i32_w]
          rfl
         refine pure_ (i := 14) (N := some 4) (v := ?_) (a' := ?_) #[true, true, true, true, true, true, true, true, true, true, true, true, true, true, true] rfl rfl (any_of HT_.out (by kernel_rfl)) (fun _ _ _ h => h) (Or.inl ⟨by rfl, ?_⟩) ?_ ?_
         rotate_left
         ·intro w'
          go_simp
          with_reducible rfl
         rotate_left
         ·simp only [Act.put, List.setIfInBounds_toArray, List.set_cons_zero, List.set_cons_succ, i64_w, i32_w]
          rfl
         refine done_ (done_of HT_.out (by kernel_rfl)) ?_
         try go_wp2
         go_ret
         exact ⟨_, by first | rfl | (simp [errW_none, errW_some] <;> rfl) | (simp [*, errW_none, errW_some] <;> rfl), by (with_reducible repeat (first | apply Kd.R_alloc | apply Kd.R_drewN | apply Kd.R_drew)); exact HO413.out, by repeat (first | (with_reducible first | exact HI0.out | apply IsS64.alloc | apply IsS64.drewN | apply IsS64.drew | apply IsS64.set_1) | exact HI0.out), by repeat (first | (with_reducible first | exact HB.out | apply below_alloc | apply pw_below_drewN | apply below_drew1 | refine below_set ?_ (IsS64.ge HI0.out)) | exact HB.out), by repeat (first | (with_reducible first | exact HK.out | apply KeepBut.set_ | apply keep_drewN | apply keep_drew | apply keep_alloc) | exact HK.out)⟩
        ·rw [if_neg c35] at H
         exact absurd H (by simp)
       ·rw [if_neg c32] at H
        exact absurd H (by simp)
      ·rw [if_neg c30] at H
       exact absurd H (by simp)
     ·rw [if_neg c29] at H
      exact absurd H (by simp)
    ·rw [if_neg c28] at H
     exact absurd H (by simp)
   ·rw [if_neg c27] at H
    have c27b0 : (t385 == 1) = false := beq_eq_false_iff_ne.mpr c27
    have c27b1 : (t385 != 1) = true := bne_iff_ne.mpr c27
    obtain ⟨y414, hy414⟩ : ∃ y_ : List Int, y_ = (([] : List Int)) := ⟨_, rfl⟩
    replace H : (if y414.length + l1.length < 140737488355328 then ((some (y414 ++ l1 : List Int)).bind fun y417 => (if 0 ≤ t383 then (if t383 < (y417.length : Int) then ((spec_l20Rd_pick.f k s0_0 t386 255).bind fun bt421 => (some ((y417.set (t383 : Int).toNat (Go.bits .xor .u8 (rd y417 t383) ((wrap64 (1 + bt421.1)) % 256))), bt421.2))) else (none)) else (none))) else (none)) = some (r1, r2) := by first | (rw [hy414]; with_reducible exact H) | (have H2_ := (Option.bind_some _ _).symm.trans H; rw [hy414]; with_reducible exact H2_) | (have H2_ := (Option.bind_some _ _).symm.trans H; with_reducible exact H2_) | with_reducible exact H | (rw [hy414]; exact H) | exact H
    have Ny414 := Aside0.mk hy414
    clear hy414
    by_cases c47 : y414.length + l1.length < 140737488355328
    ·rw [if_pos c47] at H
     have LMc47 := Aside0.mk c47
     clear c47
     obtain ⟨y417, hy417⟩ : ∃ y_ : List Int, y_ = (y414 ++ l1) := ⟨_, rfl⟩
     replace H : (if 0 ≤ t383 then (if t383 < (y417.length : Int) then ((spec_l20Rd_pick.f k s0_0 t386 255).bind fun bt421 => (some ((y417.set (t383 : Int).toNat (Go.bits .xor .u8 (rd y417 t383) ((wrap64 (1 + bt421.1)) % 256))), bt421.2))) else (none)) else (none)) = some (r1, r2) := by first | (rw [hy417]; with_reducible exact H) | (have H2_ := (Option.bind_some _ _).symm.trans H; rw [hy417]; with_reducible exact H2_) | (have H2_ := (Option.bind_some _ _).symm.trans H; with_reducible exact H2_) | with_reducible exact H | (rw [hy417]; exact H) | exact H
     have Ny417 := Aside0.mk hy417
     clear hy417
     by_cases c48 : 0 ≤ t383
     ·rw [if_pos c48] at H
      have c48b0 : decide (0 ≤ t383) = true := decide_eq_true c48
      clear c48
      by_cases c49 : t383 < (y417.length : Int)
      ·rw [if_pos c49] at H
       have c49b0 : decide (t383 < (y417.length : Int)) = true := decide_eq_true c49
       clear c49
       replace H := Option.bind_eq_some_iff.mp H
       obtain ⟨⟨t421, t422⟩, A500, H⟩ := H
       replace H : (some ((y417.set (t383 : Int).toNat (Go.bits .xor .u8 (rd y417 t383) ((wrap64 (1 + t421)) % 256))), t422)) = some (r1, r2) := H
       have A50 := Aside0.mk A500
       clear A500
       obtain ⟨y423, hy423⟩ : ∃ y_ : List Int, y_ = (y417.set (t383 : Int).toNat (Go.bits .xor .u8 (rd y417 t383) ((wrap64 (1 + t421)) % 256))) := ⟨_, rfl⟩
       replace H : (some (y423, t422)) = some (r1, r2) := by first | (rw [hy423]; with_reducible exact H) | (have H2_ := (Option.bind_some _ _).symm.trans H; rw [hy423]; with_reducible exact H2_) | (have H2_ := (Option.bind_some _ _).symm.trans H; with_reducible exact H2_) | with_reducible exact H | (rw [hy423]; exact H) | exact H
       have Ny423 := Aside0.mk hy423
       clear hy423
       simp only [Option.some.injEq, Prod.mk.injEq] at H
       obtain ⟨rfl, rfl⟩ := H
       go_enter Tryd.func39, Tryd.ntmps39
       try go_wp2_with (first | ((with_reducible refine gate_callee (f := 38) rfl ?_); refine goesL_ (some 17) rfl rfl Tryd.func38 (by kernel_rfl) rfl #[.pointer (some ⟨g, 0, none⟩), .int .i64 (l1.length : Int)] rfl Z44 ?_; (with_reducible refine (spec_l20Rd_pick.calls k g s0_0 s0_1 (l1.length : Int) t383 t384 w0 _ ?side1 ?side2 A8.out).mono ?_); (case side1 => exact Z47); (case side2 => exact Z61); rintro e w52 ⟨rfl, hi, hb, hk⟩; refine ⟨_, rfl, ?_⟩; have n0_ := Aside0.mk (KeepBut.trans Z46 hk (.inl rfl)); have n1_ := Aside0.mk (hb); have n2_ := Aside0.mk (hi); clear HK; clear HB; clear HI0; have HK := n0_; have HB := n1_; have HI0 := n2_; clear n0_ n1_ n2_; (try clear hb); (try clear hk); (try clear hi)) | ((with_reducible refine gate_callee (f := 38) rfl ?_); refine goesL_ (some 19) rfl rfl Tryd.func38 (by kernel_rfl) rfl #[.pointer (some ⟨g, 0, none⟩), .int .i64 3] rfl Z44 ?_; (with_reducible refine (spec_l20Rd_pick.calls k g s0_0 t384 3 t385 t386 w0 _ ?side1 ?side2 A9.out).mono ?_); (case side1 => exact Z47); (case side2 => exact Z61); rintro e w53 ⟨rfl, hi, hb, hk⟩; refine ⟨_, rfl, ?_⟩; have n0_ := Aside0.mk (KeepBut.trans Z46 hk (.inl rfl)); have n1_ := Aside0.mk (hb); have n2_ := Aside0.mk (hi); clear HK; clear HB; clear HI0; have HK := n0_; have HB := n1_; have HI0 := n2_; clear n0_ n1_ n2_; (try clear hb); (try clear hk); (try clear hi)) | ((with_reducible refine gate_dst (N := 48) rfl ?_); refine Kd.R_lit (Kd.int .u8) _ 5 ?hg (N := 48) ?hd (xs := ([] : List Int)) (inner := []) (ok := fun _ => True) (okp := fun _ => True) ?hr ?hp (fun _ hk => hk) trivial (Below.refl _ _) (Nat.le_refl _) (by simp) ?_; (case hd => rfl); (case hg => rfl); (case hr => first | (go_simp; done) | (go_simp; rfl)); (case hp => exact (Reps.none _ _)); intro v415 w54 ho55 hb hg_ hnew_; clear hg_ hnew_; (first | rw [← Ny414.out] at ho55 | (simp only [Int.reduceToNat] at ho55; rw [← Ny414.out] at ho55)); have n0_ := Aside0.mk (Kd.R_lower ho55 (keep_size (w := w) (g := g) (row := none) Z46)); have n1_ := Aside0.mk (IsS64.below Z48 hb); have n2_ := Aside0.mk (KeepBut.trans Z46 (KeepBut.of_below hb g none) (.inl rfl)); have n3_ := Aside0.mk (below_step Z67 hb); clear HI0; clear HK; clear HB; have HO416 := n0_; have HI0 := n1_; have HK := n2_; have HB := n3_; clear n0_ n1_ n2_ n3_; clear hb ho55) | ((with_reducible refine gate_builtin (b := .append) (xs := #[.tmp 48, .tmp 49]) rfl ?_); at_builtin; refine Kd.R_append_rows (Kd.int .u8) w.heap.size rfl (.tmp 48) (.tmp 49) 22 5 (.int .u8 0) 1 rfl Tryd.underlying22 info5 rfl (by decide) (by omega) v415 y414 l1 _ _ _ (fun _ => True) (fun _ => False) rfl rfl ?aO ?aR (fun _ _ h => h) (fun _ h => h.elim) ?aF (Below.refl _ _) ?aS ?aL ?_; (case aR => exact Kd.C_keep 0 HR1.out Z46 hf1); (case aF => exact (fun _ _ => trivial)); (case aO => exact (by (with_reducible repeat (first | apply Kd.R_alloc | apply Kd.R_drewN | apply Kd.R_drew)); exact HO416.out)); (case aS => exact (keep_size (w := w) (g := g) (row := none) Z46)); (case aL => have := LMc47.out; omega); intro v418 w56 ho hb hg hat; rw [← Ny417.out] at ho; have n0_ := Aside0.mk (IsS64.grown Z48 hg (IsS64.own_ne HI0.out HO416.out (by decide))); have n1_ := Aside0.mk (below_weaken Z67 HL.out hb); have n2_ := Aside0.mk (KeepBut.trans Z46 (KeepBut.of_grown hg g) (Kd.R_base2 HO416.out)); have n3_ := Aside0.mk (ho); clear HI0; clear HB; clear HK; clear HO416; have HI0 := n0_; have HB := n1_; have HK := n2_; have HO419 := n3_; clear n0_ n1_ n2_ n3_; clear ho hb hg hat))
       have n0_ := Aside0.mk (Kd.R_drew HO419.out)
       have n1_ := Aside0.mk (IsS64.drew HI0.out)
       have n2_ := Aside0.mk (keep_drew HK.out)
       have n3_ := Aside0.mk (below_drew1 HB.out)
       clear HO419
       clear HI0
       clear HK
       clear HB
       have HO419 := n0_
       have HI0 := n1_
       have HK := n2_
       have HB := n3_
       clear n0_ n1_ n2_ n3_
       obtain ⟨Ao58, co58, eo58⟩ := Kd.R_slice HO419.out
       (first | subst eo58 | (injection eo58 with f1_ f2_ f3_; have f4_ := f1_.symm; have f5_ := f3_.symm; clear f1_ f2_ f3_; subst f4_; subst f5_))
       have p420 : 0 ≤ (t383 : Int) := of_decide_eq_true Z2
       have q420 : t383 < (y417.length : Int) := of_decide_eq_true Z2
       obtain ⟨ad420, e420, hx420_0⟩ := Kd.at_int (Kd.R_reads' HO419.out).2.2 t383 p420 q420
       cases e420
       replace p420 := eq_true p420
       replace q420 := eq_true q420
       refine start_ (n := 13) (S := fun w' => w'.cell? (ad420.add (t383).toNat) = some (.int .u8 (rd y417 t383))) (ds := [12]) #[false, false, false, false, false, false, false, false, false, false, false, false, false] (by kernel_rfl) rfl rfl (hx420_0) (fun hHeld => ?_); refine with_tabW spec_l20Turn.tab10 spec_l20Turn.bits10 (fun HT_ HW_ => ?_)
       generalize w56.drew = w57 at HO419 HI0 HK HB hx420_0 hHeld ⊢
       refine pure_ (i := 0) (N := some 51) (v := ?_) (a' := ?_) #[true, false, false, false, false, false, false, false, false, false, false, false, false] rfl rfl (any_of HT_.out (by kernel_rfl)) (fun _ _ _ h => h) (Or.inl ⟨by rfl, ?_⟩) ?_ ?_
       rotate_left
       ·intro w'
        go_simp
        with_reducible rfl
       rotate_left
       ·simp only [Act.put, List.setIfInBounds_toArray, List.set_cons_zero, List.set_cons_succ, i64_w, i32_w]
        rfl
       refine pure_ (i := 1) (N := some 52) (v := ?_) (a' := ?_) #[true, true, false, false, false, false, false, false, false, false, false, false, false] rfl rfl (any_of HT_.out (by kernel_rfl)) (fun _ _ _ h => h) (Or.inl ⟨by rfl, ?_⟩) ?_ ?_
       rotate_left
       ·intro w'
        go_simp
        with_reducible rfl
       rotate_left
       ·simp only [Act.put, List.setIfInBounds_toArray, List.set_cons_zero, List.set_cons_succ, i64_w, i32_w]
        rfl
       refine pure_ (i := 2) (N := some 53) (v := ?_) (a' := ?_) #[true, true, true, false, false, false, false, false, false, false, false, false, false] rfl rfl (any_of HT_.out (by kernel_rfl)) (fun _ _ _ h => h) (Or.inl ⟨by rfl, ?_⟩) ?_ ?_
       rotate_left
       ·intro w'
        go_simp
        with_reducible rfl
       rotate_left
       ·simp only [Act.put, List.setIfInBounds_toArray, List.set_cons_zero, List.set_cons_succ, i64_w, i32_w]
        rfl
       refine pure_ (i := 3) (N := some 54) (v := ?_) (a' := ?_) #[true, true, true, true, false, false, false, false, false, false, false, false, false] rfl rfl (any_of HT_.out (by kernel_rfl)) (fun _ _ _ h => h) (Or.inl ⟨by rfl, ?_⟩) ?_ ?_
       rotate_left
       ·intro w'
        go_simp
        with_reducible rfl
       rotate_left
       ·simp only [Act.put, List.setIfInBounds_toArray, List.set_cons_zero, List.set_cons_succ, i64_w, i32_w]
        rfl
       refine pure_ (i := 4) (N := some 55) (v := ?_) (a' := ?_) #[true, true, true, true, true, false, false, false, false, false, false, false, false] rfl rfl (any_of HT_.out (by kernel_rfl)) (fun _ _ _ h => h) (Or.inl ⟨by rfl, ?_⟩) ?_ ?_
       rotate_left
       ·intro w'
        go_simp
        with_reducible rfl
       rotate_left
       ·simp only [Act.put, List.setIfInBounds_toArray, List.set_cons_zero, List.set_cons_succ, i64_w, i32_w]
        rfl
       refine pure_ (i := 6) (N := some 57) (v := ?_) (a' := ?_) #[true, true, true, true, true, false, true, false, false, false, false, false, false] rfl rfl (any_of HT_.out (by kernel_rfl)) (fun _ _ _ h => h) (Or.inl ⟨by rfl, ?_⟩) ?_ ?_
       rotate_left
       ·intro w'
        go_simp
        with_reducible rfl
       rotate_left
       ·simp only [Act.put, List.setIfInBounds_toArray, List.set_cons_zero, List.set_cons_succ, i64_w, i32_w]
        rfl
       refine take_ (i := 5) (N := some 56) (v := ?_) (a' := ?_) #[true, true, true, true, true, true, true, false, false, false, false, false, false] rfl rfl (take_ofW HT_.out HW_.out (by kernel_rfl)) (fun _ _ _ h => h) (Or.inl ⟨by rfl, ?_⟩) hHeld ?_ ?_
       rotate_left
       ·intro w' s0
        go_simp
        with_reducible rfl
       rotate_left
       ·simp only [Act.put, List.setIfInBounds_toArray, List.set_cons_zero, List.set_cons_succ, i64_w, i32_w]
        rfl
       refine one_ (i := 7) (N := some 58) #[true, true, true, true, true, true, true, true, false, false, false, false, false] rfl rfl (one_of HT_.out (by kernel_rfl)) (by decide) (fun K hK => ?_)
       refine goes_ Tryd.func38 (by kernel_rfl) rfl #[.pointer (some ⟨g, 0, none⟩), .int .i64 255] (by rfl) rfl rfl Z44 ?_
       with_reducible refine (spec_l20Rd_pick.calls k g s0_0 t386 255 t421 t422 w0 _ ?side1 ?side2 A50.out).mono ?_
       (case side1 => exact Z47)
       (case side2 => exact Z61)
       rintro e w59 ⟨rfl, hi, hb, hk⟩
       have HS0_ := keep_cell hk (hHeld) (by first | (rw [add_block]; exact Kd.own_blk (IsS64.own_ne HI0.out HO419.out (by decide))) | (show (Addr.add _ _).block ≠ _; rw [add_block]; exact Kd.own_blk (IsS64.own_ne HI0.out HO419.out (by decide))) | exact Kd.own_blk (IsS64.own_ne HI0.out HO419.out (by decide)))
       refine ⟨_, rfl, ?_⟩
       have n0_ := Aside0.mk (Kd.R_mono (Kd.R_keep (IsS64.apart (show IsS64 w0 _ g s0_0 t386 from by repeat (first | (with_reducible first | exact HI0.out | apply IsS64.alloc | apply IsS64.drewN | apply IsS64.drew | apply IsS64.set_1) | exact HI0.out)) (by (with_reducible repeat (first | apply Kd.R_alloc | apply Kd.R_drewN | apply Kd.R_drew)); exact HO419.out) (by decide)) hk (fun _ h => h.2)) (fun _ h => h.1))
       have n1_ := Aside0.mk (KeepBut.trans Z46 hk (.inl rfl))
       have n2_ := Aside0.mk (hb)
       have n3_ := Aside0.mk (hi)
       clear HO419
       clear HK
       clear HB
       clear HI0
       have HO419 := n0_
       have HK := n1_
       have HB := n2_
       have HI0 := n3_
       clear n0_ n1_ n2_ n3_
       (try clear hb)
       (try clear hb2)
       (try clear hk)
       (try clear hi)
       have p51 : 0 ≤ (t383 : Int) := of_decide_eq_true Z2
       have q51 : (t383 : Int) < ((y417.length : Int) : Int) := of_decide_eq_true Z2
       obtain ⟨go51, co51, eo51, gb51, gl51, cl51, HG51⟩ := Kd.R_form HO419.out (by omega)
       (first | cases eo51 | (injection eo51 with ea_ en_ ec_; (first | subst ea_ | (injection ea_ with ea_; subst ea_)); subst ec_; clear en_))
       have GB51 := Aside0.mk gb51
       have GG51 := Aside0.mk HG51
       clear gb51 gl51 HG51
       (first | simp only [add_plain] at hx420_0 | skip)
       obtain ⟨hx51_0, hf51_0⟩ := Kd.R_celln 0 HO419.out (t383 : Int) p51 q51
       replace p51 := eq_true p51
       replace q51 := eq_true q51
       have HN0_go51 := Aside0.mk (show g ≠ go51 from by have h_ := IsS64.own_ne HI0.out HO419.out (by decide); intro e_; exact h_ (by rw [e_]; rfl))
       have HP60 := Kd.R_putn HO419.out (t383 : Int) (Go.bits .xor .u8 (rd y417 t383) ((wrap64 (1 + t421)) % 256))
       rw [← Ny423.out] at HP60
       have HQ60 := Aside0.mk HP60
       clear HP60
       refine hK.out _ _ (HS0_) (fun hHeld => ?_)
       clear hK K
       refine norm_ (a' := ?_) ?_ ?_
       rotate_left
       ·show Act.put _ (some 58) _ = _
        simp only [Act.put, List.setIfInBounds_toArray, List.set_cons_zero, List.set_cons_succ, i64_w, i32_w]
        rfl
       refine pure_ (i := 8) (N := some 59) (v := ?_) (a' := ?_) #[true, true, true, true, true, true, true, true, true, false, false, false, false] rfl rfl (any_of HT_.out (by kernel_rfl)) (fun _ _ _ h => h) (Or.inl ⟨by rfl, ?_⟩) ?_ ?_
       rotate_left
       ·intro w'
        go_simp
        with_reducible rfl
       rotate_left
       ·simp only [Act.put, List.setIfInBounds_toArray, List.set_cons_zero, List.set_cons_succ, i64_w, i32_w]
        rfl
       refine pure_ (i := 9) (N := some 60) (v := ?_) (a' := ?_) #[true, true, true, true, true, true, true, true, true, true, false, false, false] rfl rfl (any_of HT_.out (by kernel_rfl)) (fun _ _ _ h => h) (Or.inl ⟨by rfl, ?_⟩) ?_ ?_
       rotate_left
       ·intro w'
        go_simp
        with_reducible rfl
       rotate_left
       ·simp only [Act.put, List.setIfInBounds_toArray, List.set_cons_zero, List.set_cons_succ, i64_w, i32_w]
        rfl
       refine pure_ (i := 10) (N := some 61) (v := ?_) (a' := ?_) #[true, true, true, true, true, true, true, true, true, true, true, false, false] rfl rfl (any_of HT_.out (by kernel_rfl)) (fun _ _ _ h => h) (Or.inl ⟨by rfl, ?_⟩) ?_ ?_
       rotate_left
       ·intro w'
        go_simp
        with_reducible rfl
       rotate_left
       ·simp only [Act.put, List.setIfInBounds_toArray, List.set_cons_zero, List.set_cons_succ, i64_w, i32_w]
        rfl
       refine pure_ (i := 11) (N := some 62) (v := ?_) (a' := ?_) #[true, true, true, true, true, true, true, true, true, true, true, true, false] rfl rfl (any_of HT_.out (by kernel_rfl)) (fun _ _ _ h => h) (Or.inl ⟨by rfl, ?_⟩) ?_ ?_
       rotate_left
       ·intro w'
        go_simp
        with_reducible rfl
       rotate_left
       ·simp only [Act.put, List.setIfInBounds_toArray, List.set_cons_zero, List.set_cons_succ, i64_w, i32_w]
        rfl
       refine last_ (i := 12) (N := none) #[true, true, true, true, true, true, true, true, true, true, true, true, true] rfl rfl (one_of HT_.out (by kernel_rfl)) (by decide) (fun K hK => ?_)
       refine skip_ (w1 := ?_) (by rfl) rfl ?_ ?_
       rotate_left
       ·go_simp
        rfl
       refine hK.out _ _ ?_
       clear hK K
       refine done_ (done_of HT_.out (by kernel_rfl)) ?_
       try go_wp2
       go_ret
       exact ⟨_, by first | rfl | (simp [errW_none, errW_some] <;> rfl) | (simp [*, errW_none, errW_some] <;> rfl), by (with_reducible repeat (first | apply Kd.R_alloc | apply Kd.R_drewN | apply Kd.R_drew)); exact HQ60.out, by repeat (first | (with_reducible first | exact HI0.out | apply IsS64.alloc | apply IsS64.drewN | apply IsS64.drew | apply IsS64.set_1 | refine IsS64.far ?_ HN0_go51.out _) | exact HI0.out), by repeat (first | (with_reducible first | exact HB.out | apply below_alloc | apply pw_below_drewN | apply below_drew1 | refine below_set ?_ (Nat.le_trans HL.out GB51.out) | refine below_set ?_ (IsS64.ge HI0.out)) | exact HB.out), by repeat (first | (with_reducible first | exact HK.out | apply KeepBut.set_ | apply keep_drewN | apply keep_drew | apply keep_alloc | refine keep_far ?_ GB51.out _) | exact HK.out)⟩
      ·rw [if_neg c49] at H
       exact absurd H (by simp)
     ·rw [if_neg c48] at H
      exact absurd H (by simp)
    ·rw [if_neg c47] at H
     exact absurd H (by simp)

end Go.Proofs.YtdfoelhpeeanlaaDoor.QFnSegBytes
