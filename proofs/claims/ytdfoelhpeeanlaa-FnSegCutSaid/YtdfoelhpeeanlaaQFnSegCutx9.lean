-- Laid by a program of this repo (wip/tools/sprint.py): print.py's functions and walks; the contracts named 'BY HAND' are proved by hand.
import Derived.Test.YtdfoelhpeeanlaaQFnSegCutx6
import Derived.Test.YtdfoelhpeeanlaaQFnSegCutx3
import Derived.Test.YtdfoelhpeeanlaaQFnSegCutx2
import Derived.Test.YtdfoelhpeeanlaaQFnSegCutx0
import Derived.Test.YtdfoelhpeeanlaaQFnSegCutx1
import Derived.Test.YtdfoelhpeeanlaaQFnSegCutx4
import Derived.Test.YtdfoelhpeeanlaaQFnSegCutx5
import Derived.Test.YtdfoelhpeeanlaaQFnSegCutx7
import Derived.Test.YtdfoelhpeeanlaaQFnSegCutx8
namespace Go.Proofs.Ytdfoelhpeeanlaa.QFnSegCut
open Go.RowKit Go.Proofs.YtdfoelhpeeanlaaW.PrintWords Go.Proofs.YtdfoelhpeeanlaaW.PrintLast Go.Proofs.YtdfoelhpeeanlaaW.PrintMore
attribute [local go_sem] max2_int min2_int max_two min_two max_three min_three max_four min_four   -- for this text's walks alone
set_option linter.unusedVariables false
set_option linter.unusedSimpArgs false

attribute [local go_sem high] eqA29
/-! ### laws_FnSegCut: function 9 -/
theorem lexFrom_mask {md : Region.Mode} {ops : Array Oper}
  (hq : (List.range ops.size).all (fun k => match ops[k]? with
   | none => false
   | some o => o.after.all (fun e => !Region.binds md e || decide (e.on < k)) && (List.range ops.size).all (fun j => decide (j ≤ k) || match ops[j]? with
    | some oj => oj.after.any (fun e => Region.binds md e && e.on == k) || o.apart ops oj
    | none => true)) = true) :
  ∀ (fuel k : Nat) (listed : Array Bool), k + fuel = ops.size → listed.size = ops.size → (∀ i (d : Bool), i < ops.size → listed.getD i d = decide (i < k)) →
  Region.lexFrom md ops fuel k listed = true := by
 intro fuel
 induction fuel with
 | zero =>
  intro k listed hk hs hl
  unfold Region.lexFrom
  rw [List.isEmpty_iff]
  apply List.eq_nil_iff_forall_not_mem.2
  intro j hj
  obtain ⟨h0, o, ho, _⟩ := mem_ready.1 hj
  have hlt := (Array.getElem?_eq_some_iff.1 ho).1
  rw [hl j true hlt] at h0
  simp at h0
  omega
 | succ fuel ih =>
  intro k listed hk hs hl
  have hkn : k < ops.size := by omega
  have h := List.all_eq_true.1 hq k (List.mem_range.2 hkn)
  obtain ⟨o, ho⟩ : ∃ o, ops[k]? = some o := ⟨_, Array.getElem?_eq_getElem hkn⟩
  simp only [ho, Bool.and_eq_true, Array.all_eq_true_iff_forall_mem, Bool.or_eq_true, Bool.not_eq_true', decide_eq_true_eq, List.all_eq_true, List.mem_range] at h
  obtain ⟨h1, h2⟩ := h
  unfold Region.lexFrom
  rw [Bool.and_eq_true, Bool.and_eq_true]
  refine ⟨⟨?_, ?_⟩, ih (k + 1) _ (by omega) (by simpa using hs) (fun i d hi => ?_)⟩
  ·rw [List.contains_iff_mem]
   refine mem_ready.2 ⟨by rw [hl k true hkn]; simp, o, ho, fun e he hb => ?_⟩
   rcases h1 e he with h | h
   ·rw [hb] at h; cases h
   ·rw [hl e.on false (by omega)]; exact decide_eq_true h
  ·unfold Region.free
   rw [ho]
   simp only [List.all_eq_true, List.mem_range]
   intro j hj
   have := h2 j hj
   by_cases hjk : j = k
   ·simp [hjk]
   ·rw [hl j true hj]
    rcases this with h | h
    ·simp [show j < k by omega]
    ·rw [Bool.or_eq_true]; exact .inr h
  ·by_cases hik : k = i
   ·subst hik
    rw [Array.getD_eq_getD_getElem?, Array.getElem?_setIfInBounds_self_of_lt (by omega)]
    simp
   ·rw [getD_set_ne d hik, hl i d hi]
    apply decide_eq_decide.2
    omega
theorem lexB_of {md : Region.Mode} {ops : Array Oper} (hn : Region.noSelect ops = true)
  (hq : (List.range ops.size).all (fun k => match ops[k]? with
   | none => false
   | some o => o.after.all (fun e => !Region.binds md e || decide (e.on < k)) && (List.range ops.size).all (fun j => decide (j ≤ k) || match ops[j]? with
    | some oj => oj.after.any (fun e => Region.binds md e && e.on == k) || o.apart ops oj
    | none => true)) = true) : Region.lexB md ops = true := by
 unfold Region.lexB
 rw [hn, Bool.true_and]
 exact lexFrom_mask hq _ 0 _ (Nat.zero_add _) (by simp) (fun i d hi => by
  rw [Array.getD_eq_getD_getElem?]; simp [hi])
mutual
def laws_FnSegCut.j0 : Nat → ByteArray → Int → List (S31) → Bool → Int → Int → Int → Int → Int → Int → ByteArray → Option (Bool)
 | 0, _, _, _, _, _, _, _, _, _, _, _ => none
 | k + 1, x4, x5, x6, x41, x355000, x355001, x355002, x355003, x355004, x355005, x355006 => if x41 = true then (if (x6.length : Int) = 0 then ((laws_haOk.f).bind fun t363 => (some t363)) else (some false)) else (if x5 ≥ (x4.size : Int) then (if (x6.length : Int) = 1 then (if 0 < (x6.length : Int) then (if ((rd_T31 x6 0).f4).toList = ([] : List UInt8) then (if ((rd_T31 x6 0).f2) = (x4.size : Int) then (if (((rd_T31 x6 0).f0.f0) == x355000 && (((rd_T31 x6 0).f0.f1) == x355001)) = true then (if (((rd_T31 x6 0).f1.f0) == x355002 && (((rd_T31 x6 0).f1.f1) == x355003)) = true then (some (((rd_T31 x6 0).f3) == x355005)) else (some false)) else (some false)) else (some false)) else (some false)) else (none)) else (some false)) else (laws_FnSegCut.l0 k x4 x6 x5 0 x355000 x355001 x355002 x355003 x355004 x355005 x355006))
def laws_FnSegCut.l0 : Nat → ByteArray → List (S31) → Int → Int → Int → Int → Int → Int → Int → Int → ByteArray → Option (Bool)
 | 0, _, _, _, _, _, _, _, _, _, _, _ => none
 | k + 1, x4, x6, x7, x8, x355000, x355001, x355002, x355003, x355004, x355005, x355006 => if x8 < (x6.length : Int) then (if 0 ≤ x8 then (if (!(((rd_T31 x6 x8).f0.f0) == x355000) || (!(((rd_T31 x6 x8).f0.f1) == x355001))) = true then (some false) else (if (!(((rd_T31 x6 x8).f1.f0) == x355002) || (!(((rd_T31 x6 x8).f1.f1) == x355003))) = true then (some false) else (if ((rd_T31 x6 x8).f3) = x355005 then (if ((rd_T31 x6 x8).f2) = x7 then (if (wrap64 (((rd_T31 x6 x8).f2) + (((rd_T31 x6 x8).f4).size : Int))) > (x4.size : Int) then (some false) else (if 0 ≤ ((rd_T31 x6 x8).f2) then (if ((rd_T31 x6 x8).f2) ≤ (wrap64 (((rd_T31 x6 x8).f2) + (((rd_T31 x6 x8).f4).size : Int))) then (if (wrap64 (((rd_T31 x6 x8).f2) + (((rd_T31 x6 x8).f4).size : Int))) ≤ (x4.size : Int) then (if (x4.extract (((rd_T31 x6 x8).f2) : Int).toNat ((wrap64 (((rd_T31 x6 x8).f2) + (((rd_T31 x6 x8).f4).size : Int))) : Int).toNat).toList = ((rd_T31 x6 x8).f4).toList then (if x8 < (wrap64 ((x6.length : Int) - 1)) then (if (((rd_T31 x6 x8).f4).size : Int) = 12 then (if ((rd_T31 x6 x8).f4).toList = ([] : List UInt8) then (some false) else (if (((rd_T31 x6 x8).f4).size : Int) > 12 then (some false) else (laws_FnSegCut.l0 k x4 x6 (wrap64 (x7 + (((rd_T31 x6 x8).f4).size : Int))) (wrap64 (x8 + 1)) x355000 x355001 x355002 x355003 x355004 x355005 x355006))) else (some false)) else (if ((rd_T31 x6 x8).f4).toList = ([] : List UInt8) then (some false) else (if (((rd_T31 x6 x8).f4).size : Int) > 12 then (some false) else (laws_FnSegCut.l0 k x4 x6 (wrap64 (x7 + (((rd_T31 x6 x8).f4).size : Int))) (wrap64 (x8 + 1)) x355000 x355001 x355002 x355003 x355004 x355005 x355006)))) else (some false)) else (none)) else (none)) else (none))) else (some false)) else (some false)))) else (none)) else (some (x7 == (x4.size : Int)))
end
def laws_FnSegCut.f (k : Nat) (l0 : List Int) : Option (Bool) := if (l0.length : Int) > 1048576 then (some true) else ((spec_DrawSegCut.f k l0).bind fun bt345 => ((impl_SegCut.f k bt345.1 bt345.2.1 bt345.2.2.1 bt345.2.2.2.1 bt345.2.2.2.2.1 bt345.2.2.2.2.2.1 bt345.2.2.2.2.2.2.1 bt345.2.2.2.2.2.2.2.1 bt345.2.2.2.2.2.2.2.2).bind fun t355 => ((spec_SegCut.f k bt345.1 bt345.2.1 bt345.2.2.1 bt345.2.2.2.1 bt345.2.2.2.2.1 bt345.2.2.2.2.2.1 bt345.2.2.2.2.2.2.1 bt345.2.2.2.2.2.2.2.1 bt345.2.2.2.2.2.2.2.2).bind fun t358 => ((laws_haSegs.f k t355 t358).bind fun t361 => (if t361 = true then ((spec_SegOk.f k bt345.1 bt345.2.1 bt345.2.2.1 bt345.2.2.2.1 bt345.2.2.2.2.1 bt345.2.2.2.2.2.1 bt345.2.2.2.2.2.2.1).bind fun t362 => (if t362 = true then (if bt345.2.2.2.2.2.2.2.2 < 0 then (laws_FnSegCut.j0 k bt345.2.2.2.2.2.2.2.1 bt345.2.2.2.2.2.2.2.2 t355 true bt345.1 bt345.2.1 bt345.2.2.1 bt345.2.2.2.1 bt345.2.2.2.2.1 bt345.2.2.2.2.2.1 bt345.2.2.2.2.2.2.1) else (laws_FnSegCut.j0 k bt345.2.2.2.2.2.2.2.1 bt345.2.2.2.2.2.2.2.2 t355 (decide ((bt345.2.2.2.2.2.2.2.1.size : Int) > 240)) bt345.1 bt345.2.1 bt345.2.2.1 bt345.2.2.2.1 bt345.2.2.2.2.1 bt345.2.2.2.2.2.1 bt345.2.2.2.2.2.2.1)) else (laws_FnSegCut.j0 k bt345.2.2.2.2.2.2.2.1 bt345.2.2.2.2.2.2.2.2 t355 true bt345.1 bt345.2.1 bt345.2.2.1 bt345.2.2.2.1 bt345.2.2.2.2.1 bt345.2.2.2.2.2.1 bt345.2.2.2.2.2.2.1))) else (some false))))))
theorem laws_FnSegCut.mono_l : ∀ k, (∀ y0 y1 y2 y3 y4 y5 y6 y7 y8 y9 y10, LeO (laws_FnSegCut.j0 k y0 y1 y2 y3 y4 y5 y6 y7 y8 y9 y10) (laws_FnSegCut.j0 (k + 1) y0 y1 y2 y3 y4 y5 y6 y7 y8 y9 y10)) ∧ (∀ y0 y1 y2 y3 y4 y5 y6 y7 y8 y9 y10, LeO (laws_FnSegCut.l0 k y0 y1 y2 y3 y4 y5 y6 y7 y8 y9 y10) (laws_FnSegCut.l0 (k + 1) y0 y1 y2 y3 y4 y5 y6 y7 y8 y9 y10))
 | 0 => ⟨fun _ _ _ _ _ _ _ _ _ _ _ r h => by simp [laws_FnSegCut.j0] at h, fun _ _ _ _ _ _ _ _ _ _ _ r h => by simp [laws_FnSegCut.l0] at h⟩
 | k + 1 => by
  obtain ⟨ih0, ih1⟩ := laws_FnSegCut.mono_l k
  refine ⟨?_, ?_⟩
  ·intro y0 y1 y2 y3 y4 y5 y6 y7 y8 y9 y10
   unfold laws_FnSegCut.j0
   repeat' first
   | (with_reducible exact ih0 _ _ _ _ _ _ _ _ _ _ _)
   | (with_reducible exact ih1 _ _ _ _ _ _ _ _ _ _ _)
   | (with_reducible exact impl_SegCut.mono _ _ _ _ _ _ _ _ _ _)
   | (with_reducible exact laws_haSegs.mono _ _ _)
   | (with_reducible exact spec_DrawSegCut.mono _ _)
   | (with_reducible exact spec_SegCut.mono _ _ _ _ _ _ _ _ _ _)
   | (with_reducible exact spec_SegOk.mono _ _ _ _ _ _ _ _)
   | (with_reducible exact LeO.refl _)
   | (with_reducible exact LeO.none _)
   | (with_reducible refine LeO.ite ?_ ?_)
   | (with_reducible refine LeO.bind ?_ (fun _ => ?_))
   | exact ih0 _ _ _ _ _ _ _ _ _ _ _
   | exact ih1 _ _ _ _ _ _ _ _ _ _ _
   | exact impl_SegCut.mono _ _ _ _ _ _ _ _ _ _
   | exact laws_haSegs.mono _ _ _
   | exact spec_DrawSegCut.mono _ _
   | exact spec_SegCut.mono _ _ _ _ _ _ _ _ _ _
   | exact spec_SegOk.mono _ _ _ _ _ _ _ _
   | exact LeO.none _
   | refine LeO.ite ?_ ?_
   | refine LeO.bind ?_ (fun _ => ?_)
  ·intro y0 y1 y2 y3 y4 y5 y6 y7 y8 y9 y10
   unfold laws_FnSegCut.l0
   repeat' first
   | (with_reducible exact ih0 _ _ _ _ _ _ _ _ _ _ _)
   | (with_reducible exact ih1 _ _ _ _ _ _ _ _ _ _ _)
   | (with_reducible exact impl_SegCut.mono _ _ _ _ _ _ _ _ _ _)
   | (with_reducible exact laws_haSegs.mono _ _ _)
   | (with_reducible exact spec_DrawSegCut.mono _ _)
   | (with_reducible exact spec_SegCut.mono _ _ _ _ _ _ _ _ _ _)
   | (with_reducible exact spec_SegOk.mono _ _ _ _ _ _ _ _)
   | (with_reducible exact LeO.refl _)
   | (with_reducible exact LeO.none _)
   | (with_reducible refine LeO.ite ?_ ?_)
   | (with_reducible refine LeO.bind ?_ (fun _ => ?_))
   | exact ih0 _ _ _ _ _ _ _ _ _ _ _
   | exact ih1 _ _ _ _ _ _ _ _ _ _ _
   | exact impl_SegCut.mono _ _ _ _ _ _ _ _ _ _
   | exact laws_haSegs.mono _ _ _
   | exact spec_DrawSegCut.mono _ _
   | exact spec_SegCut.mono _ _ _ _ _ _ _ _ _ _
   | exact spec_SegOk.mono _ _ _ _ _ _ _ _
   | exact LeO.none _
   | refine LeO.ite ?_ ?_
   | refine LeO.bind ?_ (fun _ => ?_)
theorem laws_FnSegCut.mono : ∀ a0 k, LeO (laws_FnSegCut.f k a0) (laws_FnSegCut.f (k + 1) a0) := by
 intro a0 k
 obtain ⟨ih0, ih1⟩ := laws_FnSegCut.mono_l k
 unfold laws_FnSegCut.f
 repeat' first
   | (with_reducible exact ih0 _ _ _ _ _ _ _ _ _ _ _)
   | (with_reducible exact ih1 _ _ _ _ _ _ _ _ _ _ _)
   | (with_reducible exact impl_SegCut.mono _ _ _ _ _ _ _ _ _ _)
   | (with_reducible exact laws_haSegs.mono _ _ _)
   | (with_reducible exact spec_DrawSegCut.mono _ _)
   | (with_reducible exact spec_SegCut.mono _ _ _ _ _ _ _ _ _ _)
   | (with_reducible exact spec_SegOk.mono _ _ _ _ _ _ _ _)
   | (with_reducible exact LeO.refl _)
   | (with_reducible exact LeO.none _)
   | (with_reducible refine LeO.ite ?_ ?_)
   | (with_reducible refine LeO.bind ?_ (fun _ => ?_))
   | exact ih0 _ _ _ _ _ _ _ _ _ _ _
   | exact ih1 _ _ _ _ _ _ _ _ _ _ _
   | exact impl_SegCut.mono _ _ _ _ _ _ _ _ _ _
   | exact laws_haSegs.mono _ _ _
   | exact spec_DrawSegCut.mono _ _
   | exact spec_SegCut.mono _ _ _ _ _ _ _ _ _ _
   | exact spec_SegOk.mono _ _ _ _ _ _ _ _
   | exact LeO.none _
   | refine LeO.ite ?_ ?_
   | refine LeO.bind ?_ (fun _ => ?_)
set_option maxHeartbeats 8000000 in
set_option maxRecDepth 100000 in
theorem laws_FnSegCut.calls (k : Nat) (A0 : Option Addr) (c0 : Nat) (l0 : List Int) (r : Bool) (hr_ : r = true) (w : World) (hr0 : Kd.C (Kd.int .u8) w A0 l0.length l0) (hc0 : l0.length ≤ c0) (h : laws_FnSegCut.f k l0 = some r) :
  Calls Try.prog 9 #[.slice A0 l0.length c0] w fun e w' => e = .returned (.bool r) ∧ Below w.heap.size w w' := by
 have hu31 := Try.underlying31
 have hu29 := Try.underlying29
 have HR0 := Aside0.mk hr0
 have HC0 := Aside0.mk hc0
 clear hr0 hc0
 have HR_ := Aside0.mk hr_
 clear hr_
 have HB := Aside0.mk (Below.refl w.heap.size w)
 have H : (if (l0.length : Int) > 1048576 then (some true) else ((spec_DrawSegCut.f k l0).bind fun bt345 => ((impl_SegCut.f k bt345.1 bt345.2.1 bt345.2.2.1 bt345.2.2.2.1 bt345.2.2.2.2.1 bt345.2.2.2.2.2.1 bt345.2.2.2.2.2.2.1 bt345.2.2.2.2.2.2.2.1 bt345.2.2.2.2.2.2.2.2).bind fun t355 => ((spec_SegCut.f k bt345.1 bt345.2.1 bt345.2.2.1 bt345.2.2.2.1 bt345.2.2.2.2.1 bt345.2.2.2.2.2.1 bt345.2.2.2.2.2.2.1 bt345.2.2.2.2.2.2.2.1 bt345.2.2.2.2.2.2.2.2).bind fun t358 => ((laws_haSegs.f k t355 t358).bind fun t361 => (if t361 = true then ((spec_SegOk.f k bt345.1 bt345.2.1 bt345.2.2.1 bt345.2.2.2.1 bt345.2.2.2.2.1 bt345.2.2.2.2.2.1 bt345.2.2.2.2.2.2.1).bind fun t362 => (if t362 = true then (if bt345.2.2.2.2.2.2.2.2 < 0 then (laws_FnSegCut.j0 k bt345.2.2.2.2.2.2.2.1 bt345.2.2.2.2.2.2.2.2 t355 true bt345.1 bt345.2.1 bt345.2.2.1 bt345.2.2.2.1 bt345.2.2.2.2.1 bt345.2.2.2.2.2.1 bt345.2.2.2.2.2.2.1) else (laws_FnSegCut.j0 k bt345.2.2.2.2.2.2.2.1 bt345.2.2.2.2.2.2.2.2 t355 (decide ((bt345.2.2.2.2.2.2.2.1.size : Int) > 240)) bt345.1 bt345.2.1 bt345.2.2.1 bt345.2.2.2.1 bt345.2.2.2.2.1 bt345.2.2.2.2.2.1 bt345.2.2.2.2.2.2.1)) else (laws_FnSegCut.j0 k bt345.2.2.2.2.2.2.2.1 bt345.2.2.2.2.2.2.2.2 t355 true bt345.1 bt345.2.1 bt345.2.2.1 bt345.2.2.2.1 bt345.2.2.2.2.1 bt345.2.2.2.2.2.1 bt345.2.2.2.2.2.2.1))) else (some false))))))) = some r := h
 clear h
 by_cases c2 : (l0.length : Int) > 1048576
 ·rw [if_pos c2] at H
  have c2b0 : decide (1048576 < (l0.length : Int)) = true := decide_eq_true c2
  have c2b1 : decide (1048576 < l0.length) = true := decide_eq_true (by omega)
  clear c2
  obtain rfl := Option.some.inj H
  go_enter Try.func9, Try.ntmps9
  go_wp2
  repeat (go_quiet (fail); try go_wp2)
  go_ret
  exact ⟨by first | rfl | (simp [errW_none, errW_some] <;> rfl) | (simp [*, errW_none, errW_some] <;> rfl), by repeat (first | (with_reducible first | exact HB.out | apply below_alloc | apply pw_below_drewN | apply below_drew1) | exact HB.out)⟩
 ·rw [if_neg c2] at H
  have c2b0 : decide (1048576 < (l0.length : Int)) = false := decide_eq_false c2
  have c2b1 : decide (1048576 < l0.length) = false := decide_eq_false (by omega)
  clear c2
  replace H := Option.bind_eq_some_iff.mp H
  obtain ⟨⟨t345, t346, t347, t348, t349, t350, t351, t352, t353⟩, A30, H⟩ := H
  replace H : ((impl_SegCut.f k t345 t346 t347 t348 t349 t350 t351 t352 t353).bind fun t355 => ((spec_SegCut.f k t345 t346 t347 t348 t349 t350 t351 t352 t353).bind fun t358 => ((laws_haSegs.f k t355 t358).bind fun t361 => (if t361 = true then ((spec_SegOk.f k t345 t346 t347 t348 t349 t350 t351).bind fun t362 => (if t362 = true then (if t353 < 0 then (laws_FnSegCut.j0 k t352 t353 t355 true t345 t346 t347 t348 t349 t350 t351) else (laws_FnSegCut.j0 k t352 t353 t355 (decide ((t352.size : Int) > 240)) t345 t346 t347 t348 t349 t350 t351)) else (laws_FnSegCut.j0 k t352 t353 t355 true t345 t346 t347 t348 t349 t350 t351))) else (some false))))) = some r := H
  have A3 := Aside0.mk A30
  clear A30
  replace H := Option.bind_eq_some_iff.mp H
  obtain ⟨t355, A40, H⟩ := H
  replace H : ((spec_SegCut.f k t345 t346 t347 t348 t349 t350 t351 t352 t353).bind fun t358 => ((laws_haSegs.f k t355 t358).bind fun t361 => (if t361 = true then ((spec_SegOk.f k t345 t346 t347 t348 t349 t350 t351).bind fun t362 => (if t362 = true then (if t353 < 0 then (laws_FnSegCut.j0 k t352 t353 t355 true t345 t346 t347 t348 t349 t350 t351) else (laws_FnSegCut.j0 k t352 t353 t355 (decide ((t352.size : Int) > 240)) t345 t346 t347 t348 t349 t350 t351)) else (laws_FnSegCut.j0 k t352 t353 t355 true t345 t346 t347 t348 t349 t350 t351))) else (some false)))) = some r := H
  have A4 := Aside0.mk A40
  clear A40
  replace H := Option.bind_eq_some_iff.mp H
  obtain ⟨t358, A50, H⟩ := H
  replace H : ((laws_haSegs.f k t355 t358).bind fun t361 => (if t361 = true then ((spec_SegOk.f k t345 t346 t347 t348 t349 t350 t351).bind fun t362 => (if t362 = true then (if t353 < 0 then (laws_FnSegCut.j0 k t352 t353 t355 true t345 t346 t347 t348 t349 t350 t351) else (laws_FnSegCut.j0 k t352 t353 t355 (decide ((t352.size : Int) > 240)) t345 t346 t347 t348 t349 t350 t351)) else (laws_FnSegCut.j0 k t352 t353 t355 true t345 t346 t347 t348 t349 t350 t351))) else (some false))) = some r := H
  have A5 := Aside0.mk A50
  clear A50
  replace H := Option.bind_eq_some_iff.mp H
  obtain ⟨t361, A60, H⟩ := H
  replace H : (if t361 = true then ((spec_SegOk.f k t345 t346 t347 t348 t349 t350 t351).bind fun t362 => (if t362 = true then (if t353 < 0 then (laws_FnSegCut.j0 k t352 t353 t355 true t345 t346 t347 t348 t349 t350 t351) else (laws_FnSegCut.j0 k t352 t353 t355 (decide ((t352.size : Int) > 240)) t345 t346 t347 t348 t349 t350 t351)) else (laws_FnSegCut.j0 k t352 t353 t355 true t345 t346 t347 t348 t349 t350 t351))) else (some false)) = some r := H
  have A6 := Aside0.mk A60
  clear A60
  by_cases c7 : t361 = true
  ·subst c7
   have H1 : ((spec_SegOk.f k t345 t346 t347 t348 t349 t350 t351).bind fun t362 => (if t362 = true then (if t353 < 0 then (laws_FnSegCut.j0 k t352 t353 t355 true t345 t346 t347 t348 t349 t350 t351) else (laws_FnSegCut.j0 k t352 t353 t355 (decide ((t352.size : Int) > 240)) t345 t346 t347 t348 t349 t350 t351)) else (laws_FnSegCut.j0 k t352 t353 t355 true t345 t346 t347 t348 t349 t350 t351))) = some r := by rw [if_pos rfl] at H; exact H
   clear H
   have H := H1
   clear H1
   have HC8 := Aside0.mk H
   clear H
   go_enter Try.func9, Try.ntmps9
   go_upto_region 7 with (first | (go_at_call 29; (with_reducible refine (spec_DrawSegCut.calls k _ _ l0 t345 t346 t347 t348 t349 t350 t351 t352 t353 _ ?side1 ?side2 A3.out).mono ?_); (case side1 => repeat (first | exact HR0.out | (with_reducible refine Kd.C_alloc ?_ _) | (with_reducible refine Kd.C_drewN ?_ _) | (with_reducible refine Kd.C_drew ?_))); (case side2 => exact HC0.out); rintro e w9 ⟨rfl, hb⟩; have n0_ := Aside0.mk (below_step (by repeat (first | (with_reducible first | exact HB.out | apply below_alloc | apply pw_below_drewN | apply below_drew1) | exact HB.out)) hb); clear HB; have HB := n0_; clear n0_; (try clear hb); (try clear hb2); (try clear hk); (try clear hi)) | ((with_reducible refine gate_dst (N := 3) rfl ?_); (try (refine gate_guard (by rfl) ?_; dsimp only)); refine box_event ?hg (N := 3) ?hd (cs := #[.int .i64 0, .int .i64 0, .int .i64 0, .int .i64 0, .int .i64 0, .int .i64 0, .string (⟨#[]⟩ : ByteArray)]) (t := 31) ?hr ?_; (case hd => rfl); (case hg => rfl); (case hr => first | (go_simp; done) | (go_simp; rfl)); intro gb354 hg w10 hbox hb; have n0_ := Aside0.mk (below_step (by repeat (first | (with_reducible first | exact HB.out | apply below_alloc | apply pw_below_drewN | apply below_drew1) | exact HB.out)) hb); have n1_ := Aside0.mk (hbox); have n2_ := Aside0.mk ((by rw [hg]; exact (below_size (by repeat (first | (with_reducible first | exact HB.out | apply below_alloc | apply pw_below_drewN | apply below_drew1) | exact HB.out))) : w.heap.size ≤ gb354)); have n3_ := Aside0.mk ((by rw [hg]; exact (below_size (by repeat (first | (with_reducible first | exact HB.out | apply below_alloc | apply pw_below_drewN | apply below_drew1) | exact HB.out))) : w.heap.size ≤ gb354)); clear HB; have HB := n0_; have BK354 := n1_; have GW354 := n2_; have GE354 := n3_; clear n0_ n1_ n2_ n3_; clear hb hbox hg; have hcz11_0 : w10.cell? ⟨gb354, 0, none⟩ = some (.int .i64 0) := (blk_cell BK354.out 0).trans rfl; have hcz11_1 : w10.cell? ⟨gb354, 1, none⟩ = some (.int .i64 0) := (blk_cell BK354.out 1).trans rfl; have hcz11_2 : w10.cell? ⟨gb354, 2, none⟩ = some (.int .i64 0) := (blk_cell BK354.out 2).trans rfl; have hcz11_3 : w10.cell? ⟨gb354, 3, none⟩ = some (.int .i64 0) := (blk_cell BK354.out 3).trans rfl; have hcz11_4 : w10.cell? ⟨gb354, 4, none⟩ = some (.int .i64 0) := (blk_cell BK354.out 4).trans rfl; have hcz11_5 : w10.cell? ⟨gb354, 5, none⟩ = some (.int .i64 0) := (blk_cell BK354.out 5).trans rfl; have hcz11_6 : w10.cell? ⟨gb354, 6, none⟩ = some (.string (⟨#[]⟩ : ByteArray)) := (blk_cell BK354.out 6).trans rfl; have hfz11_0 := blk_frozen BK354.out 0; have hfz11_1 := blk_frozen BK354.out 1; have hfz11_2 := blk_frozen BK354.out 2; have hfz11_3 := blk_frozen BK354.out 3; have hfz11_4 := blk_frozen BK354.out 4; have hfz11_5 := blk_frozen BK354.out 5; have hfz11_6 := blk_frozen BK354.out 6) | (go_at_call 30; (with_reducible refine (impl_SegCut.calls k t345 t346 t347 t348 t349 t350 t351 t352 t353 t355 _ A4.out).mono ?_); rintro e w12 ⟨v356, rfl, ho0, hb⟩; have n0_ := Aside0.mk (KdRc_lower (KdRc_newB ho0 (g := gb354) (o := .cells #[.int .i64 t345, .int .i64 t346, .int .i64 t347, .int .i64 t348, .int .i64 t349, .int .i64 t350, .string t351] 31 (0, 0)) (by (with_reducible repeat (first | refine blk_drewN ?_ _ | refine blk_drew ?_ | refine blk_alloc ?_ _)); refine blk_put (cs := #[.int .i64 t345, .int .i64 t346, .int .i64 t347, .int .i64 t348, .int .i64 t349, .int .i64 t350, .string (⟨#[]⟩ : ByteArray)]) ?_ 6 _ rfl; (with_reducible repeat (first | refine blk_drewN ?_ _ | refine blk_drew ?_ | refine blk_alloc ?_ _)); refine blk_put (cs := #[.int .i64 t345, .int .i64 t346, .int .i64 t347, .int .i64 t348, .int .i64 t349, .int .i64 0, .string (⟨#[]⟩ : ByteArray)]) ?_ 5 _ rfl; (with_reducible repeat (first | refine blk_drewN ?_ _ | refine blk_drew ?_ | refine blk_alloc ?_ _)); refine blk_put (cs := #[.int .i64 t345, .int .i64 t346, .int .i64 t347, .int .i64 t348, .int .i64 0, .int .i64 0, .string (⟨#[]⟩ : ByteArray)]) ?_ 4 _ rfl; (with_reducible repeat (first | refine blk_drewN ?_ _ | refine blk_drew ?_ | refine blk_alloc ?_ _)); refine blk_put (cs := #[.int .i64 t345, .int .i64 t346, .int .i64 t347, .int .i64 0, .int .i64 0, .int .i64 0, .string (⟨#[]⟩ : ByteArray)]) ?_ 3 _ rfl; (with_reducible repeat (first | refine blk_drewN ?_ _ | refine blk_drew ?_ | refine blk_alloc ?_ _)); refine blk_put (cs := #[.int .i64 t345, .int .i64 t346, .int .i64 0, .int .i64 0, .int .i64 0, .int .i64 0, .string (⟨#[]⟩ : ByteArray)]) ?_ 2 _ rfl; (with_reducible repeat (first | refine blk_drewN ?_ _ | refine blk_drew ?_ | refine blk_alloc ?_ _)); refine blk_put (cs := #[.int .i64 t345, .int .i64 0, .int .i64 0, .int .i64 0, .int .i64 0, .int .i64 0, .string (⟨#[]⟩ : ByteArray)]) ?_ 1 _ rfl; (with_reducible repeat (first | refine blk_drewN ?_ _ | refine blk_drew ?_ | refine blk_alloc ?_ _)); refine blk_put (cs := #[.int .i64 0, .int .i64 0, .int .i64 0, .int .i64 0, .int .i64 0, .int .i64 0, .string (⟨#[]⟩ : ByteArray)]) ?_ 0 _ rfl; (with_reducible repeat (first | refine blk_drewN ?_ _ | refine blk_drew ?_ | refine blk_alloc ?_ _)); exact BK354.out)) (below_size (by repeat (first | (with_reducible first | exact HB.out | apply below_alloc | apply pw_below_drewN | apply below_drew1 | refine below_set ?_ GE354.out) | exact HB.out)))); have n1_ := Aside0.mk (blk_below (g := gb354) (o := .cells #[.int .i64 t345, .int .i64 t346, .int .i64 t347, .int .i64 t348, .int .i64 t349, .int .i64 t350, .string t351] 31 (0, 0)) (by (with_reducible repeat (first | refine blk_drewN ?_ _ | refine blk_drew ?_ | refine blk_alloc ?_ _)); refine blk_put (cs := #[.int .i64 t345, .int .i64 t346, .int .i64 t347, .int .i64 t348, .int .i64 t349, .int .i64 t350, .string (⟨#[]⟩ : ByteArray)]) ?_ 6 _ rfl; (with_reducible repeat (first | refine blk_drewN ?_ _ | refine blk_drew ?_ | refine blk_alloc ?_ _)); refine blk_put (cs := #[.int .i64 t345, .int .i64 t346, .int .i64 t347, .int .i64 t348, .int .i64 t349, .int .i64 0, .string (⟨#[]⟩ : ByteArray)]) ?_ 5 _ rfl; (with_reducible repeat (first | refine blk_drewN ?_ _ | refine blk_drew ?_ | refine blk_alloc ?_ _)); refine blk_put (cs := #[.int .i64 t345, .int .i64 t346, .int .i64 t347, .int .i64 t348, .int .i64 0, .int .i64 0, .string (⟨#[]⟩ : ByteArray)]) ?_ 4 _ rfl; (with_reducible repeat (first | refine blk_drewN ?_ _ | refine blk_drew ?_ | refine blk_alloc ?_ _)); refine blk_put (cs := #[.int .i64 t345, .int .i64 t346, .int .i64 t347, .int .i64 0, .int .i64 0, .int .i64 0, .string (⟨#[]⟩ : ByteArray)]) ?_ 3 _ rfl; (with_reducible repeat (first | refine blk_drewN ?_ _ | refine blk_drew ?_ | refine blk_alloc ?_ _)); refine blk_put (cs := #[.int .i64 t345, .int .i64 t346, .int .i64 0, .int .i64 0, .int .i64 0, .int .i64 0, .string (⟨#[]⟩ : ByteArray)]) ?_ 2 _ rfl; (with_reducible repeat (first | refine blk_drewN ?_ _ | refine blk_drew ?_ | refine blk_alloc ?_ _)); refine blk_put (cs := #[.int .i64 t345, .int .i64 0, .int .i64 0, .int .i64 0, .int .i64 0, .int .i64 0, .string (⟨#[]⟩ : ByteArray)]) ?_ 1 _ rfl; (with_reducible repeat (first | refine blk_drewN ?_ _ | refine blk_drew ?_ | refine blk_alloc ?_ _)); refine blk_put (cs := #[.int .i64 0, .int .i64 0, .int .i64 0, .int .i64 0, .int .i64 0, .int .i64 0, .string (⟨#[]⟩ : ByteArray)]) ?_ 0 _ rfl; (with_reducible repeat (first | refine blk_drewN ?_ _ | refine blk_drew ?_ | refine blk_alloc ?_ _)); exact BK354.out) hb); have n2_ := Aside0.mk (below_step (by repeat (first | (with_reducible first | exact HB.out | apply below_alloc | apply pw_below_drewN | apply below_drew1 | refine below_set ?_ GE354.out) | exact HB.out)) hb); clear BK354; clear HB; have HO357 := n0_; have BK354 := n1_; have HB := n2_; clear n0_ n1_ n2_; (try clear hb); (try clear hb2); (try clear hk); (try clear hi); (try clear ho0); have hcz13_0 : w12.cell? ⟨gb354, 0, none⟩ = some (.int .i64 t345) := (blk_cell BK354.out 0).trans rfl; have hcz13_1 : w12.cell? ⟨gb354, 1, none⟩ = some (.int .i64 t346) := (blk_cell BK354.out 1).trans rfl; have hcz13_2 : w12.cell? ⟨gb354, 2, none⟩ = some (.int .i64 t347) := (blk_cell BK354.out 2).trans rfl; have hcz13_3 : w12.cell? ⟨gb354, 3, none⟩ = some (.int .i64 t348) := (blk_cell BK354.out 3).trans rfl; have hcz13_4 : w12.cell? ⟨gb354, 4, none⟩ = some (.int .i64 t349) := (blk_cell BK354.out 4).trans rfl; have hcz13_5 : w12.cell? ⟨gb354, 5, none⟩ = some (.int .i64 t350) := (blk_cell BK354.out 5).trans rfl; have hcz13_6 : w12.cell? ⟨gb354, 6, none⟩ = some (.string t351) := (blk_cell BK354.out 6).trans rfl; have hfz13_0 := blk_frozen BK354.out 0; have hfz13_1 := blk_frozen BK354.out 1; have hfz13_2 := blk_frozen BK354.out 2; have hfz13_3 := blk_frozen BK354.out 3; have hfz13_4 := blk_frozen BK354.out 4; have hfz13_5 := blk_frozen BK354.out 5; have hfz13_6 := blk_frozen BK354.out 6) | (go_at_call 31; (with_reducible refine (spec_SegCut.calls k t345 t346 t347 t348 t349 t350 t351 t352 t353 t358 _ A5.out).mono ?_); rintro e w14 ⟨v359, rfl, ho0, hb⟩; replace ho0 := KdRc_of ho0; have n0_ := Aside0.mk (KdRc_elder' (by (with_reducible repeat (first | apply KdRc_alloc | apply KdRc_drewN | apply KdRc_drew)); exact HO357.out) (KdRc_base ho0) hb); have n1_ := Aside0.mk (KdRc_lower (KdRc_newB (KdRc_new' ho0 (KdRc_lt (by (with_reducible repeat (first | apply KdRc_alloc | apply KdRc_drewN | apply KdRc_drew)); exact HO357.out))) (g := gb354) (o := .cells #[.int .i64 t345, .int .i64 t346, .int .i64 t347, .int .i64 t348, .int .i64 t349, .int .i64 t350, .string t351] 31 (0, 0)) (by (with_reducible repeat (first | refine blk_drewN ?_ _ | refine blk_drew ?_ | refine blk_alloc ?_ _)); exact BK354.out)) (below_size (by repeat (first | (with_reducible first | exact HB.out | apply below_alloc | apply pw_below_drewN | apply below_drew1 | refine below_set ?_ GE354.out) | exact HB.out)))); have n2_ := Aside0.mk (blk_below (g := gb354) (o := .cells #[.int .i64 t345, .int .i64 t346, .int .i64 t347, .int .i64 t348, .int .i64 t349, .int .i64 t350, .string t351] 31 (0, 0)) (by (with_reducible repeat (first | refine blk_drewN ?_ _ | refine blk_drew ?_ | refine blk_alloc ?_ _)); exact BK354.out) hb); have n3_ := Aside0.mk (below_step (by repeat (first | (with_reducible first | exact HB.out | apply below_alloc | apply pw_below_drewN | apply below_drew1 | refine below_set ?_ GE354.out) | exact HB.out)) hb); clear HO357; clear BK354; clear HB; have HO357 := n0_; have HO360 := n1_; have BK354 := n2_; have HB := n3_; clear n0_ n1_ n2_ n3_; (try clear hb); (try clear hb2); (try clear hk); (try clear hi); (try clear ho0); obtain ⟨Ao15, co15, eo15⟩ := KdRc_slice HO357.out; subst eo15; obtain ⟨Ao16, co16, eo16⟩ := KdRc_slice HO360.out; subst eo16) | (go_at_call 35; (with_reducible refine (laws_haSegs.calls k _ _ t355 _ _ t358 true _ ?side1 ?side2 ?side3 ?side4 A6.out).mono ?_); (case side1 => repeat (first | exact (KdRc_reads' HO357.out).2.2 | (with_reducible refine Kd.C_alloc ?_ _) | (with_reducible refine Kd.C_drewN ?_ _) | (with_reducible refine Kd.C_drew ?_))); (case side2 => exact (KdRc_reads' HO357.out).2.1); (case side3 => repeat (first | exact (KdRc_reads' HO360.out).2.2 | (with_reducible refine Kd.C_alloc ?_ _) | (with_reducible refine Kd.C_drewN ?_ _) | (with_reducible refine Kd.C_drew ?_))); (case side4 => exact (KdRc_reads' HO360.out).2.1); rintro e w' ⟨rfl, ⟨nd, rfl⟩⟩; (try first | exact ⟨rfl, _, World.drewN_drewN _ _ _⟩ | exact ⟨rfl, _, Eq.trans (World.drewN_drewN _ _ _) (congrArg (World.drewN _) (Nat.add_assoc _ _ _))⟩)))
   repeat (go_quiet (first | (go_at_call 29; (with_reducible refine (spec_DrawSegCut.calls k _ _ l0 t345 t346 t347 t348 t349 t350 t351 t352 t353 _ ?side1 ?side2 A3.out).mono ?_); (case side1 => repeat (first | exact HR0.out | (with_reducible refine Kd.C_alloc ?_ _) | (with_reducible refine Kd.C_drewN ?_ _) | (with_reducible refine Kd.C_drew ?_))); (case side2 => exact HC0.out); rintro e w9 ⟨rfl, hb⟩; have n0_ := Aside0.mk (below_step (by repeat (first | (with_reducible first | exact HB.out | apply below_alloc | apply pw_below_drewN | apply below_drew1) | exact HB.out)) hb); clear HB; have HB := n0_; clear n0_; (try clear hb); (try clear hb2); (try clear hk); (try clear hi)) | ((with_reducible refine gate_dst (N := 3) rfl ?_); (try (refine gate_guard (by rfl) ?_; dsimp only)); refine box_event ?hg (N := 3) ?hd (cs := #[.int .i64 0, .int .i64 0, .int .i64 0, .int .i64 0, .int .i64 0, .int .i64 0, .string (⟨#[]⟩ : ByteArray)]) (t := 31) ?hr ?_; (case hd => rfl); (case hg => rfl); (case hr => first | (go_simp; done) | (go_simp; rfl)); intro gb354 hg w10 hbox hb; have n0_ := Aside0.mk (below_step (by repeat (first | (with_reducible first | exact HB.out | apply below_alloc | apply pw_below_drewN | apply below_drew1) | exact HB.out)) hb); have n1_ := Aside0.mk (hbox); have n2_ := Aside0.mk ((by rw [hg]; exact (below_size (by repeat (first | (with_reducible first | exact HB.out | apply below_alloc | apply pw_below_drewN | apply below_drew1) | exact HB.out))) : w.heap.size ≤ gb354)); have n3_ := Aside0.mk ((by rw [hg]; exact (below_size (by repeat (first | (with_reducible first | exact HB.out | apply below_alloc | apply pw_below_drewN | apply below_drew1) | exact HB.out))) : w.heap.size ≤ gb354)); clear HB; have HB := n0_; have BK354 := n1_; have GW354 := n2_; have GE354 := n3_; clear n0_ n1_ n2_ n3_; clear hb hbox hg; have hcz11_0 : w10.cell? ⟨gb354, 0, none⟩ = some (.int .i64 0) := (blk_cell BK354.out 0).trans rfl; have hcz11_1 : w10.cell? ⟨gb354, 1, none⟩ = some (.int .i64 0) := (blk_cell BK354.out 1).trans rfl; have hcz11_2 : w10.cell? ⟨gb354, 2, none⟩ = some (.int .i64 0) := (blk_cell BK354.out 2).trans rfl; have hcz11_3 : w10.cell? ⟨gb354, 3, none⟩ = some (.int .i64 0) := (blk_cell BK354.out 3).trans rfl; have hcz11_4 : w10.cell? ⟨gb354, 4, none⟩ = some (.int .i64 0) := (blk_cell BK354.out 4).trans rfl; have hcz11_5 : w10.cell? ⟨gb354, 5, none⟩ = some (.int .i64 0) := (blk_cell BK354.out 5).trans rfl; have hcz11_6 : w10.cell? ⟨gb354, 6, none⟩ = some (.string (⟨#[]⟩ : ByteArray)) := (blk_cell BK354.out 6).trans rfl; have hfz11_0 := blk_frozen BK354.out 0; have hfz11_1 := blk_frozen BK354.out 1; have hfz11_2 := blk_frozen BK354.out 2; have hfz11_3 := blk_frozen BK354.out 3; have hfz11_4 := blk_frozen BK354.out 4; have hfz11_5 := blk_frozen BK354.out 5; have hfz11_6 := blk_frozen BK354.out 6) | (go_at_call 30; (with_reducible refine (impl_SegCut.calls k t345 t346 t347 t348 t349 t350 t351 t352 t353 t355 _ A4.out).mono ?_); rintro e w12 ⟨v356, rfl, ho0, hb⟩; have n0_ := Aside0.mk (KdRc_lower (KdRc_newB ho0 (g := gb354) (o := .cells #[.int .i64 t345, .int .i64 t346, .int .i64 t347, .int .i64 t348, .int .i64 t349, .int .i64 t350, .string t351] 31 (0, 0)) (by (with_reducible repeat (first | refine blk_drewN ?_ _ | refine blk_drew ?_ | refine blk_alloc ?_ _)); refine blk_put (cs := #[.int .i64 t345, .int .i64 t346, .int .i64 t347, .int .i64 t348, .int .i64 t349, .int .i64 t350, .string (⟨#[]⟩ : ByteArray)]) ?_ 6 _ rfl; (with_reducible repeat (first | refine blk_drewN ?_ _ | refine blk_drew ?_ | refine blk_alloc ?_ _)); refine blk_put (cs := #[.int .i64 t345, .int .i64 t346, .int .i64 t347, .int .i64 t348, .int .i64 t349, .int .i64 0, .string (⟨#[]⟩ : ByteArray)]) ?_ 5 _ rfl; (with_reducible repeat (first | refine blk_drewN ?_ _ | refine blk_drew ?_ | refine blk_alloc ?_ _)); refine blk_put (cs := #[.int .i64 t345, .int .i64 t346, .int .i64 t347, .int .i64 t348, .int .i64 0, .int .i64 0, .string (⟨#[]⟩ : ByteArray)]) ?_ 4 _ rfl; (with_reducible repeat (first | refine blk_drewN ?_ _ | refine blk_drew ?_ | refine blk_alloc ?_ _)); refine blk_put (cs := #[.int .i64 t345, .int .i64 t346, .int .i64 t347, .int .i64 0, .int .i64 0, .int .i64 0, .string (⟨#[]⟩ : ByteArray)]) ?_ 3 _ rfl; (with_reducible repeat (first | refine blk_drewN ?_ _ | refine blk_drew ?_ | refine blk_alloc ?_ _)); refine blk_put (cs := #[.int .i64 t345, .int .i64 t346, .int .i64 0, .int .i64 0, .int .i64 0, .int .i64 0, .string (⟨#[]⟩ : ByteArray)]) ?_ 2 _ rfl; (with_reducible repeat (first | refine blk_drewN ?_ _ | refine blk_drew ?_ | refine blk_alloc ?_ _)); refine blk_put (cs := #[.int .i64 t345, .int .i64 0, .int .i64 0, .int .i64 0, .int .i64 0, .int .i64 0, .string (⟨#[]⟩ : ByteArray)]) ?_ 1 _ rfl; (with_reducible repeat (first | refine blk_drewN ?_ _ | refine blk_drew ?_ | refine blk_alloc ?_ _)); refine blk_put (cs := #[.int .i64 0, .int .i64 0, .int .i64 0, .int .i64 0, .int .i64 0, .int .i64 0, .string (⟨#[]⟩ : ByteArray)]) ?_ 0 _ rfl; (with_reducible repeat (first | refine blk_drewN ?_ _ | refine blk_drew ?_ | refine blk_alloc ?_ _)); exact BK354.out)) (below_size (by repeat (first | (with_reducible first | exact HB.out | apply below_alloc | apply pw_below_drewN | apply below_drew1 | refine below_set ?_ GE354.out) | exact HB.out)))); have n1_ := Aside0.mk (blk_below (g := gb354) (o := .cells #[.int .i64 t345, .int .i64 t346, .int .i64 t347, .int .i64 t348, .int .i64 t349, .int .i64 t350, .string t351] 31 (0, 0)) (by (with_reducible repeat (first | refine blk_drewN ?_ _ | refine blk_drew ?_ | refine blk_alloc ?_ _)); refine blk_put (cs := #[.int .i64 t345, .int .i64 t346, .int .i64 t347, .int .i64 t348, .int .i64 t349, .int .i64 t350, .string (⟨#[]⟩ : ByteArray)]) ?_ 6 _ rfl; (with_reducible repeat (first | refine blk_drewN ?_ _ | refine blk_drew ?_ | refine blk_alloc ?_ _)); refine blk_put (cs := #[.int .i64 t345, .int .i64 t346, .int .i64 t347, .int .i64 t348, .int .i64 t349, .int .i64 0, .string (⟨#[]⟩ : ByteArray)]) ?_ 5 _ rfl; (with_reducible repeat (first | refine blk_drewN ?_ _ | refine blk_drew ?_ | refine blk_alloc ?_ _)); refine blk_put (cs := #[.int .i64 t345, .int .i64 t346, .int .i64 t347, .int .i64 t348, .int .i64 0, .int .i64 0, .string (⟨#[]⟩ : ByteArray)]) ?_ 4 _ rfl; (with_reducible repeat (first | refine blk_drewN ?_ _ | refine blk_drew ?_ | refine blk_alloc ?_ _)); refine blk_put (cs := #[.int .i64 t345, .int .i64 t346, .int .i64 t347, .int .i64 0, .int .i64 0, .int .i64 0, .string (⟨#[]⟩ : ByteArray)]) ?_ 3 _ rfl; (with_reducible repeat (first | refine blk_drewN ?_ _ | refine blk_drew ?_ | refine blk_alloc ?_ _)); refine blk_put (cs := #[.int .i64 t345, .int .i64 t346, .int .i64 0, .int .i64 0, .int .i64 0, .int .i64 0, .string (⟨#[]⟩ : ByteArray)]) ?_ 2 _ rfl; (with_reducible repeat (first | refine blk_drewN ?_ _ | refine blk_drew ?_ | refine blk_alloc ?_ _)); refine blk_put (cs := #[.int .i64 t345, .int .i64 0, .int .i64 0, .int .i64 0, .int .i64 0, .int .i64 0, .string (⟨#[]⟩ : ByteArray)]) ?_ 1 _ rfl; (with_reducible repeat (first | refine blk_drewN ?_ _ | refine blk_drew ?_ | refine blk_alloc ?_ _)); refine blk_put (cs := #[.int .i64 0, .int .i64 0, .int .i64 0, .int .i64 0, .int .i64 0, .int .i64 0, .string (⟨#[]⟩ : ByteArray)]) ?_ 0 _ rfl; (with_reducible repeat (first | refine blk_drewN ?_ _ | refine blk_drew ?_ | refine blk_alloc ?_ _)); exact BK354.out) hb); have n2_ := Aside0.mk (below_step (by repeat (first | (with_reducible first | exact HB.out | apply below_alloc | apply pw_below_drewN | apply below_drew1 | refine below_set ?_ GE354.out) | exact HB.out)) hb); clear BK354; clear HB; have HO357 := n0_; have BK354 := n1_; have HB := n2_; clear n0_ n1_ n2_; (try clear hb); (try clear hb2); (try clear hk); (try clear hi); (try clear ho0); have hcz13_0 : w12.cell? ⟨gb354, 0, none⟩ = some (.int .i64 t345) := (blk_cell BK354.out 0).trans rfl; have hcz13_1 : w12.cell? ⟨gb354, 1, none⟩ = some (.int .i64 t346) := (blk_cell BK354.out 1).trans rfl; have hcz13_2 : w12.cell? ⟨gb354, 2, none⟩ = some (.int .i64 t347) := (blk_cell BK354.out 2).trans rfl; have hcz13_3 : w12.cell? ⟨gb354, 3, none⟩ = some (.int .i64 t348) := (blk_cell BK354.out 3).trans rfl; have hcz13_4 : w12.cell? ⟨gb354, 4, none⟩ = some (.int .i64 t349) := (blk_cell BK354.out 4).trans rfl; have hcz13_5 : w12.cell? ⟨gb354, 5, none⟩ = some (.int .i64 t350) := (blk_cell BK354.out 5).trans rfl; have hcz13_6 : w12.cell? ⟨gb354, 6, none⟩ = some (.string t351) := (blk_cell BK354.out 6).trans rfl; have hfz13_0 := blk_frozen BK354.out 0; have hfz13_1 := blk_frozen BK354.out 1; have hfz13_2 := blk_frozen BK354.out 2; have hfz13_3 := blk_frozen BK354.out 3; have hfz13_4 := blk_frozen BK354.out 4; have hfz13_5 := blk_frozen BK354.out 5; have hfz13_6 := blk_frozen BK354.out 6) | (go_at_call 31; (with_reducible refine (spec_SegCut.calls k t345 t346 t347 t348 t349 t350 t351 t352 t353 t358 _ A5.out).mono ?_); rintro e w14 ⟨v359, rfl, ho0, hb⟩; replace ho0 := KdRc_of ho0; have n0_ := Aside0.mk (KdRc_elder' (by (with_reducible repeat (first | apply KdRc_alloc | apply KdRc_drewN | apply KdRc_drew)); exact HO357.out) (KdRc_base ho0) hb); have n1_ := Aside0.mk (KdRc_lower (KdRc_newB (KdRc_new' ho0 (KdRc_lt (by (with_reducible repeat (first | apply KdRc_alloc | apply KdRc_drewN | apply KdRc_drew)); exact HO357.out))) (g := gb354) (o := .cells #[.int .i64 t345, .int .i64 t346, .int .i64 t347, .int .i64 t348, .int .i64 t349, .int .i64 t350, .string t351] 31 (0, 0)) (by (with_reducible repeat (first | refine blk_drewN ?_ _ | refine blk_drew ?_ | refine blk_alloc ?_ _)); exact BK354.out)) (below_size (by repeat (first | (with_reducible first | exact HB.out | apply below_alloc | apply pw_below_drewN | apply below_drew1 | refine below_set ?_ GE354.out) | exact HB.out)))); have n2_ := Aside0.mk (blk_below (g := gb354) (o := .cells #[.int .i64 t345, .int .i64 t346, .int .i64 t347, .int .i64 t348, .int .i64 t349, .int .i64 t350, .string t351] 31 (0, 0)) (by (with_reducible repeat (first | refine blk_drewN ?_ _ | refine blk_drew ?_ | refine blk_alloc ?_ _)); exact BK354.out) hb); have n3_ := Aside0.mk (below_step (by repeat (first | (with_reducible first | exact HB.out | apply below_alloc | apply pw_below_drewN | apply below_drew1 | refine below_set ?_ GE354.out) | exact HB.out)) hb); clear HO357; clear BK354; clear HB; have HO357 := n0_; have HO360 := n1_; have BK354 := n2_; have HB := n3_; clear n0_ n1_ n2_ n3_; (try clear hb); (try clear hb2); (try clear hk); (try clear hi); (try clear ho0); obtain ⟨Ao15, co15, eo15⟩ := KdRc_slice HO357.out; subst eo15; obtain ⟨Ao16, co16, eo16⟩ := KdRc_slice HO360.out; subst eo16) | (go_at_call 35; (with_reducible refine (laws_haSegs.calls k _ _ t355 _ _ t358 true _ ?side1 ?side2 ?side3 ?side4 A6.out).mono ?_); (case side1 => repeat (first | exact (KdRc_reads' HO357.out).2.2 | (with_reducible refine Kd.C_alloc ?_ _) | (with_reducible refine Kd.C_drewN ?_ _) | (with_reducible refine Kd.C_drew ?_))); (case side2 => exact (KdRc_reads' HO357.out).2.1); (case side3 => repeat (first | exact (KdRc_reads' HO360.out).2.2 | (with_reducible refine Kd.C_alloc ?_ _) | (with_reducible refine Kd.C_drewN ?_ _) | (with_reducible refine Kd.C_drew ?_))); (case side4 => exact (KdRc_reads' HO360.out).2.1); rintro e w' ⟨rfl, ⟨nd, rfl⟩⟩; (try first | exact ⟨rfl, _, World.drewN_drewN _ _ _⟩ | exact ⟨rfl, _, Eq.trans (World.drewN_drewN _ _ _) (congrArg (World.drewN _) (Nat.add_assoc _ _ _))⟩))); go_upto_region 7 with (first | (go_at_call 29; (with_reducible refine (spec_DrawSegCut.calls k _ _ l0 t345 t346 t347 t348 t349 t350 t351 t352 t353 _ ?side1 ?side2 A3.out).mono ?_); (case side1 => repeat (first | exact HR0.out | (with_reducible refine Kd.C_alloc ?_ _) | (with_reducible refine Kd.C_drewN ?_ _) | (with_reducible refine Kd.C_drew ?_))); (case side2 => exact HC0.out); rintro e w9 ⟨rfl, hb⟩; have n0_ := Aside0.mk (below_step (by repeat (first | (with_reducible first | exact HB.out | apply below_alloc | apply pw_below_drewN | apply below_drew1) | exact HB.out)) hb); clear HB; have HB := n0_; clear n0_; (try clear hb); (try clear hb2); (try clear hk); (try clear hi)) | ((with_reducible refine gate_dst (N := 3) rfl ?_); (try (refine gate_guard (by rfl) ?_; dsimp only)); refine box_event ?hg (N := 3) ?hd (cs := #[.int .i64 0, .int .i64 0, .int .i64 0, .int .i64 0, .int .i64 0, .int .i64 0, .string (⟨#[]⟩ : ByteArray)]) (t := 31) ?hr ?_; (case hd => rfl); (case hg => rfl); (case hr => first | (go_simp; done) | (go_simp; rfl)); intro gb354 hg w10 hbox hb; have n0_ := Aside0.mk (below_step (by repeat (first | (with_reducible first | exact HB.out | apply below_alloc | apply pw_below_drewN | apply below_drew1) | exact HB.out)) hb); have n1_ := Aside0.mk (hbox); have n2_ := Aside0.mk ((by rw [hg]; exact (below_size (by repeat (first | (with_reducible first | exact HB.out | apply below_alloc | apply pw_below_drewN | apply below_drew1) | exact HB.out))) : w.heap.size ≤ gb354)); have n3_ := Aside0.mk ((by rw [hg]; exact (below_size (by repeat (first | (with_reducible first | exact HB.out | apply below_alloc | apply pw_below_drewN | apply below_drew1) | exact HB.out))) : w.heap.size ≤ gb354)); clear HB; have HB := n0_; have BK354 := n1_; have GW354 := n2_; have GE354 := n3_; clear n0_ n1_ n2_ n3_; clear hb hbox hg; have hcz11_0 : w10.cell? ⟨gb354, 0, none⟩ = some (.int .i64 0) := (blk_cell BK354.out 0).trans rfl; have hcz11_1 : w10.cell? ⟨gb354, 1, none⟩ = some (.int .i64 0) := (blk_cell BK354.out 1).trans rfl; have hcz11_2 : w10.cell? ⟨gb354, 2, none⟩ = some (.int .i64 0) := (blk_cell BK354.out 2).trans rfl; have hcz11_3 : w10.cell? ⟨gb354, 3, none⟩ = some (.int .i64 0) := (blk_cell BK354.out 3).trans rfl; have hcz11_4 : w10.cell? ⟨gb354, 4, none⟩ = some (.int .i64 0) := (blk_cell BK354.out 4).trans rfl; have hcz11_5 : w10.cell? ⟨gb354, 5, none⟩ = some (.int .i64 0) := (blk_cell BK354.out 5).trans rfl; have hcz11_6 : w10.cell? ⟨gb354, 6, none⟩ = some (.string (⟨#[]⟩ : ByteArray)) := (blk_cell BK354.out 6).trans rfl; have hfz11_0 := blk_frozen BK354.out 0; have hfz11_1 := blk_frozen BK354.out 1; have hfz11_2 := blk_frozen BK354.out 2; have hfz11_3 := blk_frozen BK354.out 3; have hfz11_4 := blk_frozen BK354.out 4; have hfz11_5 := blk_frozen BK354.out 5; have hfz11_6 := blk_frozen BK354.out 6) | (go_at_call 30; (with_reducible refine (impl_SegCut.calls k t345 t346 t347 t348 t349 t350 t351 t352 t353 t355 _ A4.out).mono ?_); rintro e w12 ⟨v356, rfl, ho0, hb⟩; have n0_ := Aside0.mk (KdRc_lower (KdRc_newB ho0 (g := gb354) (o := .cells #[.int .i64 t345, .int .i64 t346, .int .i64 t347, .int .i64 t348, .int .i64 t349, .int .i64 t350, .string t351] 31 (0, 0)) (by (with_reducible repeat (first | refine blk_drewN ?_ _ | refine blk_drew ?_ | refine blk_alloc ?_ _)); refine blk_put (cs := #[.int .i64 t345, .int .i64 t346, .int .i64 t347, .int .i64 t348, .int .i64 t349, .int .i64 t350, .string (⟨#[]⟩ : ByteArray)]) ?_ 6 _ rfl; (with_reducible repeat (first | refine blk_drewN ?_ _ | refine blk_drew ?_ | refine blk_alloc ?_ _)); refine blk_put (cs := #[.int .i64 t345, .int .i64 t346, .int .i64 t347, .int .i64 t348, .int .i64 t349, .int .i64 0, .string (⟨#[]⟩ : ByteArray)]) ?_ 5 _ rfl; (with_reducible repeat (first | refine blk_drewN ?_ _ | refine blk_drew ?_ | refine blk_alloc ?_ _)); refine blk_put (cs := #[.int .i64 t345, .int .i64 t346, .int .i64 t347, .int .i64 t348, .int .i64 0, .int .i64 0, .string (⟨#[]⟩ : ByteArray)]) ?_ 4 _ rfl; (with_reducible repeat (first | refine blk_drewN ?_ _ | refine blk_drew ?_ | refine blk_alloc ?_ _)); refine blk_put (cs := #[.int .i64 t345, .int .i64 t346, .int .i64 t347, .int .i64 0, .int .i64 0, .int .i64 0, .string (⟨#[]⟩ : ByteArray)]) ?_ 3 _ rfl; (with_reducible repeat (first | refine blk_drewN ?_ _ | refine blk_drew ?_ | refine blk_alloc ?_ _)); refine blk_put (cs := #[.int .i64 t345, .int .i64 t346, .int .i64 0, .int .i64 0, .int .i64 0, .int .i64 0, .string (⟨#[]⟩ : ByteArray)]) ?_ 2 _ rfl; (with_reducible repeat (first | refine blk_drewN ?_ _ | refine blk_drew ?_ | refine blk_alloc ?_ _)); refine blk_put (cs := #[.int .i64 t345, .int .i64 0, .int .i64 0, .int .i64 0, .int .i64 0, .int .i64 0, .string (⟨#[]⟩ : ByteArray)]) ?_ 1 _ rfl; (with_reducible repeat (first | refine blk_drewN ?_ _ | refine blk_drew ?_ | refine blk_alloc ?_ _)); refine blk_put (cs := #[.int .i64 0, .int .i64 0, .int .i64 0, .int .i64 0, .int .i64 0, .int .i64 0, .string (⟨#[]⟩ : ByteArray)]) ?_ 0 _ rfl; (with_reducible repeat (first | refine blk_drewN ?_ _ | refine blk_drew ?_ | refine blk_alloc ?_ _)); exact BK354.out)) (below_size (by repeat (first | (with_reducible first | exact HB.out | apply below_alloc | apply pw_below_drewN | apply below_drew1 | refine below_set ?_ GE354.out) | exact HB.out)))); have n1_ := Aside0.mk (blk_below (g := gb354) (o := .cells #[.int .i64 t345, .int .i64 t346, .int .i64 t347, .int .i64 t348, .int .i64 t349, .int .i64 t350, .string t351] 31 (0, 0)) (by (with_reducible repeat (first | refine blk_drewN ?_ _ | refine blk_drew ?_ | refine blk_alloc ?_ _)); refine blk_put (cs := #[.int .i64 t345, .int .i64 t346, .int .i64 t347, .int .i64 t348, .int .i64 t349, .int .i64 t350, .string (⟨#[]⟩ : ByteArray)]) ?_ 6 _ rfl; (with_reducible repeat (first | refine blk_drewN ?_ _ | refine blk_drew ?_ | refine blk_alloc ?_ _)); refine blk_put (cs := #[.int .i64 t345, .int .i64 t346, .int .i64 t347, .int .i64 t348, .int .i64 t349, .int .i64 0, .string (⟨#[]⟩ : ByteArray)]) ?_ 5 _ rfl; (with_reducible repeat (first | refine blk_drewN ?_ _ | refine blk_drew ?_ | refine blk_alloc ?_ _)); refine blk_put (cs := #[.int .i64 t345, .int .i64 t346, .int .i64 t347, .int .i64 t348, .int .i64 0, .int .i64 0, .string (⟨#[]⟩ : ByteArray)]) ?_ 4 _ rfl; (with_reducible repeat (first | refine blk_drewN ?_ _ | refine blk_drew ?_ | refine blk_alloc ?_ _)); refine blk_put (cs := #[.int .i64 t345, .int .i64 t346, .int .i64 t347, .int .i64 0, .int .i64 0, .int .i64 0, .string (⟨#[]⟩ : ByteArray)]) ?_ 3 _ rfl; (with_reducible repeat (first | refine blk_drewN ?_ _ | refine blk_drew ?_ | refine blk_alloc ?_ _)); refine blk_put (cs := #[.int .i64 t345, .int .i64 t346, .int .i64 0, .int .i64 0, .int .i64 0, .int .i64 0, .string (⟨#[]⟩ : ByteArray)]) ?_ 2 _ rfl; (with_reducible repeat (first | refine blk_drewN ?_ _ | refine blk_drew ?_ | refine blk_alloc ?_ _)); refine blk_put (cs := #[.int .i64 t345, .int .i64 0, .int .i64 0, .int .i64 0, .int .i64 0, .int .i64 0, .string (⟨#[]⟩ : ByteArray)]) ?_ 1 _ rfl; (with_reducible repeat (first | refine blk_drewN ?_ _ | refine blk_drew ?_ | refine blk_alloc ?_ _)); refine blk_put (cs := #[.int .i64 0, .int .i64 0, .int .i64 0, .int .i64 0, .int .i64 0, .int .i64 0, .string (⟨#[]⟩ : ByteArray)]) ?_ 0 _ rfl; (with_reducible repeat (first | refine blk_drewN ?_ _ | refine blk_drew ?_ | refine blk_alloc ?_ _)); exact BK354.out) hb); have n2_ := Aside0.mk (below_step (by repeat (first | (with_reducible first | exact HB.out | apply below_alloc | apply pw_below_drewN | apply below_drew1 | refine below_set ?_ GE354.out) | exact HB.out)) hb); clear BK354; clear HB; have HO357 := n0_; have BK354 := n1_; have HB := n2_; clear n0_ n1_ n2_; (try clear hb); (try clear hb2); (try clear hk); (try clear hi); (try clear ho0); have hcz13_0 : w12.cell? ⟨gb354, 0, none⟩ = some (.int .i64 t345) := (blk_cell BK354.out 0).trans rfl; have hcz13_1 : w12.cell? ⟨gb354, 1, none⟩ = some (.int .i64 t346) := (blk_cell BK354.out 1).trans rfl; have hcz13_2 : w12.cell? ⟨gb354, 2, none⟩ = some (.int .i64 t347) := (blk_cell BK354.out 2).trans rfl; have hcz13_3 : w12.cell? ⟨gb354, 3, none⟩ = some (.int .i64 t348) := (blk_cell BK354.out 3).trans rfl; have hcz13_4 : w12.cell? ⟨gb354, 4, none⟩ = some (.int .i64 t349) := (blk_cell BK354.out 4).trans rfl; have hcz13_5 : w12.cell? ⟨gb354, 5, none⟩ = some (.int .i64 t350) := (blk_cell BK354.out 5).trans rfl; have hcz13_6 : w12.cell? ⟨gb354, 6, none⟩ = some (.string t351) := (blk_cell BK354.out 6).trans rfl; have hfz13_0 := blk_frozen BK354.out 0; have hfz13_1 := blk_frozen BK354.out 1; have hfz13_2 := blk_frozen BK354.out 2; have hfz13_3 := blk_frozen BK354.out 3; have hfz13_4 := blk_frozen BK354.out 4; have hfz13_5 := blk_frozen BK354.out 5; have hfz13_6 := blk_frozen BK354.out 6) | (go_at_call 31; (with_reducible refine (spec_SegCut.calls k t345 t346 t347 t348 t349 t350 t351 t352 t353 t358 _ A5.out).mono ?_); rintro e w14 ⟨v359, rfl, ho0, hb⟩; replace ho0 := KdRc_of ho0; have n0_ := Aside0.mk (KdRc_elder' (by (with_reducible repeat (first | apply KdRc_alloc | apply KdRc_drewN | apply KdRc_drew)); exact HO357.out) (KdRc_base ho0) hb); have n1_ := Aside0.mk (KdRc_lower (KdRc_newB (KdRc_new' ho0 (KdRc_lt (by (with_reducible repeat (first | apply KdRc_alloc | apply KdRc_drewN | apply KdRc_drew)); exact HO357.out))) (g := gb354) (o := .cells #[.int .i64 t345, .int .i64 t346, .int .i64 t347, .int .i64 t348, .int .i64 t349, .int .i64 t350, .string t351] 31 (0, 0)) (by (with_reducible repeat (first | refine blk_drewN ?_ _ | refine blk_drew ?_ | refine blk_alloc ?_ _)); exact BK354.out)) (below_size (by repeat (first | (with_reducible first | exact HB.out | apply below_alloc | apply pw_below_drewN | apply below_drew1 | refine below_set ?_ GE354.out) | exact HB.out)))); have n2_ := Aside0.mk (blk_below (g := gb354) (o := .cells #[.int .i64 t345, .int .i64 t346, .int .i64 t347, .int .i64 t348, .int .i64 t349, .int .i64 t350, .string t351] 31 (0, 0)) (by (with_reducible repeat (first | refine blk_drewN ?_ _ | refine blk_drew ?_ | refine blk_alloc ?_ _)); exact BK354.out) hb); have n3_ := Aside0.mk (below_step (by repeat (first | (with_reducible first | exact HB.out | apply below_alloc | apply pw_below_drewN | apply below_drew1 | refine below_set ?_ GE354.out) | exact HB.out)) hb); clear HO357; clear BK354; clear HB; have HO357 := n0_; have HO360 := n1_; have BK354 := n2_; have HB := n3_; clear n0_ n1_ n2_ n3_; (try clear hb); (try clear hb2); (try clear hk); (try clear hi); (try clear ho0); obtain ⟨Ao15, co15, eo15⟩ := KdRc_slice HO357.out; subst eo15; obtain ⟨Ao16, co16, eo16⟩ := KdRc_slice HO360.out; subst eo16) | (go_at_call 35; (with_reducible refine (laws_haSegs.calls k _ _ t355 _ _ t358 true _ ?side1 ?side2 ?side3 ?side4 A6.out).mono ?_); (case side1 => repeat (first | exact (KdRc_reads' HO357.out).2.2 | (with_reducible refine Kd.C_alloc ?_ _) | (with_reducible refine Kd.C_drewN ?_ _) | (with_reducible refine Kd.C_drew ?_))); (case side2 => exact (KdRc_reads' HO357.out).2.1); (case side3 => repeat (first | exact (KdRc_reads' HO360.out).2.2 | (with_reducible refine Kd.C_alloc ?_ _) | (with_reducible refine Kd.C_drewN ?_ _) | (with_reducible refine Kd.C_drew ?_))); (case side4 => exact (KdRc_reads' HO360.out).2.1); rintro e w' ⟨rfl, ⟨nd, rfl⟩⟩; (try first | exact ⟨rfl, _, World.drewN_drewN _ _ _⟩ | exact ⟨rfl, _, Eq.trans (World.drewN_drewN _ _ _) (congrArg (World.drewN _) (Nat.add_assoc _ _ _))⟩))))
   (try simp only [Act.put, List.setIfInBounds_toArray, List.set_cons_zero, List.set_cons_succ])
   go_cut [41] (fun v41 wc => ∃ (kq : Nat) (x41_7 : Bool), v41 = .bool x41_7 ∧ Aside0 (laws_FnSegCut.j0 kq t352 t353 t355 x41_7 t345 t346 t347 t348 t349 t350 t351 = some r) ∧ Aside0 (kq ≤ k) ∧ Aside0 (KdRc k31 31 wc w.heap.size (fun k_ => k_ ≠ gb354) (.slice Ao15 t355.length co15) t355) ∧ Aside0 (wc.heap[gb354]? = some (.cells #[.int .i64 t345, .int .i64 t346, .int .i64 t347, .int .i64 t348, .int .i64 t349, .int .i64 t350, .string t351] 31 (0, 0))) ∧ Aside0 (Below w.heap.size w wc))
   case first =>
    have H := HC8.out
    clear HC8
    replace H := Option.bind_eq_some_iff.mp H
    obtain ⟨t362, A170, H⟩ := H
    replace H : (if t362 = true then (if t353 < 0 then (laws_FnSegCut.j0 k t352 t353 t355 true t345 t346 t347 t348 t349 t350 t351) else (laws_FnSegCut.j0 k t352 t353 t355 (decide ((t352.size : Int) > 240)) t345 t346 t347 t348 t349 t350 t351)) else (laws_FnSegCut.j0 k t352 t353 t355 true t345 t346 t347 t348 t349 t350 t351)) = some r := H
    have A17 := Aside0.mk A170
    clear A170
    by_cases c18 : t362 = true
    ·subst c18
     have H1 : (if t353 < 0 then (laws_FnSegCut.j0 k t352 t353 t355 true t345 t346 t347 t348 t349 t350 t351) else (laws_FnSegCut.j0 k t352 t353 t355 (decide ((t352.size : Int) > 240)) t345 t346 t347 t348 t349 t350 t351)) = some r := by rw [if_pos rfl] at H; exact H
     clear H
     have H := H1
     clear H1
     by_cases c19 : t353 < 0
     ·rw [if_pos c19] at H
      have c19b0 : decide (t353 < 0) = true := decide_eq_true c19
      clear c19
      (first | rw [c19b0] | (simp only [i64_w, i32_w]; rw [c19b0]) | skip)
      have H' := Aside0.mk H
      clear H
      have hcz20_0 : w14.cell? ⟨gb354, 0, none⟩ = some (.int .i64 t345) := (blk_cell BK354.out 0).trans rfl
      have hcz20_1 : w14.cell? ⟨gb354, 1, none⟩ = some (.int .i64 t346) := (blk_cell BK354.out 1).trans rfl
      have hcz20_2 : w14.cell? ⟨gb354, 2, none⟩ = some (.int .i64 t347) := (blk_cell BK354.out 2).trans rfl
      have hcz20_3 : w14.cell? ⟨gb354, 3, none⟩ = some (.int .i64 t348) := (blk_cell BK354.out 3).trans rfl
      have hcz20_4 : w14.cell? ⟨gb354, 4, none⟩ = some (.int .i64 t349) := (blk_cell BK354.out 4).trans rfl
      have hcz20_5 : w14.cell? ⟨gb354, 5, none⟩ = some (.int .i64 t350) := (blk_cell BK354.out 5).trans rfl
      have hcz20_6 : w14.cell? ⟨gb354, 6, none⟩ = some (.string t351) := (blk_cell BK354.out 6).trans rfl
      have hfz20_0 := blk_frozen BK354.out 0
      have hfz20_1 := blk_frozen BK354.out 1
      have hfz20_2 := blk_frozen BK354.out 2
      have hfz20_3 := blk_frozen BK354.out 3
      have hfz20_4 := blk_frozen BK354.out 4
      have hfz20_5 := blk_frozen BK354.out 5
      have hfz20_6 := blk_frozen BK354.out 6
      go_wp2_with (first | (go_at_call 20; (with_reducible refine (spec_SegOk.calls k t345 t346 t347 t348 t349 t350 t351 true _ A17.out).mono ?_); rintro e w21 ⟨rfl, hb⟩; have n0_ := Aside0.mk (KdRc_below (by (with_reducible repeat (first | apply KdRc_alloc | apply KdRc_drewN | apply KdRc_drew)); exact HO357.out) hb); have n1_ := Aside0.mk (KdRc_below (by (with_reducible repeat (first | apply KdRc_alloc | apply KdRc_drewN | apply KdRc_drew)); exact HO360.out) hb); have n2_ := Aside0.mk (blk_below (g := gb354) (o := .cells #[.int .i64 t345, .int .i64 t346, .int .i64 t347, .int .i64 t348, .int .i64 t349, .int .i64 t350, .string t351] 31 (0, 0)) (by (with_reducible repeat (first | refine blk_drewN ?_ _ | refine blk_drew ?_ | refine blk_alloc ?_ _)); exact BK354.out) hb); have n3_ := Aside0.mk (below_step (by repeat (first | (with_reducible first | exact HB.out | apply below_alloc | apply pw_below_drewN | apply below_drew1 | refine below_set ?_ GE354.out) | exact HB.out)) hb); clear HO357; clear HO360; clear BK354; clear HB; have HO357 := n0_; have HO360 := n1_; have BK354 := n2_; have HB := n3_; clear n0_ n1_ n2_ n3_; (try clear hb); (try clear hb2); (try clear hk); (try clear hi)))
      repeat (go_quiet (first | (go_at_call 20; (with_reducible refine (spec_SegOk.calls k t345 t346 t347 t348 t349 t350 t351 true _ A17.out).mono ?_); rintro e w21 ⟨rfl, hb⟩; have n0_ := Aside0.mk (KdRc_below (by (with_reducible repeat (first | apply KdRc_alloc | apply KdRc_drewN | apply KdRc_drew)); exact HO357.out) hb); have n1_ := Aside0.mk (KdRc_below (by (with_reducible repeat (first | apply KdRc_alloc | apply KdRc_drewN | apply KdRc_drew)); exact HO360.out) hb); have n2_ := Aside0.mk (blk_below (g := gb354) (o := .cells #[.int .i64 t345, .int .i64 t346, .int .i64 t347, .int .i64 t348, .int .i64 t349, .int .i64 t350, .string t351] 31 (0, 0)) (by (with_reducible repeat (first | refine blk_drewN ?_ _ | refine blk_drew ?_ | refine blk_alloc ?_ _)); exact BK354.out) hb); have n3_ := Aside0.mk (below_step (by repeat (first | (with_reducible first | exact HB.out | apply below_alloc | apply pw_below_drewN | apply below_drew1 | refine below_set ?_ GE354.out) | exact HB.out)) hb); clear HO357; clear HO360; clear BK354; clear HB; have HO357 := n0_; have HO360 := n1_; have BK354 := n2_; have HB := n3_; clear n0_ n1_ n2_ n3_; (try clear hb); (try clear hb2); (try clear hk); (try clear hi))); try go_wp2_with (first | (go_at_call 20; (with_reducible refine (spec_SegOk.calls k t345 t346 t347 t348 t349 t350 t351 true _ A17.out).mono ?_); rintro e w21 ⟨rfl, hb⟩; have n0_ := Aside0.mk (KdRc_below (by (with_reducible repeat (first | apply KdRc_alloc | apply KdRc_drewN | apply KdRc_drew)); exact HO357.out) hb); have n1_ := Aside0.mk (KdRc_below (by (with_reducible repeat (first | apply KdRc_alloc | apply KdRc_drewN | apply KdRc_drew)); exact HO360.out) hb); have n2_ := Aside0.mk (blk_below (g := gb354) (o := .cells #[.int .i64 t345, .int .i64 t346, .int .i64 t347, .int .i64 t348, .int .i64 t349, .int .i64 t350, .string t351] 31 (0, 0)) (by (with_reducible repeat (first | refine blk_drewN ?_ _ | refine blk_drew ?_ | refine blk_alloc ?_ _)); exact BK354.out) hb); have n3_ := Aside0.mk (below_step (by repeat (first | (with_reducible first | exact HB.out | apply below_alloc | apply pw_below_drewN | apply below_drew1 | refine below_set ?_ GE354.out) | exact HB.out)) hb); clear HO357; clear HO360; clear BK354; clear HB; have HO357 := n0_; have HO360 := n1_; have BK354 := n2_; have HB := n3_; clear n0_ n1_ n2_ n3_; (try clear hb); (try clear hb2); (try clear hk); (try clear hi))))
      go_meet
      case rel => exact ⟨_, (true), (by first | rfl | (simp; done) | (simp [*]; done)), H', ⟨by first | omega | exact Nat.le_refl _⟩, ⟨by (with_reducible repeat (first | apply KdRc_alloc | apply KdRc_drewN | apply KdRc_drew)); exact KdRc_mono HO357.out (fun _ hk => hk.1.2)⟩, ⟨by (with_reducible repeat (first | refine blk_drewN ?_ _ | refine blk_drew ?_ | refine blk_alloc ?_ _)); exact BK354.out⟩, ⟨by repeat (first | (with_reducible first | exact HB.out | apply below_alloc | apply pw_below_drewN | apply below_drew1 | refine below_set ?_ GE354.out) | exact HB.out)⟩⟩
     ·rw [if_neg c19] at H
      have c19b0 : decide (t353 < 0) = false := decide_eq_false c19
      clear c19
      (first | rw [c19b0] | (simp only [i64_w, i32_w]; rw [c19b0]) | skip)
      have H' := Aside0.mk H
      clear H
      have hcz22_0 : w14.cell? ⟨gb354, 0, none⟩ = some (.int .i64 t345) := (blk_cell BK354.out 0).trans rfl
      have hcz22_1 : w14.cell? ⟨gb354, 1, none⟩ = some (.int .i64 t346) := (blk_cell BK354.out 1).trans rfl
      have hcz22_2 : w14.cell? ⟨gb354, 2, none⟩ = some (.int .i64 t347) := (blk_cell BK354.out 2).trans rfl
      have hcz22_3 : w14.cell? ⟨gb354, 3, none⟩ = some (.int .i64 t348) := (blk_cell BK354.out 3).trans rfl
      have hcz22_4 : w14.cell? ⟨gb354, 4, none⟩ = some (.int .i64 t349) := (blk_cell BK354.out 4).trans rfl
      have hcz22_5 : w14.cell? ⟨gb354, 5, none⟩ = some (.int .i64 t350) := (blk_cell BK354.out 5).trans rfl
      have hcz22_6 : w14.cell? ⟨gb354, 6, none⟩ = some (.string t351) := (blk_cell BK354.out 6).trans rfl
      have hfz22_0 := blk_frozen BK354.out 0
      have hfz22_1 := blk_frozen BK354.out 1
      have hfz22_2 := blk_frozen BK354.out 2
      have hfz22_3 := blk_frozen BK354.out 3
      have hfz22_4 := blk_frozen BK354.out 4
      have hfz22_5 := blk_frozen BK354.out 5
      have hfz22_6 := blk_frozen BK354.out 6
      go_wp2_with (first | (go_at_call 20; (with_reducible refine (spec_SegOk.calls k t345 t346 t347 t348 t349 t350 t351 true _ A17.out).mono ?_); rintro e w23 ⟨rfl, hb⟩; have n0_ := Aside0.mk (KdRc_below (by (with_reducible repeat (first | apply KdRc_alloc | apply KdRc_drewN | apply KdRc_drew)); exact HO357.out) hb); have n1_ := Aside0.mk (KdRc_below (by (with_reducible repeat (first | apply KdRc_alloc | apply KdRc_drewN | apply KdRc_drew)); exact HO360.out) hb); have n2_ := Aside0.mk (blk_below (g := gb354) (o := .cells #[.int .i64 t345, .int .i64 t346, .int .i64 t347, .int .i64 t348, .int .i64 t349, .int .i64 t350, .string t351] 31 (0, 0)) (by (with_reducible repeat (first | refine blk_drewN ?_ _ | refine blk_drew ?_ | refine blk_alloc ?_ _)); exact BK354.out) hb); have n3_ := Aside0.mk (below_step (by repeat (first | (with_reducible first | exact HB.out | apply below_alloc | apply pw_below_drewN | apply below_drew1 | refine below_set ?_ GE354.out) | exact HB.out)) hb); clear HO357; clear HO360; clear BK354; clear HB; have HO357 := n0_; have HO360 := n1_; have BK354 := n2_; have HB := n3_; clear n0_ n1_ n2_ n3_; (try clear hb); (try clear hb2); (try clear hk); (try clear hi)))
      repeat (go_quiet (first | (go_at_call 20; (with_reducible refine (spec_SegOk.calls k t345 t346 t347 t348 t349 t350 t351 true _ A17.out).mono ?_); rintro e w23 ⟨rfl, hb⟩; have n0_ := Aside0.mk (KdRc_below (by (with_reducible repeat (first | apply KdRc_alloc | apply KdRc_drewN | apply KdRc_drew)); exact HO357.out) hb); have n1_ := Aside0.mk (KdRc_below (by (with_reducible repeat (first | apply KdRc_alloc | apply KdRc_drewN | apply KdRc_drew)); exact HO360.out) hb); have n2_ := Aside0.mk (blk_below (g := gb354) (o := .cells #[.int .i64 t345, .int .i64 t346, .int .i64 t347, .int .i64 t348, .int .i64 t349, .int .i64 t350, .string t351] 31 (0, 0)) (by (with_reducible repeat (first | refine blk_drewN ?_ _ | refine blk_drew ?_ | refine blk_alloc ?_ _)); exact BK354.out) hb); have n3_ := Aside0.mk (below_step (by repeat (first | (with_reducible first | exact HB.out | apply below_alloc | apply pw_below_drewN | apply below_drew1 | refine below_set ?_ GE354.out) | exact HB.out)) hb); clear HO357; clear HO360; clear BK354; clear HB; have HO357 := n0_; have HO360 := n1_; have BK354 := n2_; have HB := n3_; clear n0_ n1_ n2_ n3_; (try clear hb); (try clear hb2); (try clear hk); (try clear hi))); try go_wp2_with (first | (go_at_call 20; (with_reducible refine (spec_SegOk.calls k t345 t346 t347 t348 t349 t350 t351 true _ A17.out).mono ?_); rintro e w23 ⟨rfl, hb⟩; have n0_ := Aside0.mk (KdRc_below (by (with_reducible repeat (first | apply KdRc_alloc | apply KdRc_drewN | apply KdRc_drew)); exact HO357.out) hb); have n1_ := Aside0.mk (KdRc_below (by (with_reducible repeat (first | apply KdRc_alloc | apply KdRc_drewN | apply KdRc_drew)); exact HO360.out) hb); have n2_ := Aside0.mk (blk_below (g := gb354) (o := .cells #[.int .i64 t345, .int .i64 t346, .int .i64 t347, .int .i64 t348, .int .i64 t349, .int .i64 t350, .string t351] 31 (0, 0)) (by (with_reducible repeat (first | refine blk_drewN ?_ _ | refine blk_drew ?_ | refine blk_alloc ?_ _)); exact BK354.out) hb); have n3_ := Aside0.mk (below_step (by repeat (first | (with_reducible first | exact HB.out | apply below_alloc | apply pw_below_drewN | apply below_drew1 | refine below_set ?_ GE354.out) | exact HB.out)) hb); clear HO357; clear HO360; clear BK354; clear HB; have HO357 := n0_; have HO360 := n1_; have BK354 := n2_; have HB := n3_; clear n0_ n1_ n2_ n3_; (try clear hb); (try clear hb2); (try clear hk); (try clear hi))))
      go_meet
      case rel => exact ⟨_, (decide ((t352.size : Int) > 240)), (by first | rfl | (simp; done) | (simp [*]; done)), H', ⟨by first | omega | exact Nat.le_refl _⟩, ⟨by (with_reducible repeat (first | apply KdRc_alloc | apply KdRc_drewN | apply KdRc_drew)); exact KdRc_mono HO357.out (fun _ hk => hk.1.2)⟩, ⟨by (with_reducible repeat (first | refine blk_drewN ?_ _ | refine blk_drew ?_ | refine blk_alloc ?_ _)); exact BK354.out⟩, ⟨by repeat (first | (with_reducible first | exact HB.out | apply below_alloc | apply pw_below_drewN | apply below_drew1 | refine below_set ?_ GE354.out) | exact HB.out)⟩⟩
    ·replace c18 := Bool.eq_false_iff.mpr c18
     subst c18
     have H1 : (laws_FnSegCut.j0 k t352 t353 t355 true t345 t346 t347 t348 t349 t350 t351) = some r := by rw [if_neg (show ¬ (false = true) by decide)] at H; exact H
     clear H
     have H := H1
     clear H1
     have H' := Aside0.mk H
     clear H
     have hcz24_0 : w14.cell? ⟨gb354, 0, none⟩ = some (.int .i64 t345) := (blk_cell BK354.out 0).trans rfl
     have hcz24_1 : w14.cell? ⟨gb354, 1, none⟩ = some (.int .i64 t346) := (blk_cell BK354.out 1).trans rfl
     have hcz24_2 : w14.cell? ⟨gb354, 2, none⟩ = some (.int .i64 t347) := (blk_cell BK354.out 2).trans rfl
     have hcz24_3 : w14.cell? ⟨gb354, 3, none⟩ = some (.int .i64 t348) := (blk_cell BK354.out 3).trans rfl
     have hcz24_4 : w14.cell? ⟨gb354, 4, none⟩ = some (.int .i64 t349) := (blk_cell BK354.out 4).trans rfl
     have hcz24_5 : w14.cell? ⟨gb354, 5, none⟩ = some (.int .i64 t350) := (blk_cell BK354.out 5).trans rfl
     have hcz24_6 : w14.cell? ⟨gb354, 6, none⟩ = some (.string t351) := (blk_cell BK354.out 6).trans rfl
     have hfz24_0 := blk_frozen BK354.out 0
     have hfz24_1 := blk_frozen BK354.out 1
     have hfz24_2 := blk_frozen BK354.out 2
     have hfz24_3 := blk_frozen BK354.out 3
     have hfz24_4 := blk_frozen BK354.out 4
     have hfz24_5 := blk_frozen BK354.out 5
     have hfz24_6 := blk_frozen BK354.out 6
     go_wp2_with (first | (go_at_call 20; (with_reducible refine (spec_SegOk.calls k t345 t346 t347 t348 t349 t350 t351 false _ A17.out).mono ?_); rintro e w25 ⟨rfl, hb⟩; have n0_ := Aside0.mk (KdRc_below (by (with_reducible repeat (first | apply KdRc_alloc | apply KdRc_drewN | apply KdRc_drew)); exact HO357.out) hb); have n1_ := Aside0.mk (KdRc_below (by (with_reducible repeat (first | apply KdRc_alloc | apply KdRc_drewN | apply KdRc_drew)); exact HO360.out) hb); have n2_ := Aside0.mk (blk_below (g := gb354) (o := .cells #[.int .i64 t345, .int .i64 t346, .int .i64 t347, .int .i64 t348, .int .i64 t349, .int .i64 t350, .string t351] 31 (0, 0)) (by (with_reducible repeat (first | refine blk_drewN ?_ _ | refine blk_drew ?_ | refine blk_alloc ?_ _)); exact BK354.out) hb); have n3_ := Aside0.mk (below_step (by repeat (first | (with_reducible first | exact HB.out | apply below_alloc | apply pw_below_drewN | apply below_drew1 | refine below_set ?_ GE354.out) | exact HB.out)) hb); clear HO357; clear HO360; clear BK354; clear HB; have HO357 := n0_; have HO360 := n1_; have BK354 := n2_; have HB := n3_; clear n0_ n1_ n2_ n3_; (try clear hb); (try clear hb2); (try clear hk); (try clear hi)))
     repeat (go_quiet (first | (go_at_call 20; (with_reducible refine (spec_SegOk.calls k t345 t346 t347 t348 t349 t350 t351 false _ A17.out).mono ?_); rintro e w25 ⟨rfl, hb⟩; have n0_ := Aside0.mk (KdRc_below (by (with_reducible repeat (first | apply KdRc_alloc | apply KdRc_drewN | apply KdRc_drew)); exact HO357.out) hb); have n1_ := Aside0.mk (KdRc_below (by (with_reducible repeat (first | apply KdRc_alloc | apply KdRc_drewN | apply KdRc_drew)); exact HO360.out) hb); have n2_ := Aside0.mk (blk_below (g := gb354) (o := .cells #[.int .i64 t345, .int .i64 t346, .int .i64 t347, .int .i64 t348, .int .i64 t349, .int .i64 t350, .string t351] 31 (0, 0)) (by (with_reducible repeat (first | refine blk_drewN ?_ _ | refine blk_drew ?_ | refine blk_alloc ?_ _)); exact BK354.out) hb); have n3_ := Aside0.mk (below_step (by repeat (first | (with_reducible first | exact HB.out | apply below_alloc | apply pw_below_drewN | apply below_drew1 | refine below_set ?_ GE354.out) | exact HB.out)) hb); clear HO357; clear HO360; clear BK354; clear HB; have HO357 := n0_; have HO360 := n1_; have BK354 := n2_; have HB := n3_; clear n0_ n1_ n2_ n3_; (try clear hb); (try clear hb2); (try clear hk); (try clear hi))); try go_wp2_with (first | (go_at_call 20; (with_reducible refine (spec_SegOk.calls k t345 t346 t347 t348 t349 t350 t351 false _ A17.out).mono ?_); rintro e w25 ⟨rfl, hb⟩; have n0_ := Aside0.mk (KdRc_below (by (with_reducible repeat (first | apply KdRc_alloc | apply KdRc_drewN | apply KdRc_drew)); exact HO357.out) hb); have n1_ := Aside0.mk (KdRc_below (by (with_reducible repeat (first | apply KdRc_alloc | apply KdRc_drewN | apply KdRc_drew)); exact HO360.out) hb); have n2_ := Aside0.mk (blk_below (g := gb354) (o := .cells #[.int .i64 t345, .int .i64 t346, .int .i64 t347, .int .i64 t348, .int .i64 t349, .int .i64 t350, .string t351] 31 (0, 0)) (by (with_reducible repeat (first | refine blk_drewN ?_ _ | refine blk_drew ?_ | refine blk_alloc ?_ _)); exact BK354.out) hb); have n3_ := Aside0.mk (below_step (by repeat (first | (with_reducible first | exact HB.out | apply below_alloc | apply pw_below_drewN | apply below_drew1 | refine below_set ?_ GE354.out) | exact HB.out)) hb); clear HO357; clear HO360; clear BK354; clear HB; have HO357 := n0_; have HO360 := n1_; have BK354 := n2_; have HB := n3_; clear n0_ n1_ n2_ n3_; (try clear hb); (try clear hb2); (try clear hk); (try clear hi))))
     go_meet
     case rel => exact ⟨_, (true), (by first | rfl | (simp; done) | (simp [*]; done)), H', ⟨by first | omega | exact Nat.le_refl _⟩, ⟨by (with_reducible repeat (first | apply KdRc_alloc | apply KdRc_drewN | apply KdRc_drew)); exact KdRc_mono HO357.out (fun _ hk => hk.1.2)⟩, ⟨by (with_reducible repeat (first | refine blk_drewN ?_ _ | refine blk_drew ?_ | refine blk_alloc ?_ _)); exact BK354.out⟩, ⟨by repeat (first | (with_reducible first | exact HB.out | apply below_alloc | apply pw_below_drewN | apply below_drew1 | refine below_set ?_ GE354.out) | exact HB.out)⟩⟩
   case rest =>
    clear HC8
    try clear c1
    try clear c2
    try clear c2b0
    try clear c2b1
    try clear p2
    try clear c7
    try clear c9
    try clear c18
    try clear c19
    try clear c19b0
    try clear hcz11_0
    try clear hcz11_1
    try clear hcz11_2
    try clear hcz11_3
    try clear hcz11_4
    try clear hcz11_5
    try clear hcz11_6
    try clear hcz13_0
    try clear hcz13_1
    try clear hcz13_2
    try clear hcz13_3
    try clear hcz13_4
    try clear hcz13_5
    try clear hcz13_6
    try clear hcz20_0
    try clear hcz20_1
    try clear hcz20_2
    try clear hcz20_3
    try clear hcz20_4
    try clear hcz20_5
    try clear hcz20_6
    try clear hcz22_0
    try clear hcz22_1
    try clear hcz22_2
    try clear hcz22_3
    try clear hcz22_4
    try clear hcz22_5
    try clear hcz22_6
    try clear hcz24_0
    try clear hcz24_1
    try clear hcz24_2
    try clear hcz24_3
    try clear hcz24_4
    try clear hcz24_5
    try clear hcz24_6
    try clear hfz11_0
    try clear hfz11_1
    try clear hfz11_2
    try clear hfz11_3
    try clear hfz11_4
    try clear hfz11_5
    try clear hfz11_6
    try clear hfz13_0
    try clear hfz13_1
    try clear hfz13_2
    try clear hfz13_3
    try clear hfz13_4
    try clear hfz13_5
    try clear hfz13_6
    try clear hfz20_0
    try clear hfz20_1
    try clear hfz20_2
    try clear hfz20_3
    try clear hfz20_4
    try clear hfz20_5
    try clear hfz20_6
    try clear hfz22_0
    try clear hfz22_1
    try clear hfz22_2
    try clear hfz22_3
    try clear hfz22_4
    try clear hfz22_5
    try clear hfz22_6
    try clear hfz24_0
    try clear hfz24_1
    try clear hfz24_2
    try clear hfz24_3
    try clear hfz24_4
    try clear hfz24_5
    try clear hfz24_6
    obtain ⟨kq, x41_7, rfl, HA, HJ7, HO_6, BK354, HB⟩ := hcut
    cases kq with
    | zero => exact absurd HA.out (by simp [laws_FnSegCut.j0])
    | succ kj7 =>
     have H := HA.out
     clear HA
     simp only [laws_FnSegCut.j0] at H
     by_cases c26 : x41_7 = true
     ·subst c26
      have H1 : (if (t355.length : Int) = 0 then ((laws_haOk.f).bind fun t363 => (some t363)) else (some false)) = some r := by rw [if_pos rfl] at H; exact H
      clear H
      have H := H1
      clear H1
      by_cases c27 : (t355.length : Int) = 0
      ·rw [if_pos c27] at H
       have c27b0 : ((t355.length : Int) == 0) = true := beq_iff_eq.mpr c27
       have c27b1 : ((t355.length : Int) != 0) = false := bne_eq_false_iff_eq.mpr c27
       clear c27
       replace H := Option.bind_eq_some_iff.mp H
       obtain ⟨t363, A280, H⟩ := H
       replace H : (some t363) = some r := H
       have A28 := Aside0.mk A280
       clear A280
       obtain rfl := Option.some.inj H
       go_wp2_with (first | (go_at_call 21; (with_reducible refine (laws_haOk.calls  t363 _ A28.out).mono ?_); rintro e w29 ⟨rfl, hb⟩; have n0_ := Aside0.mk (KdRc_below (by (with_reducible repeat (first | apply KdRc_alloc | apply KdRc_drewN | apply KdRc_drew)); exact HO_6.out) hb); have n1_ := Aside0.mk (blk_below (g := gb354) (o := .cells #[.int .i64 t345, .int .i64 t346, .int .i64 t347, .int .i64 t348, .int .i64 t349, .int .i64 t350, .string t351] 31 (0, 0)) (by (with_reducible repeat (first | refine blk_drewN ?_ _ | refine blk_drew ?_ | refine blk_alloc ?_ _)); exact BK354.out) hb); have n2_ := Aside0.mk (below_step (by repeat (first | (with_reducible first | exact HB.out | apply below_alloc | apply pw_below_drewN | apply below_drew1 | refine below_set ?_ GE354.out) | exact HB.out)) hb); clear HO_6; clear BK354; clear HB; have HO_6 := n0_; have BK354 := n1_; have HB := n2_; clear n0_ n1_ n2_; (try clear hb); (try clear hb2); (try clear hk); (try clear hi)))
       repeat (go_quiet (first | (go_at_call 21; (with_reducible refine (laws_haOk.calls  t363 _ A28.out).mono ?_); rintro e w29 ⟨rfl, hb⟩; have n0_ := Aside0.mk (KdRc_below (by (with_reducible repeat (first | apply KdRc_alloc | apply KdRc_drewN | apply KdRc_drew)); exact HO_6.out) hb); have n1_ := Aside0.mk (blk_below (g := gb354) (o := .cells #[.int .i64 t345, .int .i64 t346, .int .i64 t347, .int .i64 t348, .int .i64 t349, .int .i64 t350, .string t351] 31 (0, 0)) (by (with_reducible repeat (first | refine blk_drewN ?_ _ | refine blk_drew ?_ | refine blk_alloc ?_ _)); exact BK354.out) hb); have n2_ := Aside0.mk (below_step (by repeat (first | (with_reducible first | exact HB.out | apply below_alloc | apply pw_below_drewN | apply below_drew1 | refine below_set ?_ GE354.out) | exact HB.out)) hb); clear HO_6; clear BK354; clear HB; have HO_6 := n0_; have BK354 := n1_; have HB := n2_; clear n0_ n1_ n2_; (try clear hb); (try clear hb2); (try clear hk); (try clear hi))); try go_wp2_with (first | (go_at_call 21; (with_reducible refine (laws_haOk.calls  t363 _ A28.out).mono ?_); rintro e w29 ⟨rfl, hb⟩; have n0_ := Aside0.mk (KdRc_below (by (with_reducible repeat (first | apply KdRc_alloc | apply KdRc_drewN | apply KdRc_drew)); exact HO_6.out) hb); have n1_ := Aside0.mk (blk_below (g := gb354) (o := .cells #[.int .i64 t345, .int .i64 t346, .int .i64 t347, .int .i64 t348, .int .i64 t349, .int .i64 t350, .string t351] 31 (0, 0)) (by (with_reducible repeat (first | refine blk_drewN ?_ _ | refine blk_drew ?_ | refine blk_alloc ?_ _)); exact BK354.out) hb); have n2_ := Aside0.mk (below_step (by repeat (first | (with_reducible first | exact HB.out | apply below_alloc | apply pw_below_drewN | apply below_drew1 | refine below_set ?_ GE354.out) | exact HB.out)) hb); clear HO_6; clear BK354; clear HB; have HO_6 := n0_; have BK354 := n1_; have HB := n2_; clear n0_ n1_ n2_; (try clear hb); (try clear hb2); (try clear hk); (try clear hi))))
       go_ret
       exact ⟨by first | rfl | (simp [errW_none, errW_some] <;> rfl) | (simp [*, errW_none, errW_some] <;> rfl), by repeat (first | (with_reducible first | exact HB.out | apply below_alloc | apply pw_below_drewN | apply below_drew1 | refine below_set ?_ GE354.out) | exact HB.out)⟩
      ·rw [if_neg c27] at H
       have c27b0 : ((t355.length : Int) == 0) = false := beq_eq_false_iff_ne.mpr c27
       have c27b1 : ((t355.length : Int) != 0) = true := bne_iff_ne.mpr c27
       have c27b2 : ¬ (t355 = []) := fun h_ => c27 (by rw [h_]; rfl)
       obtain rfl := Option.some.inj H
       go_wp2
       repeat (go_quiet (fail); try go_wp2)
       go_ret
       exact ⟨by first | rfl | (simp [errW_none, errW_some] <;> rfl) | (simp [*, errW_none, errW_some] <;> rfl), by repeat (first | (with_reducible first | exact HB.out | apply below_alloc | apply pw_below_drewN | apply below_drew1 | refine below_set ?_ GE354.out) | exact HB.out)⟩
     ·replace c26 := Bool.eq_false_iff.mpr c26
      subst c26
      have H1 : (if t353 ≥ (t352.size : Int) then (if (t355.length : Int) = 1 then (if 0 < (t355.length : Int) then (if ((rd_T31 t355 0).f4).toList = ([] : List UInt8) then (if ((rd_T31 t355 0).f2) = (t352.size : Int) then (if (((rd_T31 t355 0).f0.f0) == t345 && (((rd_T31 t355 0).f0.f1) == t346)) = true then (if (((rd_T31 t355 0).f1.f0) == t347 && (((rd_T31 t355 0).f1.f1) == t348)) = true then (some (((rd_T31 t355 0).f3) == t350)) else (some false)) else (some false)) else (some false)) else (some false)) else (none)) else (some false)) else (laws_FnSegCut.l0 kj7 t352 t355 t353 0 t345 t346 t347 t348 t349 t350 t351)) = some r := by rw [if_neg (show ¬ (false = true) by decide)] at H; exact H
      clear H
      have H := H1
      clear H1
      by_cases c30 : t353 ≥ (t352.size : Int)
      ·rw [if_pos c30] at H
       have c30b0 : decide ((t352.size : Int) ≤ t353) = true := decide_eq_true c30
       clear c30
       by_cases c31 : (t355.length : Int) = 1
       ·rw [if_pos c31] at H
        have c31b0 : ((t355.length : Int) == 1) = true := beq_iff_eq.mpr c31
        have c31b1 : ((t355.length : Int) != 1) = false := bne_eq_false_iff_eq.mpr c31
        clear c31
        by_cases c32 : 0 < (t355.length : Int)
        ·rw [if_pos c32] at H
         have c32b0 : decide (0 < (t355.length : Int)) = true := decide_eq_true c32
         have c32b1 : decide (0 < t355.length) = true := decide_eq_true (by omega)
         clear c32
         by_cases c33 : ((rd_T31 t355 0).f4).toList = ([] : List UInt8)
         ·rw [if_pos c33] at H
          have c33b0 : (((rd_T31 t355 0).f4).toList == ([] : List UInt8)) = true := beq_iff_eq.mpr c33
          have c33b1 : (((rd_T31 t355 0).f4).toList != ([] : List UInt8)) = false := bne_eq_false_iff_eq.mpr c33
          clear c33
          by_cases c34 : ((rd_T31 t355 0).f2) = (t352.size : Int)
          ·rw [if_pos c34] at H
           have c34b0 : (((rd_T31 t355 0).f2) == (t352.size : Int)) = true := beq_iff_eq.mpr c34
           have c34b1 : (((rd_T31 t355 0).f2) != (t352.size : Int)) = false := bne_eq_false_iff_eq.mpr c34
           clear c34
           by_cases c35 : (((rd_T31 t355 0).f0.f0) == t345 && (((rd_T31 t355 0).f0.f1) == t346)) = true
           ·rw [if_pos c35] at H
            have c35b0 : (((rd_T31 t355 0).f0.f0) == t345 && (((rd_T31 t355 0).f0.f1) == t346)) = true := c35
            (try (have c35b1 : decide (((rd_T31 t355 0).f0.f0) = t345 && (((rd_T31 t355 0).f0.f1) == t346)) = true := by simpa using c35))
            (try (have c35b2 : (((rd_T31 t355 0).f0.f0) == t345 && (((rd_T31 t355 0).f0.f1) == t346)) = true := by simpa using c35))
            clear c35
            by_cases c36 : (((rd_T31 t355 0).f1.f0) == t347 && (((rd_T31 t355 0).f1.f1) == t348)) = true
            ·rw [if_pos c36] at H
             have c36b0 : (((rd_T31 t355 0).f1.f0) == t347 && (((rd_T31 t355 0).f1.f1) == t348)) = true := c36
             (try (have c36b1 : decide (((rd_T31 t355 0).f1.f0) = t347 && (((rd_T31 t355 0).f1.f1) == t348)) = true := by simpa using c36))
             (try (have c36b2 : (((rd_T31 t355 0).f1.f0) == t347 && (((rd_T31 t355 0).f1.f1) == t348)) = true := by simpa using c36))
             clear c36
             obtain rfl := Option.some.inj H
             have p364 : 0 ≤ (0 : Int) := (by omega)
             have q364 : 0 < (t355.length : Int) := of_decide_eq_true (by first | (with_reducible assumption) | assumption)
             obtain ⟨ad364, e364, hx364_0, hx364_1, hx364_2, hx364_3, hx364_4, hx364_5, hx364_6⟩ := at_T31 (KdRc_reads' HO_6.out).2.2 0 p364 q364
             cases e364
             have qi364 : (0 < t355.length) = True := eq_true (by omega)
             (try rw [show ((0 : Int)).toNat = 0 from rfl] at hx364_0)
             (try rw [show 0 * 7 = 0 from rfl] at hx364_0)
             (try rw [Addr.add_zero'] at hx364_0)
             (try rw [show ((0 : Int)).toNat = 0 from rfl] at hx364_1)
             (try rw [show 0 * 7 = 0 from rfl] at hx364_1)
             (try rw [Addr.add_zero'] at hx364_1)
             (try rw [show ((0 : Int)).toNat = 0 from rfl] at hx364_2)
             (try rw [show 0 * 7 = 0 from rfl] at hx364_2)
             (try rw [Addr.add_zero'] at hx364_2)
             (try rw [show ((0 : Int)).toNat = 0 from rfl] at hx364_3)
             (try rw [show 0 * 7 = 0 from rfl] at hx364_3)
             (try rw [Addr.add_zero'] at hx364_3)
             (try rw [show ((0 : Int)).toNat = 0 from rfl] at hx364_4)
             (try rw [show 0 * 7 = 0 from rfl] at hx364_4)
             (try rw [Addr.add_zero'] at hx364_4)
             (try rw [show ((0 : Int)).toNat = 0 from rfl] at hx364_5)
             (try rw [show 0 * 7 = 0 from rfl] at hx364_5)
             (try rw [Addr.add_zero'] at hx364_5)
             (try rw [show ((0 : Int)).toNat = 0 from rfl] at hx364_6)
             (try rw [show 0 * 7 = 0 from rfl] at hx364_6)
             (try rw [Addr.add_zero'] at hx364_6)
             replace p364 := eq_true p364
             replace q364 := eq_true q364
             have p365 : 0 ≤ (0 : Int) := (by omega)
             have q365 : 0 < (t355.length : Int) := of_decide_eq_true (by first | (with_reducible assumption) | assumption)
             obtain ⟨ad365, e365, hx365_0, hx365_1, hx365_2, hx365_3, hx365_4, hx365_5, hx365_6⟩ := at_T31 (KdRc_reads' HO_6.out).2.2 0 p365 q365
             obtain rfl : ad364 = ad365 := (by injection e365)
             have qi365 : (0 < t355.length) = True := eq_true (by omega)
             (try rw [show ((0 : Int)).toNat = 0 from rfl] at hx365_0)
             (try rw [show 0 * 7 = 0 from rfl] at hx365_0)
             (try rw [Addr.add_zero'] at hx365_0)
             (try rw [show ((0 : Int)).toNat = 0 from rfl] at hx365_1)
             (try rw [show 0 * 7 = 0 from rfl] at hx365_1)
             (try rw [Addr.add_zero'] at hx365_1)
             (try rw [show ((0 : Int)).toNat = 0 from rfl] at hx365_2)
             (try rw [show 0 * 7 = 0 from rfl] at hx365_2)
             (try rw [Addr.add_zero'] at hx365_2)
             (try rw [show ((0 : Int)).toNat = 0 from rfl] at hx365_3)
             (try rw [show 0 * 7 = 0 from rfl] at hx365_3)
             (try rw [Addr.add_zero'] at hx365_3)
             (try rw [show ((0 : Int)).toNat = 0 from rfl] at hx365_4)
             (try rw [show 0 * 7 = 0 from rfl] at hx365_4)
             (try rw [Addr.add_zero'] at hx365_4)
             (try rw [show ((0 : Int)).toNat = 0 from rfl] at hx365_5)
             (try rw [show 0 * 7 = 0 from rfl] at hx365_5)
             (try rw [Addr.add_zero'] at hx365_5)
             (try rw [show ((0 : Int)).toNat = 0 from rfl] at hx365_6)
             (try rw [show 0 * 7 = 0 from rfl] at hx365_6)
             (try rw [Addr.add_zero'] at hx365_6)
             replace p365 := eq_true p365
             replace q365 := eq_true q365
             have p366 : 0 ≤ (0 : Int) := (by omega)
             have q366 : 0 < (t355.length : Int) := of_decide_eq_true (by first | (with_reducible assumption) | assumption)
             obtain ⟨ad366, e366, hx366_0, hx366_1, hx366_2, hx366_3, hx366_4, hx366_5, hx366_6⟩ := at_T31 (KdRc_reads' HO_6.out).2.2 0 p366 q366
             obtain rfl : ad364 = ad366 := (by injection e366)
             have qi366 : (0 < t355.length) = True := eq_true (by omega)
             (try rw [show ((0 : Int)).toNat = 0 from rfl] at hx366_0)
             (try rw [show 0 * 7 = 0 from rfl] at hx366_0)
             (try rw [Addr.add_zero'] at hx366_0)
             (try rw [show ((0 : Int)).toNat = 0 from rfl] at hx366_1)
             (try rw [show 0 * 7 = 0 from rfl] at hx366_1)
             (try rw [Addr.add_zero'] at hx366_1)
             (try rw [show ((0 : Int)).toNat = 0 from rfl] at hx366_2)
             (try rw [show 0 * 7 = 0 from rfl] at hx366_2)
             (try rw [Addr.add_zero'] at hx366_2)
             (try rw [show ((0 : Int)).toNat = 0 from rfl] at hx366_3)
             (try rw [show 0 * 7 = 0 from rfl] at hx366_3)
             (try rw [Addr.add_zero'] at hx366_3)
             (try rw [show ((0 : Int)).toNat = 0 from rfl] at hx366_4)
             (try rw [show 0 * 7 = 0 from rfl] at hx366_4)
             (try rw [Addr.add_zero'] at hx366_4)
             (try rw [show ((0 : Int)).toNat = 0 from rfl] at hx366_5)
             (try rw [show 0 * 7 = 0 from rfl] at hx366_5)
             (try rw [Addr.add_zero'] at hx366_5)
             (try rw [show ((0 : Int)).toNat = 0 from rfl] at hx366_6)
             (try rw [show 0 * 7 = 0 from rfl] at hx366_6)
             (try rw [Addr.add_zero'] at hx366_6)
             replace p366 := eq_true p366
             replace q366 := eq_true q366
             have hcz37_0 : wc.cell? ⟨gb354, 0, none⟩ = some (.int .i64 t345) := (blk_cell BK354.out 0).trans rfl
             have hcz37_1 : wc.cell? ⟨gb354, 1, none⟩ = some (.int .i64 t346) := (blk_cell BK354.out 1).trans rfl
             have hcz37_2 : wc.cell? ⟨gb354, 2, none⟩ = some (.int .i64 t347) := (blk_cell BK354.out 2).trans rfl
             have hcz37_3 : wc.cell? ⟨gb354, 3, none⟩ = some (.int .i64 t348) := (blk_cell BK354.out 3).trans rfl
             have hcz37_4 : wc.cell? ⟨gb354, 4, none⟩ = some (.int .i64 t349) := (blk_cell BK354.out 4).trans rfl
             have hcz37_5 : wc.cell? ⟨gb354, 5, none⟩ = some (.int .i64 t350) := (blk_cell BK354.out 5).trans rfl
             have hcz37_6 : wc.cell? ⟨gb354, 6, none⟩ = some (.string t351) := (blk_cell BK354.out 6).trans rfl
             have hfz37_0 := blk_frozen BK354.out 0
             have hfz37_1 := blk_frozen BK354.out 1
             have hfz37_2 := blk_frozen BK354.out 2
             have hfz37_3 := blk_frozen BK354.out 3
             have hfz37_4 := blk_frozen BK354.out 4
             have hfz37_5 := blk_frozen BK354.out 5
             have hfz37_6 := blk_frozen BK354.out 6
             have p367 : 0 ≤ (0 : Int) := (by omega)
             have q367 : 0 < (t355.length : Int) := of_decide_eq_true (by first | (with_reducible assumption) | assumption)
             obtain ⟨ad367, e367, hx367_0, hx367_1, hx367_2, hx367_3, hx367_4, hx367_5, hx367_6⟩ := at_T31 (KdRc_reads' HO_6.out).2.2 0 p367 q367
             obtain rfl : ad364 = ad367 := (by injection e367)
             have qi367 : (0 < t355.length) = True := eq_true (by omega)
             (try rw [show ((0 : Int)).toNat = 0 from rfl] at hx367_0)
             (try rw [show 0 * 7 = 0 from rfl] at hx367_0)
             (try rw [Addr.add_zero'] at hx367_0)
             (try rw [show ((0 : Int)).toNat = 0 from rfl] at hx367_1)
             (try rw [show 0 * 7 = 0 from rfl] at hx367_1)
             (try rw [Addr.add_zero'] at hx367_1)
             (try rw [show ((0 : Int)).toNat = 0 from rfl] at hx367_2)
             (try rw [show 0 * 7 = 0 from rfl] at hx367_2)
             (try rw [Addr.add_zero'] at hx367_2)
             (try rw [show ((0 : Int)).toNat = 0 from rfl] at hx367_3)
             (try rw [show 0 * 7 = 0 from rfl] at hx367_3)
             (try rw [Addr.add_zero'] at hx367_3)
             (try rw [show ((0 : Int)).toNat = 0 from rfl] at hx367_4)
             (try rw [show 0 * 7 = 0 from rfl] at hx367_4)
             (try rw [Addr.add_zero'] at hx367_4)
             (try rw [show ((0 : Int)).toNat = 0 from rfl] at hx367_5)
             (try rw [show 0 * 7 = 0 from rfl] at hx367_5)
             (try rw [Addr.add_zero'] at hx367_5)
             (try rw [show ((0 : Int)).toNat = 0 from rfl] at hx367_6)
             (try rw [show 0 * 7 = 0 from rfl] at hx367_6)
             (try rw [Addr.add_zero'] at hx367_6)
             replace p367 := eq_true p367
             replace q367 := eq_true q367
             have p368 : 0 ≤ (0 : Int) := (by omega)
             have q368 : 0 < (t355.length : Int) := of_decide_eq_true (by first | (with_reducible assumption) | assumption)
             obtain ⟨ad368, e368, hx368_0, hx368_1, hx368_2, hx368_3, hx368_4, hx368_5, hx368_6⟩ := at_T31 (KdRc_reads' HO_6.out).2.2 0 p368 q368
             obtain rfl : ad364 = ad368 := (by injection e368)
             have qi368 : (0 < t355.length) = True := eq_true (by omega)
             (try rw [show ((0 : Int)).toNat = 0 from rfl] at hx368_0)
             (try rw [show 0 * 7 = 0 from rfl] at hx368_0)
             (try rw [Addr.add_zero'] at hx368_0)
             (try rw [show ((0 : Int)).toNat = 0 from rfl] at hx368_1)
             (try rw [show 0 * 7 = 0 from rfl] at hx368_1)
             (try rw [Addr.add_zero'] at hx368_1)
             (try rw [show ((0 : Int)).toNat = 0 from rfl] at hx368_2)
             (try rw [show 0 * 7 = 0 from rfl] at hx368_2)
             (try rw [Addr.add_zero'] at hx368_2)
             (try rw [show ((0 : Int)).toNat = 0 from rfl] at hx368_3)
             (try rw [show 0 * 7 = 0 from rfl] at hx368_3)
             (try rw [Addr.add_zero'] at hx368_3)
             (try rw [show ((0 : Int)).toNat = 0 from rfl] at hx368_4)
             (try rw [show 0 * 7 = 0 from rfl] at hx368_4)
             (try rw [Addr.add_zero'] at hx368_4)
             (try rw [show ((0 : Int)).toNat = 0 from rfl] at hx368_5)
             (try rw [show 0 * 7 = 0 from rfl] at hx368_5)
             (try rw [Addr.add_zero'] at hx368_5)
             (try rw [show ((0 : Int)).toNat = 0 from rfl] at hx368_6)
             (try rw [show 0 * 7 = 0 from rfl] at hx368_6)
             (try rw [Addr.add_zero'] at hx368_6)
             replace p368 := eq_true p368
             replace q368 := eq_true q368
             go_wp2
             repeat (go_quiet (fail); try go_wp2)
             go_ret
             exact ⟨by first | rfl | (simp [errW_none, errW_some] <;> rfl) | (simp [*, errW_none, errW_some] <;> rfl), by repeat (first | (with_reducible first | exact HB.out | apply below_alloc | apply pw_below_drewN | apply below_drew1 | refine below_set ?_ GE354.out) | exact HB.out)⟩
            ·rw [if_neg c36] at H
             have c36b0 : (((rd_T31 t355 0).f1.f0) == t347 && (((rd_T31 t355 0).f1.f1) == t348)) = false := by simpa using c36
             (try (have c36b1 : decide (((rd_T31 t355 0).f1.f0) = t347 && (((rd_T31 t355 0).f1.f1) == t348)) = false := by simpa using c36))
             (try (have c36b2 : (((rd_T31 t355 0).f1.f0) == t347 && (((rd_T31 t355 0).f1.f1) == t348)) = false := by simpa using c36))
             (try (have c36b3 : ¬ (((rd_T31 t355 0).f1.f0) = t347 && (((rd_T31 t355 0).f1.f1) == t348)) := by simpa using c36))
             clear c36
             obtain rfl := Option.some.inj H
             have p364 : 0 ≤ (0 : Int) := (by omega)
             have q364 : 0 < (t355.length : Int) := of_decide_eq_true (by first | (with_reducible assumption) | assumption)
             obtain ⟨ad364, e364, hx364_0, hx364_1, hx364_2, hx364_3, hx364_4, hx364_5, hx364_6⟩ := at_T31 (KdRc_reads' HO_6.out).2.2 0 p364 q364
             cases e364
             have qi364 : (0 < t355.length) = True := eq_true (by omega)
             (try rw [show ((0 : Int)).toNat = 0 from rfl] at hx364_0)
             (try rw [show 0 * 7 = 0 from rfl] at hx364_0)
             (try rw [Addr.add_zero'] at hx364_0)
             (try rw [show ((0 : Int)).toNat = 0 from rfl] at hx364_1)
             (try rw [show 0 * 7 = 0 from rfl] at hx364_1)
             (try rw [Addr.add_zero'] at hx364_1)
             (try rw [show ((0 : Int)).toNat = 0 from rfl] at hx364_2)
             (try rw [show 0 * 7 = 0 from rfl] at hx364_2)
             (try rw [Addr.add_zero'] at hx364_2)
             (try rw [show ((0 : Int)).toNat = 0 from rfl] at hx364_3)
             (try rw [show 0 * 7 = 0 from rfl] at hx364_3)
             (try rw [Addr.add_zero'] at hx364_3)
             (try rw [show ((0 : Int)).toNat = 0 from rfl] at hx364_4)
             (try rw [show 0 * 7 = 0 from rfl] at hx364_4)
             (try rw [Addr.add_zero'] at hx364_4)
             (try rw [show ((0 : Int)).toNat = 0 from rfl] at hx364_5)
             (try rw [show 0 * 7 = 0 from rfl] at hx364_5)
             (try rw [Addr.add_zero'] at hx364_5)
             (try rw [show ((0 : Int)).toNat = 0 from rfl] at hx364_6)
             (try rw [show 0 * 7 = 0 from rfl] at hx364_6)
             (try rw [Addr.add_zero'] at hx364_6)
             replace p364 := eq_true p364
             replace q364 := eq_true q364
             have p365 : 0 ≤ (0 : Int) := (by omega)
             have q365 : 0 < (t355.length : Int) := of_decide_eq_true (by first | (with_reducible assumption) | assumption)
             obtain ⟨ad365, e365, hx365_0, hx365_1, hx365_2, hx365_3, hx365_4, hx365_5, hx365_6⟩ := at_T31 (KdRc_reads' HO_6.out).2.2 0 p365 q365
             obtain rfl : ad364 = ad365 := (by injection e365)
             have qi365 : (0 < t355.length) = True := eq_true (by omega)
             (try rw [show ((0 : Int)).toNat = 0 from rfl] at hx365_0)
             (try rw [show 0 * 7 = 0 from rfl] at hx365_0)
             (try rw [Addr.add_zero'] at hx365_0)
             (try rw [show ((0 : Int)).toNat = 0 from rfl] at hx365_1)
             (try rw [show 0 * 7 = 0 from rfl] at hx365_1)
             (try rw [Addr.add_zero'] at hx365_1)
             (try rw [show ((0 : Int)).toNat = 0 from rfl] at hx365_2)
             (try rw [show 0 * 7 = 0 from rfl] at hx365_2)
             (try rw [Addr.add_zero'] at hx365_2)
             (try rw [show ((0 : Int)).toNat = 0 from rfl] at hx365_3)
             (try rw [show 0 * 7 = 0 from rfl] at hx365_3)
             (try rw [Addr.add_zero'] at hx365_3)
             (try rw [show ((0 : Int)).toNat = 0 from rfl] at hx365_4)
             (try rw [show 0 * 7 = 0 from rfl] at hx365_4)
             (try rw [Addr.add_zero'] at hx365_4)
             (try rw [show ((0 : Int)).toNat = 0 from rfl] at hx365_5)
             (try rw [show 0 * 7 = 0 from rfl] at hx365_5)
             (try rw [Addr.add_zero'] at hx365_5)
             (try rw [show ((0 : Int)).toNat = 0 from rfl] at hx365_6)
             (try rw [show 0 * 7 = 0 from rfl] at hx365_6)
             (try rw [Addr.add_zero'] at hx365_6)
             replace p365 := eq_true p365
             replace q365 := eq_true q365
             have p366 : 0 ≤ (0 : Int) := (by omega)
             have q366 : 0 < (t355.length : Int) := of_decide_eq_true (by first | (with_reducible assumption) | assumption)
             obtain ⟨ad366, e366, hx366_0, hx366_1, hx366_2, hx366_3, hx366_4, hx366_5, hx366_6⟩ := at_T31 (KdRc_reads' HO_6.out).2.2 0 p366 q366
             obtain rfl : ad364 = ad366 := (by injection e366)
             have qi366 : (0 < t355.length) = True := eq_true (by omega)
             (try rw [show ((0 : Int)).toNat = 0 from rfl] at hx366_0)
             (try rw [show 0 * 7 = 0 from rfl] at hx366_0)
             (try rw [Addr.add_zero'] at hx366_0)
             (try rw [show ((0 : Int)).toNat = 0 from rfl] at hx366_1)
             (try rw [show 0 * 7 = 0 from rfl] at hx366_1)
             (try rw [Addr.add_zero'] at hx366_1)
             (try rw [show ((0 : Int)).toNat = 0 from rfl] at hx366_2)
             (try rw [show 0 * 7 = 0 from rfl] at hx366_2)
             (try rw [Addr.add_zero'] at hx366_2)
             (try rw [show ((0 : Int)).toNat = 0 from rfl] at hx366_3)
             (try rw [show 0 * 7 = 0 from rfl] at hx366_3)
             (try rw [Addr.add_zero'] at hx366_3)
             (try rw [show ((0 : Int)).toNat = 0 from rfl] at hx366_4)
             (try rw [show 0 * 7 = 0 from rfl] at hx366_4)
             (try rw [Addr.add_zero'] at hx366_4)
             (try rw [show ((0 : Int)).toNat = 0 from rfl] at hx366_5)
             (try rw [show 0 * 7 = 0 from rfl] at hx366_5)
             (try rw [Addr.add_zero'] at hx366_5)
             (try rw [show ((0 : Int)).toNat = 0 from rfl] at hx366_6)
             (try rw [show 0 * 7 = 0 from rfl] at hx366_6)
             (try rw [Addr.add_zero'] at hx366_6)
             replace p366 := eq_true p366
             replace q366 := eq_true q366
             have hcz38_0 : wc.cell? ⟨gb354, 0, none⟩ = some (.int .i64 t345) := (blk_cell BK354.out 0).trans rfl
             have hcz38_1 : wc.cell? ⟨gb354, 1, none⟩ = some (.int .i64 t346) := (blk_cell BK354.out 1).trans rfl
             have hcz38_2 : wc.cell? ⟨gb354, 2, none⟩ = some (.int .i64 t347) := (blk_cell BK354.out 2).trans rfl
             have hcz38_3 : wc.cell? ⟨gb354, 3, none⟩ = some (.int .i64 t348) := (blk_cell BK354.out 3).trans rfl
             have hcz38_4 : wc.cell? ⟨gb354, 4, none⟩ = some (.int .i64 t349) := (blk_cell BK354.out 4).trans rfl
             have hcz38_5 : wc.cell? ⟨gb354, 5, none⟩ = some (.int .i64 t350) := (blk_cell BK354.out 5).trans rfl
             have hcz38_6 : wc.cell? ⟨gb354, 6, none⟩ = some (.string t351) := (blk_cell BK354.out 6).trans rfl
             have hfz38_0 := blk_frozen BK354.out 0
             have hfz38_1 := blk_frozen BK354.out 1
             have hfz38_2 := blk_frozen BK354.out 2
             have hfz38_3 := blk_frozen BK354.out 3
             have hfz38_4 := blk_frozen BK354.out 4
             have hfz38_5 := blk_frozen BK354.out 5
             have hfz38_6 := blk_frozen BK354.out 6
             have p367 : 0 ≤ (0 : Int) := (by omega)
             have q367 : 0 < (t355.length : Int) := of_decide_eq_true (by first | (with_reducible assumption) | assumption)
             obtain ⟨ad367, e367, hx367_0, hx367_1, hx367_2, hx367_3, hx367_4, hx367_5, hx367_6⟩ := at_T31 (KdRc_reads' HO_6.out).2.2 0 p367 q367
             obtain rfl : ad364 = ad367 := (by injection e367)
             have qi367 : (0 < t355.length) = True := eq_true (by omega)
             (try rw [show ((0 : Int)).toNat = 0 from rfl] at hx367_0)
             (try rw [show 0 * 7 = 0 from rfl] at hx367_0)
             (try rw [Addr.add_zero'] at hx367_0)
             (try rw [show ((0 : Int)).toNat = 0 from rfl] at hx367_1)
             (try rw [show 0 * 7 = 0 from rfl] at hx367_1)
             (try rw [Addr.add_zero'] at hx367_1)
             (try rw [show ((0 : Int)).toNat = 0 from rfl] at hx367_2)
             (try rw [show 0 * 7 = 0 from rfl] at hx367_2)
             (try rw [Addr.add_zero'] at hx367_2)
             (try rw [show ((0 : Int)).toNat = 0 from rfl] at hx367_3)
             (try rw [show 0 * 7 = 0 from rfl] at hx367_3)
             (try rw [Addr.add_zero'] at hx367_3)
             (try rw [show ((0 : Int)).toNat = 0 from rfl] at hx367_4)
             (try rw [show 0 * 7 = 0 from rfl] at hx367_4)
             (try rw [Addr.add_zero'] at hx367_4)
             (try rw [show ((0 : Int)).toNat = 0 from rfl] at hx367_5)
             (try rw [show 0 * 7 = 0 from rfl] at hx367_5)
             (try rw [Addr.add_zero'] at hx367_5)
             (try rw [show ((0 : Int)).toNat = 0 from rfl] at hx367_6)
             (try rw [show 0 * 7 = 0 from rfl] at hx367_6)
             (try rw [Addr.add_zero'] at hx367_6)
             replace p367 := eq_true p367
             replace q367 := eq_true q367
             go_wp2
             repeat (go_quiet (fail); try go_wp2)
             go_ret
             exact ⟨by first | rfl | (simp [errW_none, errW_some] <;> rfl) | (simp [*, errW_none, errW_some] <;> rfl), by repeat (first | (with_reducible first | exact HB.out | apply below_alloc | apply pw_below_drewN | apply below_drew1 | refine below_set ?_ GE354.out) | exact HB.out)⟩
           ·rw [if_neg c35] at H
            have c35b0 : (((rd_T31 t355 0).f0.f0) == t345 && (((rd_T31 t355 0).f0.f1) == t346)) = false := by simpa using c35
            (try (have c35b1 : decide (((rd_T31 t355 0).f0.f0) = t345 && (((rd_T31 t355 0).f0.f1) == t346)) = false := by simpa using c35))
            (try (have c35b2 : (((rd_T31 t355 0).f0.f0) == t345 && (((rd_T31 t355 0).f0.f1) == t346)) = false := by simpa using c35))
            (try (have c35b3 : ¬ (((rd_T31 t355 0).f0.f0) = t345 && (((rd_T31 t355 0).f0.f1) == t346)) := by simpa using c35))
            clear c35
            obtain rfl := Option.some.inj H
            have p364 : 0 ≤ (0 : Int) := (by omega)
            have q364 : 0 < (t355.length : Int) := of_decide_eq_true (by first | (with_reducible assumption) | assumption)
            obtain ⟨ad364, e364, hx364_0, hx364_1, hx364_2, hx364_3, hx364_4, hx364_5, hx364_6⟩ := at_T31 (KdRc_reads' HO_6.out).2.2 0 p364 q364
            cases e364
            have qi364 : (0 < t355.length) = True := eq_true (by omega)
            (try rw [show ((0 : Int)).toNat = 0 from rfl] at hx364_0)
            (try rw [show 0 * 7 = 0 from rfl] at hx364_0)
            (try rw [Addr.add_zero'] at hx364_0)
            (try rw [show ((0 : Int)).toNat = 0 from rfl] at hx364_1)
            (try rw [show 0 * 7 = 0 from rfl] at hx364_1)
            (try rw [Addr.add_zero'] at hx364_1)
            (try rw [show ((0 : Int)).toNat = 0 from rfl] at hx364_2)
            (try rw [show 0 * 7 = 0 from rfl] at hx364_2)
            (try rw [Addr.add_zero'] at hx364_2)
            (try rw [show ((0 : Int)).toNat = 0 from rfl] at hx364_3)
            (try rw [show 0 * 7 = 0 from rfl] at hx364_3)
            (try rw [Addr.add_zero'] at hx364_3)
            (try rw [show ((0 : Int)).toNat = 0 from rfl] at hx364_4)
            (try rw [show 0 * 7 = 0 from rfl] at hx364_4)
            (try rw [Addr.add_zero'] at hx364_4)
            (try rw [show ((0 : Int)).toNat = 0 from rfl] at hx364_5)
            (try rw [show 0 * 7 = 0 from rfl] at hx364_5)
            (try rw [Addr.add_zero'] at hx364_5)
            (try rw [show ((0 : Int)).toNat = 0 from rfl] at hx364_6)
            (try rw [show 0 * 7 = 0 from rfl] at hx364_6)
            (try rw [Addr.add_zero'] at hx364_6)
            replace p364 := eq_true p364
            replace q364 := eq_true q364
            have p365 : 0 ≤ (0 : Int) := (by omega)
            have q365 : 0 < (t355.length : Int) := of_decide_eq_true (by first | (with_reducible assumption) | assumption)
            obtain ⟨ad365, e365, hx365_0, hx365_1, hx365_2, hx365_3, hx365_4, hx365_5, hx365_6⟩ := at_T31 (KdRc_reads' HO_6.out).2.2 0 p365 q365
            obtain rfl : ad364 = ad365 := (by injection e365)
            have qi365 : (0 < t355.length) = True := eq_true (by omega)
            (try rw [show ((0 : Int)).toNat = 0 from rfl] at hx365_0)
            (try rw [show 0 * 7 = 0 from rfl] at hx365_0)
            (try rw [Addr.add_zero'] at hx365_0)
            (try rw [show ((0 : Int)).toNat = 0 from rfl] at hx365_1)
            (try rw [show 0 * 7 = 0 from rfl] at hx365_1)
            (try rw [Addr.add_zero'] at hx365_1)
            (try rw [show ((0 : Int)).toNat = 0 from rfl] at hx365_2)
            (try rw [show 0 * 7 = 0 from rfl] at hx365_2)
            (try rw [Addr.add_zero'] at hx365_2)
            (try rw [show ((0 : Int)).toNat = 0 from rfl] at hx365_3)
            (try rw [show 0 * 7 = 0 from rfl] at hx365_3)
            (try rw [Addr.add_zero'] at hx365_3)
            (try rw [show ((0 : Int)).toNat = 0 from rfl] at hx365_4)
            (try rw [show 0 * 7 = 0 from rfl] at hx365_4)
            (try rw [Addr.add_zero'] at hx365_4)
            (try rw [show ((0 : Int)).toNat = 0 from rfl] at hx365_5)
            (try rw [show 0 * 7 = 0 from rfl] at hx365_5)
            (try rw [Addr.add_zero'] at hx365_5)
            (try rw [show ((0 : Int)).toNat = 0 from rfl] at hx365_6)
            (try rw [show 0 * 7 = 0 from rfl] at hx365_6)
            (try rw [Addr.add_zero'] at hx365_6)
            replace p365 := eq_true p365
            replace q365 := eq_true q365
            have p366 : 0 ≤ (0 : Int) := (by omega)
            have q366 : 0 < (t355.length : Int) := of_decide_eq_true (by first | (with_reducible assumption) | assumption)
            obtain ⟨ad366, e366, hx366_0, hx366_1, hx366_2, hx366_3, hx366_4, hx366_5, hx366_6⟩ := at_T31 (KdRc_reads' HO_6.out).2.2 0 p366 q366
            obtain rfl : ad364 = ad366 := (by injection e366)
            have qi366 : (0 < t355.length) = True := eq_true (by omega)
            (try rw [show ((0 : Int)).toNat = 0 from rfl] at hx366_0)
            (try rw [show 0 * 7 = 0 from rfl] at hx366_0)
            (try rw [Addr.add_zero'] at hx366_0)
            (try rw [show ((0 : Int)).toNat = 0 from rfl] at hx366_1)
            (try rw [show 0 * 7 = 0 from rfl] at hx366_1)
            (try rw [Addr.add_zero'] at hx366_1)
            (try rw [show ((0 : Int)).toNat = 0 from rfl] at hx366_2)
            (try rw [show 0 * 7 = 0 from rfl] at hx366_2)
            (try rw [Addr.add_zero'] at hx366_2)
            (try rw [show ((0 : Int)).toNat = 0 from rfl] at hx366_3)
            (try rw [show 0 * 7 = 0 from rfl] at hx366_3)
            (try rw [Addr.add_zero'] at hx366_3)
            (try rw [show ((0 : Int)).toNat = 0 from rfl] at hx366_4)
            (try rw [show 0 * 7 = 0 from rfl] at hx366_4)
            (try rw [Addr.add_zero'] at hx366_4)
            (try rw [show ((0 : Int)).toNat = 0 from rfl] at hx366_5)
            (try rw [show 0 * 7 = 0 from rfl] at hx366_5)
            (try rw [Addr.add_zero'] at hx366_5)
            (try rw [show ((0 : Int)).toNat = 0 from rfl] at hx366_6)
            (try rw [show 0 * 7 = 0 from rfl] at hx366_6)
            (try rw [Addr.add_zero'] at hx366_6)
            replace p366 := eq_true p366
            replace q366 := eq_true q366
            have hcz39_0 : wc.cell? ⟨gb354, 0, none⟩ = some (.int .i64 t345) := (blk_cell BK354.out 0).trans rfl
            have hcz39_1 : wc.cell? ⟨gb354, 1, none⟩ = some (.int .i64 t346) := (blk_cell BK354.out 1).trans rfl
            have hcz39_2 : wc.cell? ⟨gb354, 2, none⟩ = some (.int .i64 t347) := (blk_cell BK354.out 2).trans rfl
            have hcz39_3 : wc.cell? ⟨gb354, 3, none⟩ = some (.int .i64 t348) := (blk_cell BK354.out 3).trans rfl
            have hcz39_4 : wc.cell? ⟨gb354, 4, none⟩ = some (.int .i64 t349) := (blk_cell BK354.out 4).trans rfl
            have hcz39_5 : wc.cell? ⟨gb354, 5, none⟩ = some (.int .i64 t350) := (blk_cell BK354.out 5).trans rfl
            have hcz39_6 : wc.cell? ⟨gb354, 6, none⟩ = some (.string t351) := (blk_cell BK354.out 6).trans rfl
            have hfz39_0 := blk_frozen BK354.out 0
            have hfz39_1 := blk_frozen BK354.out 1
            have hfz39_2 := blk_frozen BK354.out 2
            have hfz39_3 := blk_frozen BK354.out 3
            have hfz39_4 := blk_frozen BK354.out 4
            have hfz39_5 := blk_frozen BK354.out 5
            have hfz39_6 := blk_frozen BK354.out 6
            go_wp2
            repeat (go_quiet (fail); try go_wp2)
            go_ret
            exact ⟨by first | rfl | (simp [errW_none, errW_some] <;> rfl) | (simp [*, errW_none, errW_some] <;> rfl), by repeat (first | (with_reducible first | exact HB.out | apply below_alloc | apply pw_below_drewN | apply below_drew1 | refine below_set ?_ GE354.out) | exact HB.out)⟩
          ·rw [if_neg c34] at H
           have c34b0 : (((rd_T31 t355 0).f2) == (t352.size : Int)) = false := beq_eq_false_iff_ne.mpr c34
           have c34b1 : (((rd_T31 t355 0).f2) != (t352.size : Int)) = true := bne_iff_ne.mpr c34
           obtain rfl := Option.some.inj H
           have p364 : 0 ≤ (0 : Int) := (by omega)
           have q364 : 0 < (t355.length : Int) := of_decide_eq_true (by first | (with_reducible assumption) | assumption)
           obtain ⟨ad364, e364, hx364_0, hx364_1, hx364_2, hx364_3, hx364_4, hx364_5, hx364_6⟩ := at_T31 (KdRc_reads' HO_6.out).2.2 0 p364 q364
           cases e364
           have qi364 : (0 < t355.length) = True := eq_true (by omega)
           (try rw [show ((0 : Int)).toNat = 0 from rfl] at hx364_0)
           (try rw [show 0 * 7 = 0 from rfl] at hx364_0)
           (try rw [Addr.add_zero'] at hx364_0)
           (try rw [show ((0 : Int)).toNat = 0 from rfl] at hx364_1)
           (try rw [show 0 * 7 = 0 from rfl] at hx364_1)
           (try rw [Addr.add_zero'] at hx364_1)
           (try rw [show ((0 : Int)).toNat = 0 from rfl] at hx364_2)
           (try rw [show 0 * 7 = 0 from rfl] at hx364_2)
           (try rw [Addr.add_zero'] at hx364_2)
           (try rw [show ((0 : Int)).toNat = 0 from rfl] at hx364_3)
           (try rw [show 0 * 7 = 0 from rfl] at hx364_3)
           (try rw [Addr.add_zero'] at hx364_3)
           (try rw [show ((0 : Int)).toNat = 0 from rfl] at hx364_4)
           (try rw [show 0 * 7 = 0 from rfl] at hx364_4)
           (try rw [Addr.add_zero'] at hx364_4)
           (try rw [show ((0 : Int)).toNat = 0 from rfl] at hx364_5)
           (try rw [show 0 * 7 = 0 from rfl] at hx364_5)
           (try rw [Addr.add_zero'] at hx364_5)
           (try rw [show ((0 : Int)).toNat = 0 from rfl] at hx364_6)
           (try rw [show 0 * 7 = 0 from rfl] at hx364_6)
           (try rw [Addr.add_zero'] at hx364_6)
           replace p364 := eq_true p364
           replace q364 := eq_true q364
           have p365 : 0 ≤ (0 : Int) := (by omega)
           have q365 : 0 < (t355.length : Int) := of_decide_eq_true (by first | (with_reducible assumption) | assumption)
           obtain ⟨ad365, e365, hx365_0, hx365_1, hx365_2, hx365_3, hx365_4, hx365_5, hx365_6⟩ := at_T31 (KdRc_reads' HO_6.out).2.2 0 p365 q365
           obtain rfl : ad364 = ad365 := (by injection e365)
           have qi365 : (0 < t355.length) = True := eq_true (by omega)
           (try rw [show ((0 : Int)).toNat = 0 from rfl] at hx365_0)
           (try rw [show 0 * 7 = 0 from rfl] at hx365_0)
           (try rw [Addr.add_zero'] at hx365_0)
           (try rw [show ((0 : Int)).toNat = 0 from rfl] at hx365_1)
           (try rw [show 0 * 7 = 0 from rfl] at hx365_1)
           (try rw [Addr.add_zero'] at hx365_1)
           (try rw [show ((0 : Int)).toNat = 0 from rfl] at hx365_2)
           (try rw [show 0 * 7 = 0 from rfl] at hx365_2)
           (try rw [Addr.add_zero'] at hx365_2)
           (try rw [show ((0 : Int)).toNat = 0 from rfl] at hx365_3)
           (try rw [show 0 * 7 = 0 from rfl] at hx365_3)
           (try rw [Addr.add_zero'] at hx365_3)
           (try rw [show ((0 : Int)).toNat = 0 from rfl] at hx365_4)
           (try rw [show 0 * 7 = 0 from rfl] at hx365_4)
           (try rw [Addr.add_zero'] at hx365_4)
           (try rw [show ((0 : Int)).toNat = 0 from rfl] at hx365_5)
           (try rw [show 0 * 7 = 0 from rfl] at hx365_5)
           (try rw [Addr.add_zero'] at hx365_5)
           (try rw [show ((0 : Int)).toNat = 0 from rfl] at hx365_6)
           (try rw [show 0 * 7 = 0 from rfl] at hx365_6)
           (try rw [Addr.add_zero'] at hx365_6)
           replace p365 := eq_true p365
           replace q365 := eq_true q365
           go_wp2
           repeat (go_quiet (fail); try go_wp2)
           go_ret
           exact ⟨by first | rfl | (simp [errW_none, errW_some] <;> rfl) | (simp [*, errW_none, errW_some] <;> rfl), by repeat (first | (with_reducible first | exact HB.out | apply below_alloc | apply pw_below_drewN | apply below_drew1 | refine below_set ?_ GE354.out) | exact HB.out)⟩
         ·rw [if_neg c33] at H
          have c33b0 : (((rd_T31 t355 0).f4).toList == ([] : List UInt8)) = false := beq_eq_false_iff_ne.mpr c33
          have c33b1 : (((rd_T31 t355 0).f4).toList != ([] : List UInt8)) = true := bne_iff_ne.mpr c33
          obtain rfl := Option.some.inj H
          have p364 : 0 ≤ (0 : Int) := (by omega)
          have q364 : 0 < (t355.length : Int) := of_decide_eq_true (by first | (with_reducible assumption) | assumption)
          obtain ⟨ad364, e364, hx364_0, hx364_1, hx364_2, hx364_3, hx364_4, hx364_5, hx364_6⟩ := at_T31 (KdRc_reads' HO_6.out).2.2 0 p364 q364
          cases e364
          have qi364 : (0 < t355.length) = True := eq_true (by omega)
          (try rw [show ((0 : Int)).toNat = 0 from rfl] at hx364_0)
          (try rw [show 0 * 7 = 0 from rfl] at hx364_0)
          (try rw [Addr.add_zero'] at hx364_0)
          (try rw [show ((0 : Int)).toNat = 0 from rfl] at hx364_1)
          (try rw [show 0 * 7 = 0 from rfl] at hx364_1)
          (try rw [Addr.add_zero'] at hx364_1)
          (try rw [show ((0 : Int)).toNat = 0 from rfl] at hx364_2)
          (try rw [show 0 * 7 = 0 from rfl] at hx364_2)
          (try rw [Addr.add_zero'] at hx364_2)
          (try rw [show ((0 : Int)).toNat = 0 from rfl] at hx364_3)
          (try rw [show 0 * 7 = 0 from rfl] at hx364_3)
          (try rw [Addr.add_zero'] at hx364_3)
          (try rw [show ((0 : Int)).toNat = 0 from rfl] at hx364_4)
          (try rw [show 0 * 7 = 0 from rfl] at hx364_4)
          (try rw [Addr.add_zero'] at hx364_4)
          (try rw [show ((0 : Int)).toNat = 0 from rfl] at hx364_5)
          (try rw [show 0 * 7 = 0 from rfl] at hx364_5)
          (try rw [Addr.add_zero'] at hx364_5)
          (try rw [show ((0 : Int)).toNat = 0 from rfl] at hx364_6)
          (try rw [show 0 * 7 = 0 from rfl] at hx364_6)
          (try rw [Addr.add_zero'] at hx364_6)
          replace p364 := eq_true p364
          replace q364 := eq_true q364
          go_wp2
          repeat (go_quiet (fail); try go_wp2)
          go_ret
          exact ⟨by first | rfl | (simp [errW_none, errW_some] <;> rfl) | (simp [*, errW_none, errW_some] <;> rfl), by repeat (first | (with_reducible first | exact HB.out | apply below_alloc | apply pw_below_drewN | apply below_drew1 | refine below_set ?_ GE354.out) | exact HB.out)⟩
        ·rw [if_neg c32] at H
         exact absurd H (by simp)
       ·rw [if_neg c31] at H
        have c31b0 : ((t355.length : Int) == 1) = false := beq_eq_false_iff_ne.mpr c31
        have c31b1 : ((t355.length : Int) != 1) = true := bne_iff_ne.mpr c31
        obtain rfl := Option.some.inj H
        go_wp2
        repeat (go_quiet (fail); try go_wp2)
        go_ret
        exact ⟨by first | rfl | (simp [errW_none, errW_some] <;> rfl) | (simp [*, errW_none, errW_some] <;> rfl), by repeat (first | (with_reducible first | exact HB.out | apply below_alloc | apply pw_below_drewN | apply below_drew1 | refine below_set ?_ GE354.out) | exact HB.out)⟩
      ·rw [if_neg c30] at H
       have c30b0 : decide ((t352.size : Int) ≤ t353) = false := decide_eq_false c30
       clear c30
       have H' := Aside0.mk H
       clear H
       go_wp2
       repeat (go_quiet (fail); try go_wp2)
       go_loopg [7, 8] kj7 (fun kq v7 v8 w' => ∃ (x7_2 : Int) (x8_2 : Int), v7 = .int .i64 x7_2 ∧ v8 = .int .i64 x8_2 ∧ Aside0 (laws_FnSegCut.l0 kq t352 t355 x7_2 x8_2 t345 t346 t347 t348 t349 t350 t351 = some r) ∧ Aside0 (kq ≤ kj7) ∧ Aside0 (KdRc k31 31 w' w.heap.size (fun k_ => k_ ≠ gb354) (.slice Ao15 t355.length co15) t355) ∧ Aside0 (w'.heap[gb354]? = some (.cells #[.int .i64 t345, .int .i64 t346, .int .i64 t347, .int .i64 t348, .int .i64 t349, .int .i64 t350, .string t351] 31 (0, 0))) ∧ Aside0 (Below w.heap.size w w'))
       case atStart => exact ⟨(t353), (0), (by first | rfl | (simp; done) | (simp [*]; done)), (by first | rfl | (simp; done) | (simp [*]; done)), H', ⟨Nat.le_refl _⟩, ⟨by (with_reducible repeat (first | apply KdRc_alloc | apply KdRc_drewN | apply KdRc_drew)); exact HO_6.out⟩, ⟨by (with_reducible repeat (first | refine blk_drewN ?_ _ | refine blk_drew ?_ | refine blk_alloc ?_ _)); exact BK354.out⟩, ⟨by repeat (first | (with_reducible first | exact HB.out | apply below_alloc | apply pw_below_drewN | apply below_drew1 | refine below_set ?_ GE354.out) | exact HB.out)⟩⟩
       case round =>
        clear H'
        try clear c2
        try clear p2
        try clear c3
        try clear p3
        try clear q3
        try clear hx3
        try clear qi3
        try clear c26
        try clear c27
        try clear c27b0
        try clear c27b1
        try clear c27b2
        try clear c30
        try clear c30b0
        try clear c31
        try clear c31b0
        try clear c31b1
        try clear c32
        try clear c32b0
        try clear c32b1
        try clear c33
        try clear c33b0
        try clear c33b1
        try clear c34
        try clear c34b0
        try clear c34b1
        try clear c35
        try clear c35b0
        try clear c35b1
        try clear c35b2
        try clear c36
        try clear c36b0
        try clear c36b1
        try clear c36b2
        try clear p36
        try clear q36
        try clear hx36
        try clear qi36
        try clear hcz37_0
        try clear hcz37_1
        try clear hcz37_2
        try clear hcz37_3
        try clear hcz37_4
        try clear hcz37_5
        try clear hcz37_6
        try clear hcz38_0
        try clear hcz38_1
        try clear hcz38_2
        try clear hcz38_3
        try clear hcz38_4
        try clear hcz38_5
        try clear hcz38_6
        try clear hcz39_0
        try clear hcz39_1
        try clear hcz39_2
        try clear hcz39_3
        try clear hcz39_4
        try clear hcz39_5
        try clear hcz39_6
        try clear hfz37_0
        try clear hfz37_1
        try clear hfz37_2
        try clear hfz37_3
        try clear hfz37_4
        try clear hfz37_5
        try clear hfz37_6
        try clear hfz38_0
        try clear hfz38_1
        try clear hfz38_2
        try clear hfz38_3
        try clear hfz38_4
        try clear hfz38_5
        try clear hfz38_6
        try clear hfz39_0
        try clear hfz39_1
        try clear hfz39_2
        try clear hfz39_3
        try clear hfz39_4
        try clear hfz39_5
        try clear hfz39_6
        try clear hx364_0
        try clear hx364_1
        try clear hx364_2
        try clear hx364_3
        try clear hx364_4
        try clear hx364_5
        try clear hx364_6
        try clear hx365_0
        try clear hx365_1
        try clear hx365_2
        try clear hx365_3
        try clear hx365_4
        try clear hx365_5
        try clear hx365_6
        try clear hx366_0
        try clear hx366_1
        try clear hx366_2
        try clear hx366_3
        try clear hx366_4
        try clear hx366_5
        try clear hx366_6
        try clear hx367_0
        try clear hx367_1
        try clear hx367_2
        try clear hx367_3
        try clear hx367_4
        try clear hx367_5
        try clear hx367_6
        try clear hx368_0
        try clear hx368_1
        try clear hx368_2
        try clear hx368_3
        try clear hx368_4
        try clear hx368_5
        try clear hx368_6
        try clear p364
        try clear p365
        try clear p366
        try clear p367
        try clear p368
        try clear q364
        try clear q365
        try clear q366
        try clear q367
        try clear q368
        obtain ⟨x7_2, x8_2, rfl, rfl, HA, HK2, HO_6, BK354, HB⟩ := hrel
        cases gk with
        | zero => exact absurd HA.out (by simp [laws_FnSegCut.l0])
        | succ k2 =>
         have H := HA.out
         clear HA
         simp only [laws_FnSegCut.l0] at H
         by_cases c40 : x8_2 < (t355.length : Int)
         ·rw [if_pos c40] at H
          have c40b0 : decide (x8_2 < (t355.length : Int)) = true := decide_eq_true c40
          clear c40
          by_cases c41 : 0 ≤ x8_2
          ·rw [if_pos c41] at H
           have c41b0 : decide (0 ≤ x8_2) = true := decide_eq_true c41
           clear c41
           by_cases c42 : (!(((rd_T31 t355 x8_2).f0.f0) == t345) || (!(((rd_T31 t355 x8_2).f0.f1) == t346))) = true
           ·rw [if_pos c42] at H
            have c42b0 : (!(((rd_T31 t355 x8_2).f0.f0) == t345) || (!(((rd_T31 t355 x8_2).f0.f1) == t346))) = true := c42
            clear c42
            exact absurd (H.trans (congrArg some HR_.out)) (by simp)
           ·rw [if_neg c42] at H
            have c42b0 : (!(((rd_T31 t355 x8_2).f0.f0) == t345) || (!(((rd_T31 t355 x8_2).f0.f1) == t346))) = false := by simpa using c42
            clear c42
            by_cases c47 : (!(((rd_T31 t355 x8_2).f1.f0) == t347) || (!(((rd_T31 t355 x8_2).f1.f1) == t348))) = true
            ·rw [if_pos c47] at H
             have c47b0 : (!(((rd_T31 t355 x8_2).f1.f0) == t347) || (!(((rd_T31 t355 x8_2).f1.f1) == t348))) = true := c47
             clear c47
             exact absurd (H.trans (congrArg some HR_.out)) (by simp)
            ·rw [if_neg c47] at H
             have c47b0 : (!(((rd_T31 t355 x8_2).f1.f0) == t347) || (!(((rd_T31 t355 x8_2).f1.f1) == t348))) = false := by simpa using c47
             clear c47
             by_cases c52 : ((rd_T31 t355 x8_2).f3) = t350
             ·rw [if_pos c52] at H
              have c52b0 : (((rd_T31 t355 x8_2).f3) == t350) = true := beq_iff_eq.mpr c52
              have c52b1 : (((rd_T31 t355 x8_2).f3) != t350) = false := bne_eq_false_iff_eq.mpr c52
              clear c52
              by_cases c53 : ((rd_T31 t355 x8_2).f2) = x7_2
              ·rw [if_pos c53] at H
               have c53b0 : (((rd_T31 t355 x8_2).f2) == x7_2) = true := beq_iff_eq.mpr c53
               have c53b1 : (((rd_T31 t355 x8_2).f2) != x7_2) = false := bne_eq_false_iff_eq.mpr c53
               clear c53
               by_cases c54 : (wrap64 (((rd_T31 t355 x8_2).f2) + (((rd_T31 t355 x8_2).f4).size : Int))) > (t352.size : Int)
               ·rw [if_pos c54] at H
                have c54b0 : decide ((t352.size : Int) < (wrap64 (((rd_T31 t355 x8_2).f2) + (((rd_T31 t355 x8_2).f4).size : Int)))) = true := decide_eq_true c54
                clear c54
                exact absurd (H.trans (congrArg some HR_.out)) (by simp)
               ·rw [if_neg c54] at H
                have c54b0 : decide ((t352.size : Int) < (wrap64 (((rd_T31 t355 x8_2).f2) + (((rd_T31 t355 x8_2).f4).size : Int)))) = false := decide_eq_false c54
                clear c54
                by_cases c59 : 0 ≤ ((rd_T31 t355 x8_2).f2)
                ·rw [if_pos c59] at H
                 have c59b0 := eq_true c59
                 have c59b1 : decide (0 ≤ ((rd_T31 t355 x8_2).f2)) = true := decide_eq_true c59
                 clear c59
                 by_cases c60 : ((rd_T31 t355 x8_2).f2) ≤ (wrap64 (((rd_T31 t355 x8_2).f2) + (((rd_T31 t355 x8_2).f4).size : Int)))
                 ·rw [if_pos c60] at H
                  have c60b0 := eq_true c60
                  have c60b1 : decide (((rd_T31 t355 x8_2).f2) ≤ (wrap64 (((rd_T31 t355 x8_2).f2) + (((rd_T31 t355 x8_2).f4).size : Int)))) = true := decide_eq_true c60
                  by_cases c61 : (wrap64 (((rd_T31 t355 x8_2).f2) + (((rd_T31 t355 x8_2).f4).size : Int))) ≤ (t352.size : Int)
                  ·rw [if_pos c61] at H
                   have c61b0 := eq_true c61
                   have c61b1 : decide ((wrap64 (((rd_T31 t355 x8_2).f2) + (((rd_T31 t355 x8_2).f4).size : Int))) ≤ (t352.size : Int)) = true := decide_eq_true c61
                   by_cases c62 : (t352.extract (((rd_T31 t355 x8_2).f2) : Int).toNat ((wrap64 (((rd_T31 t355 x8_2).f2) + (((rd_T31 t355 x8_2).f4).size : Int))) : Int).toNat).toList = ((rd_T31 t355 x8_2).f4).toList
                   ·rw [if_pos c62] at H
                    have c62b0 : ((t352.extract (((rd_T31 t355 x8_2).f2) : Int).toNat ((wrap64 (((rd_T31 t355 x8_2).f2) + (((rd_T31 t355 x8_2).f4).size : Int))) : Int).toNat).toList == ((rd_T31 t355 x8_2).f4).toList) = true := beq_iff_eq.mpr c62
                    have c62b1 : ((t352.extract (((rd_T31 t355 x8_2).f2) : Int).toNat ((wrap64 (((rd_T31 t355 x8_2).f2) + (((rd_T31 t355 x8_2).f4).size : Int))) : Int).toNat).toList != ((rd_T31 t355 x8_2).f4).toList) = false := bne_eq_false_iff_eq.mpr c62
                    clear c62
                    by_cases c63 : x8_2 < (wrap64 ((t355.length : Int) - 1))
                    ·rw [if_pos c63] at H
                     have c63b0 : decide (x8_2 < (wrap64 ((t355.length : Int) - 1))) = true := decide_eq_true c63
                     clear c63
                     by_cases c64 : (((rd_T31 t355 x8_2).f4).size : Int) = 12
                     ·rw [if_pos c64] at H
                      have c64b0 : ((((rd_T31 t355 x8_2).f4).size : Int) == 12) = true := beq_iff_eq.mpr c64
                      have c64b1 : ((((rd_T31 t355 x8_2).f4).size : Int) != 12) = false := bne_eq_false_iff_eq.mpr c64
                      clear c64
                      by_cases c65 : ((rd_T31 t355 x8_2).f4).toList = ([] : List UInt8)
                      ·rw [if_pos c65] at H
                       have c65b0 : (((rd_T31 t355 x8_2).f4).toList == ([] : List UInt8)) = true := beq_iff_eq.mpr c65
                       have c65b1 : (((rd_T31 t355 x8_2).f4).toList != ([] : List UInt8)) = false := bne_eq_false_iff_eq.mpr c65
                       clear c65
                       exact absurd (H.trans (congrArg some HR_.out)) (by simp)
                      ·rw [if_neg c65] at H
                       have c65b0 : (((rd_T31 t355 x8_2).f4).toList == ([] : List UInt8)) = false := beq_eq_false_iff_ne.mpr c65
                       have c65b1 : (((rd_T31 t355 x8_2).f4).toList != ([] : List UInt8)) = true := bne_iff_ne.mpr c65
                       by_cases c70 : (((rd_T31 t355 x8_2).f4).size : Int) > 12
                       ·rw [if_pos c70] at H
                        have c70b0 : decide (12 < (((rd_T31 t355 x8_2).f4).size : Int)) = true := decide_eq_true c70
                        have c70b1 : decide (12 < ((rd_T31 t355 x8_2).f4).size) = true := decide_eq_true (by omega)
                        clear c70
                        exact absurd (H.trans (congrArg some HR_.out)) (by simp)
                       ·rw [if_neg c70] at H
                        have c70b0 : decide (12 < (((rd_T31 t355 x8_2).f4).size : Int)) = false := decide_eq_false c70
                        have c70b1 : decide (12 < ((rd_T31 t355 x8_2).f4).size) = false := decide_eq_false (by omega)
                        clear c70
                        have H' := Aside0.mk H
                        clear H
                        have p369 : 0 ≤ (x8_2 : Int) := of_decide_eq_true (by first | (with_reducible assumption) | assumption)
                        have q369 : x8_2 < (t355.length : Int) := of_decide_eq_true (by first | (with_reducible assumption) | assumption)
                        obtain ⟨ad369, e369, hx369_0, hx369_1, hx369_2, hx369_3, hx369_4, hx369_5, hx369_6⟩ := at_T31 (KdRc_reads' HO_6.out).2.2 x8_2 p369 q369
                        cases e369
                        replace p369 := eq_true p369
                        replace q369 := eq_true q369
                        have hcw_0 : wr.cell? ⟨gb354, 0, none⟩ = some (.int .i64 t345) := (blk_cell BK354.out 0).trans rfl
                        have hca_0 : ∀ o_ : Obj, (wr.alloc o_).cell? ⟨gb354, 0, none⟩ = some (.int .i64 t345) := fun o_ => (blk_cell (blk_alloc BK354.out o_) 0).trans rfl
                        have hcw_1 : wr.cell? ⟨gb354, 1, none⟩ = some (.int .i64 t346) := (blk_cell BK354.out 1).trans rfl
                        have hca_1 : ∀ o_ : Obj, (wr.alloc o_).cell? ⟨gb354, 1, none⟩ = some (.int .i64 t346) := fun o_ => (blk_cell (blk_alloc BK354.out o_) 1).trans rfl
                        have hcw_2 : wr.cell? ⟨gb354, 2, none⟩ = some (.int .i64 t347) := (blk_cell BK354.out 2).trans rfl
                        have hca_2 : ∀ o_ : Obj, (wr.alloc o_).cell? ⟨gb354, 2, none⟩ = some (.int .i64 t347) := fun o_ => (blk_cell (blk_alloc BK354.out o_) 2).trans rfl
                        have hcw_3 : wr.cell? ⟨gb354, 3, none⟩ = some (.int .i64 t348) := (blk_cell BK354.out 3).trans rfl
                        have hca_3 : ∀ o_ : Obj, (wr.alloc o_).cell? ⟨gb354, 3, none⟩ = some (.int .i64 t348) := fun o_ => (blk_cell (blk_alloc BK354.out o_) 3).trans rfl
                        have hcw_4 : wr.cell? ⟨gb354, 4, none⟩ = some (.int .i64 t349) := (blk_cell BK354.out 4).trans rfl
                        have hca_4 : ∀ o_ : Obj, (wr.alloc o_).cell? ⟨gb354, 4, none⟩ = some (.int .i64 t349) := fun o_ => (blk_cell (blk_alloc BK354.out o_) 4).trans rfl
                        have hcw_5 : wr.cell? ⟨gb354, 5, none⟩ = some (.int .i64 t350) := (blk_cell BK354.out 5).trans rfl
                        have hca_5 : ∀ o_ : Obj, (wr.alloc o_).cell? ⟨gb354, 5, none⟩ = some (.int .i64 t350) := fun o_ => (blk_cell (blk_alloc BK354.out o_) 5).trans rfl
                        have hcw_6 : wr.cell? ⟨gb354, 6, none⟩ = some (.string t351) := (blk_cell BK354.out 6).trans rfl
                        have hca_6 : ∀ o_ : Obj, (wr.alloc o_).cell? ⟨gb354, 6, none⟩ = some (.string t351) := fun o_ => (blk_cell (blk_alloc BK354.out o_) 6).trans rfl
                        go_wp2
                        (try simp only [List.append_eq, List.cons_append, List.nil_append]); (try (refine wp_region_quiet_lit (by kernel_rfl) (lexB_of (by as_aux_lemma => kernel_rfl) (by as_aux_lemma => kernel_rfl)) ?_; (repeat (go_big_quiet_step (fail))); refine wpQuiet_nil ?_; intro _ hw'; obtain ⟨nq, hw''⟩ := hw'; subst hw'')); try go_wp2
                        go_roundg k2
                        case measure => have := HJ7.out; have := HK2.out; omega
                        case rel => exact ⟨(wrap64 (x7_2 + (((rd_T31 t355 x8_2).f4).size : Int))), (wrap64 (x8_2 + 1)), (by first | rfl | (simp; done) | (simp [*]; done)), (by first | rfl | (simp; done) | (simp [*]; done)), H', ⟨by have := HJ7.out; have := HK2.out; omega⟩, ⟨by (with_reducible repeat (first | apply KdRc_alloc | apply KdRc_drewN | apply KdRc_drew)); exact HO_6.out⟩, ⟨by (with_reducible repeat (first | refine blk_drewN ?_ _ | refine blk_drew ?_ | refine blk_alloc ?_ _)); exact BK354.out⟩, ⟨by repeat (first | (with_reducible first | exact HB.out | apply below_alloc | apply pw_below_drewN | apply below_drew1 | refine below_set ?_ GE354.out) | exact HB.out)⟩⟩
                     ·rw [if_neg c64] at H
                      have c64b0 : ((((rd_T31 t355 x8_2).f4).size : Int) == 12) = false := beq_eq_false_iff_ne.mpr c64
                      have c64b1 : ((((rd_T31 t355 x8_2).f4).size : Int) != 12) = true := bne_iff_ne.mpr c64
                      exact absurd (H.trans (congrArg some HR_.out)) (by simp)
                    ·rw [if_neg c63] at H
                     have c63b0 : decide (x8_2 < (wrap64 ((t355.length : Int) - 1))) = false := decide_eq_false c63
                     clear c63
                     by_cases c83 : ((rd_T31 t355 x8_2).f4).toList = ([] : List UInt8)
                     ·rw [if_pos c83] at H
                      have c83b0 : (((rd_T31 t355 x8_2).f4).toList == ([] : List UInt8)) = true := beq_iff_eq.mpr c83
                      have c83b1 : (((rd_T31 t355 x8_2).f4).toList != ([] : List UInt8)) = false := bne_eq_false_iff_eq.mpr c83
                      clear c83
                      exact absurd (H.trans (congrArg some HR_.out)) (by simp)
                     ·rw [if_neg c83] at H
                      have c83b0 : (((rd_T31 t355 x8_2).f4).toList == ([] : List UInt8)) = false := beq_eq_false_iff_ne.mpr c83
                      have c83b1 : (((rd_T31 t355 x8_2).f4).toList != ([] : List UInt8)) = true := bne_iff_ne.mpr c83
                      by_cases c88 : (((rd_T31 t355 x8_2).f4).size : Int) > 12
                      ·rw [if_pos c88] at H
                       have c88b0 : decide (12 < (((rd_T31 t355 x8_2).f4).size : Int)) = true := decide_eq_true c88
                       have c88b1 : decide (12 < ((rd_T31 t355 x8_2).f4).size) = true := decide_eq_true (by omega)
                       clear c88
                       exact absurd (H.trans (congrArg some HR_.out)) (by simp)
                      ·rw [if_neg c88] at H
                       have c88b0 : decide (12 < (((rd_T31 t355 x8_2).f4).size : Int)) = false := decide_eq_false c88
                       have c88b1 : decide (12 < ((rd_T31 t355 x8_2).f4).size) = false := decide_eq_false (by omega)
                       clear c88
                       have H' := Aside0.mk H
                       clear H
                       have p369 : 0 ≤ (x8_2 : Int) := of_decide_eq_true (by first | (with_reducible assumption) | assumption)
                       have q369 : x8_2 < (t355.length : Int) := of_decide_eq_true (by first | (with_reducible assumption) | assumption)
                       obtain ⟨ad369, e369, hx369_0, hx369_1, hx369_2, hx369_3, hx369_4, hx369_5, hx369_6⟩ := at_T31 (KdRc_reads' HO_6.out).2.2 x8_2 p369 q369
                       cases e369
                       replace p369 := eq_true p369
                       replace q369 := eq_true q369
                       have hcw_0 : wr.cell? ⟨gb354, 0, none⟩ = some (.int .i64 t345) := (blk_cell BK354.out 0).trans rfl
                       have hca_0 : ∀ o_ : Obj, (wr.alloc o_).cell? ⟨gb354, 0, none⟩ = some (.int .i64 t345) := fun o_ => (blk_cell (blk_alloc BK354.out o_) 0).trans rfl
                       have hcw_1 : wr.cell? ⟨gb354, 1, none⟩ = some (.int .i64 t346) := (blk_cell BK354.out 1).trans rfl
                       have hca_1 : ∀ o_ : Obj, (wr.alloc o_).cell? ⟨gb354, 1, none⟩ = some (.int .i64 t346) := fun o_ => (blk_cell (blk_alloc BK354.out o_) 1).trans rfl
                       have hcw_2 : wr.cell? ⟨gb354, 2, none⟩ = some (.int .i64 t347) := (blk_cell BK354.out 2).trans rfl
                       have hca_2 : ∀ o_ : Obj, (wr.alloc o_).cell? ⟨gb354, 2, none⟩ = some (.int .i64 t347) := fun o_ => (blk_cell (blk_alloc BK354.out o_) 2).trans rfl
                       have hcw_3 : wr.cell? ⟨gb354, 3, none⟩ = some (.int .i64 t348) := (blk_cell BK354.out 3).trans rfl
                       have hca_3 : ∀ o_ : Obj, (wr.alloc o_).cell? ⟨gb354, 3, none⟩ = some (.int .i64 t348) := fun o_ => (blk_cell (blk_alloc BK354.out o_) 3).trans rfl
                       have hcw_4 : wr.cell? ⟨gb354, 4, none⟩ = some (.int .i64 t349) := (blk_cell BK354.out 4).trans rfl
                       have hca_4 : ∀ o_ : Obj, (wr.alloc o_).cell? ⟨gb354, 4, none⟩ = some (.int .i64 t349) := fun o_ => (blk_cell (blk_alloc BK354.out o_) 4).trans rfl
                       have hcw_5 : wr.cell? ⟨gb354, 5, none⟩ = some (.int .i64 t350) := (blk_cell BK354.out 5).trans rfl
                       have hca_5 : ∀ o_ : Obj, (wr.alloc o_).cell? ⟨gb354, 5, none⟩ = some (.int .i64 t350) := fun o_ => (blk_cell (blk_alloc BK354.out o_) 5).trans rfl
                       have hcw_6 : wr.cell? ⟨gb354, 6, none⟩ = some (.string t351) := (blk_cell BK354.out 6).trans rfl
                       have hca_6 : ∀ o_ : Obj, (wr.alloc o_).cell? ⟨gb354, 6, none⟩ = some (.string t351) := fun o_ => (blk_cell (blk_alloc BK354.out o_) 6).trans rfl
                       go_wp2
                       (try simp only [List.append_eq, List.cons_append, List.nil_append]); (try (refine wp_region_quiet_lit (by kernel_rfl) (lexB_of (by as_aux_lemma => kernel_rfl) (by as_aux_lemma => kernel_rfl)) ?_; (repeat (go_big_quiet_step (fail))); refine wpQuiet_nil ?_; intro _ hw'; obtain ⟨nq, hw''⟩ := hw'; subst hw'')); try go_wp2
                       go_roundg k2
                       case measure => have := HJ7.out; have := HK2.out; omega
                       case rel => exact ⟨(wrap64 (x7_2 + (((rd_T31 t355 x8_2).f4).size : Int))), (wrap64 (x8_2 + 1)), (by first | rfl | (simp; done) | (simp [*]; done)), (by first | rfl | (simp; done) | (simp [*]; done)), H', ⟨by have := HJ7.out; have := HK2.out; omega⟩, ⟨by (with_reducible repeat (first | apply KdRc_alloc | apply KdRc_drewN | apply KdRc_drew)); exact HO_6.out⟩, ⟨by (with_reducible repeat (first | refine blk_drewN ?_ _ | refine blk_drew ?_ | refine blk_alloc ?_ _)); exact BK354.out⟩, ⟨by repeat (first | (with_reducible first | exact HB.out | apply below_alloc | apply pw_below_drewN | apply below_drew1 | refine below_set ?_ GE354.out) | exact HB.out)⟩⟩
                   ·rw [if_neg c62] at H
                    have c62b0 : ((t352.extract (((rd_T31 t355 x8_2).f2) : Int).toNat ((wrap64 (((rd_T31 t355 x8_2).f2) + (((rd_T31 t355 x8_2).f4).size : Int))) : Int).toNat).toList == ((rd_T31 t355 x8_2).f4).toList) = false := beq_eq_false_iff_ne.mpr c62
                    have c62b1 : ((t352.extract (((rd_T31 t355 x8_2).f2) : Int).toNat ((wrap64 (((rd_T31 t355 x8_2).f2) + (((rd_T31 t355 x8_2).f4).size : Int))) : Int).toNat).toList != ((rd_T31 t355 x8_2).f4).toList) = true := bne_iff_ne.mpr c62
                    exact absurd (H.trans (congrArg some HR_.out)) (by simp)
                  ·rw [if_neg c61] at H
                   exact absurd H (by simp)
                 ·rw [if_neg c60] at H
                  exact absurd H (by simp)
                ·rw [if_neg c59] at H
                 exact absurd H (by simp)
              ·rw [if_neg c53] at H
               have c53b0 : (((rd_T31 t355 x8_2).f2) == x7_2) = false := beq_eq_false_iff_ne.mpr c53
               have c53b1 : (((rd_T31 t355 x8_2).f2) != x7_2) = true := bne_iff_ne.mpr c53
               exact absurd (H.trans (congrArg some HR_.out)) (by simp)
             ·rw [if_neg c52] at H
              have c52b0 : (((rd_T31 t355 x8_2).f3) == t350) = false := beq_eq_false_iff_ne.mpr c52
              have c52b1 : (((rd_T31 t355 x8_2).f3) != t350) = true := bne_iff_ne.mpr c52
              exact absurd (H.trans (congrArg some HR_.out)) (by simp)
          ·rw [if_neg c41] at H
           exact absurd H (by simp)
         ·rw [if_neg c40] at H
          have c40b0 : decide (x8_2 < (t355.length : Int)) = false := decide_eq_false c40
          clear c40
          obtain rfl := Option.some.inj H
          go_wp2
          repeat (go_quiet (fail); try go_wp2)
          go_ret
          exact ⟨by first | rfl | (simp [errW_none, errW_some] <;> rfl) | (simp [*, errW_none, errW_some] <;> rfl), by repeat (first | (with_reducible first | exact HB.out | apply below_alloc | apply pw_below_drewN | apply below_drew1 | refine below_set ?_ GE354.out) | exact HB.out)⟩
  ·replace c7 := Bool.eq_false_iff.mpr c7
   subst c7
   have H1 : (some false) = some r := by rw [if_neg (show ¬ (false = true) by decide)] at H; exact H
   clear H
   have H := H1
   clear H1
   obtain rfl := Option.some.inj H
   go_enter Try.func9, Try.ntmps9
   go_wp2_with (first | (go_at_call 29; (with_reducible refine (spec_DrawSegCut.calls k _ _ l0 t345 t346 t347 t348 t349 t350 t351 t352 t353 _ ?side1 ?side2 A3.out).mono ?_); (case side1 => repeat (first | exact HR0.out | (with_reducible refine Kd.C_alloc ?_ _) | (with_reducible refine Kd.C_drewN ?_ _) | (with_reducible refine Kd.C_drew ?_))); (case side2 => exact HC0.out); rintro e w109 ⟨rfl, hb⟩; have n0_ := Aside0.mk (below_step (by repeat (first | (with_reducible first | exact HB.out | apply below_alloc | apply pw_below_drewN | apply below_drew1) | exact HB.out)) hb); clear HB; have HB := n0_; clear n0_; (try clear hb); (try clear hb2); (try clear hk); (try clear hi)) | ((with_reducible refine gate_dst (N := 3) rfl ?_); (try (refine gate_guard (by rfl) ?_; dsimp only)); refine box_event ?hg (N := 3) ?hd (cs := #[.int .i64 0, .int .i64 0, .int .i64 0, .int .i64 0, .int .i64 0, .int .i64 0, .string (⟨#[]⟩ : ByteArray)]) (t := 31) ?hr ?_; (case hd => rfl); (case hg => rfl); (case hr => first | (go_simp; done) | (go_simp; rfl)); intro gb354 hg w110 hbox hb; have n0_ := Aside0.mk (below_step (by repeat (first | (with_reducible first | exact HB.out | apply below_alloc | apply pw_below_drewN | apply below_drew1) | exact HB.out)) hb); have n1_ := Aside0.mk (hbox); have n2_ := Aside0.mk ((by rw [hg]; exact (below_size (by repeat (first | (with_reducible first | exact HB.out | apply below_alloc | apply pw_below_drewN | apply below_drew1) | exact HB.out))) : w.heap.size ≤ gb354)); have n3_ := Aside0.mk ((by rw [hg]; exact (below_size (by repeat (first | (with_reducible first | exact HB.out | apply below_alloc | apply pw_below_drewN | apply below_drew1) | exact HB.out))) : w.heap.size ≤ gb354)); clear HB; have HB := n0_; have BK354 := n1_; have GW354 := n2_; have GE354 := n3_; clear n0_ n1_ n2_ n3_; clear hb hbox hg; have hcz111_0 : w110.cell? ⟨gb354, 0, none⟩ = some (.int .i64 0) := (blk_cell BK354.out 0).trans rfl; have hcz111_1 : w110.cell? ⟨gb354, 1, none⟩ = some (.int .i64 0) := (blk_cell BK354.out 1).trans rfl; have hcz111_2 : w110.cell? ⟨gb354, 2, none⟩ = some (.int .i64 0) := (blk_cell BK354.out 2).trans rfl; have hcz111_3 : w110.cell? ⟨gb354, 3, none⟩ = some (.int .i64 0) := (blk_cell BK354.out 3).trans rfl; have hcz111_4 : w110.cell? ⟨gb354, 4, none⟩ = some (.int .i64 0) := (blk_cell BK354.out 4).trans rfl; have hcz111_5 : w110.cell? ⟨gb354, 5, none⟩ = some (.int .i64 0) := (blk_cell BK354.out 5).trans rfl; have hcz111_6 : w110.cell? ⟨gb354, 6, none⟩ = some (.string (⟨#[]⟩ : ByteArray)) := (blk_cell BK354.out 6).trans rfl; have hfz111_0 := blk_frozen BK354.out 0; have hfz111_1 := blk_frozen BK354.out 1; have hfz111_2 := blk_frozen BK354.out 2; have hfz111_3 := blk_frozen BK354.out 3; have hfz111_4 := blk_frozen BK354.out 4; have hfz111_5 := blk_frozen BK354.out 5; have hfz111_6 := blk_frozen BK354.out 6) | (go_at_call 30; (with_reducible refine (impl_SegCut.calls k t345 t346 t347 t348 t349 t350 t351 t352 t353 t355 _ A4.out).mono ?_); rintro e w112 ⟨v356, rfl, ho0, hb⟩; have n0_ := Aside0.mk (KdRc_lower (KdRc_newB ho0 (g := gb354) (o := .cells #[.int .i64 t345, .int .i64 t346, .int .i64 t347, .int .i64 t348, .int .i64 t349, .int .i64 t350, .string t351] 31 (0, 0)) (by (with_reducible repeat (first | refine blk_drewN ?_ _ | refine blk_drew ?_ | refine blk_alloc ?_ _)); refine blk_put (cs := #[.int .i64 t345, .int .i64 t346, .int .i64 t347, .int .i64 t348, .int .i64 t349, .int .i64 t350, .string (⟨#[]⟩ : ByteArray)]) ?_ 6 _ rfl; (with_reducible repeat (first | refine blk_drewN ?_ _ | refine blk_drew ?_ | refine blk_alloc ?_ _)); refine blk_put (cs := #[.int .i64 t345, .int .i64 t346, .int .i64 t347, .int .i64 t348, .int .i64 t349, .int .i64 0, .string (⟨#[]⟩ : ByteArray)]) ?_ 5 _ rfl; (with_reducible repeat (first | refine blk_drewN ?_ _ | refine blk_drew ?_ | refine blk_alloc ?_ _)); refine blk_put (cs := #[.int .i64 t345, .int .i64 t346, .int .i64 t347, .int .i64 t348, .int .i64 0, .int .i64 0, .string (⟨#[]⟩ : ByteArray)]) ?_ 4 _ rfl; (with_reducible repeat (first | refine blk_drewN ?_ _ | refine blk_drew ?_ | refine blk_alloc ?_ _)); refine blk_put (cs := #[.int .i64 t345, .int .i64 t346, .int .i64 t347, .int .i64 0, .int .i64 0, .int .i64 0, .string (⟨#[]⟩ : ByteArray)]) ?_ 3 _ rfl; (with_reducible repeat (first | refine blk_drewN ?_ _ | refine blk_drew ?_ | refine blk_alloc ?_ _)); refine blk_put (cs := #[.int .i64 t345, .int .i64 t346, .int .i64 0, .int .i64 0, .int .i64 0, .int .i64 0, .string (⟨#[]⟩ : ByteArray)]) ?_ 2 _ rfl; (with_reducible repeat (first | refine blk_drewN ?_ _ | refine blk_drew ?_ | refine blk_alloc ?_ _)); refine blk_put (cs := #[.int .i64 t345, .int .i64 0, .int .i64 0, .int .i64 0, .int .i64 0, .int .i64 0, .string (⟨#[]⟩ : ByteArray)]) ?_ 1 _ rfl; (with_reducible repeat (first | refine blk_drewN ?_ _ | refine blk_drew ?_ | refine blk_alloc ?_ _)); refine blk_put (cs := #[.int .i64 0, .int .i64 0, .int .i64 0, .int .i64 0, .int .i64 0, .int .i64 0, .string (⟨#[]⟩ : ByteArray)]) ?_ 0 _ rfl; (with_reducible repeat (first | refine blk_drewN ?_ _ | refine blk_drew ?_ | refine blk_alloc ?_ _)); exact BK354.out)) (below_size (by repeat (first | (with_reducible first | exact HB.out | apply below_alloc | apply pw_below_drewN | apply below_drew1 | refine below_set ?_ GE354.out) | exact HB.out)))); have n1_ := Aside0.mk (blk_below (g := gb354) (o := .cells #[.int .i64 t345, .int .i64 t346, .int .i64 t347, .int .i64 t348, .int .i64 t349, .int .i64 t350, .string t351] 31 (0, 0)) (by (with_reducible repeat (first | refine blk_drewN ?_ _ | refine blk_drew ?_ | refine blk_alloc ?_ _)); refine blk_put (cs := #[.int .i64 t345, .int .i64 t346, .int .i64 t347, .int .i64 t348, .int .i64 t349, .int .i64 t350, .string (⟨#[]⟩ : ByteArray)]) ?_ 6 _ rfl; (with_reducible repeat (first | refine blk_drewN ?_ _ | refine blk_drew ?_ | refine blk_alloc ?_ _)); refine blk_put (cs := #[.int .i64 t345, .int .i64 t346, .int .i64 t347, .int .i64 t348, .int .i64 t349, .int .i64 0, .string (⟨#[]⟩ : ByteArray)]) ?_ 5 _ rfl; (with_reducible repeat (first | refine blk_drewN ?_ _ | refine blk_drew ?_ | refine blk_alloc ?_ _)); refine blk_put (cs := #[.int .i64 t345, .int .i64 t346, .int .i64 t347, .int .i64 t348, .int .i64 0, .int .i64 0, .string (⟨#[]⟩ : ByteArray)]) ?_ 4 _ rfl; (with_reducible repeat (first | refine blk_drewN ?_ _ | refine blk_drew ?_ | refine blk_alloc ?_ _)); refine blk_put (cs := #[.int .i64 t345, .int .i64 t346, .int .i64 t347, .int .i64 0, .int .i64 0, .int .i64 0, .string (⟨#[]⟩ : ByteArray)]) ?_ 3 _ rfl; (with_reducible repeat (first | refine blk_drewN ?_ _ | refine blk_drew ?_ | refine blk_alloc ?_ _)); refine blk_put (cs := #[.int .i64 t345, .int .i64 t346, .int .i64 0, .int .i64 0, .int .i64 0, .int .i64 0, .string (⟨#[]⟩ : ByteArray)]) ?_ 2 _ rfl; (with_reducible repeat (first | refine blk_drewN ?_ _ | refine blk_drew ?_ | refine blk_alloc ?_ _)); refine blk_put (cs := #[.int .i64 t345, .int .i64 0, .int .i64 0, .int .i64 0, .int .i64 0, .int .i64 0, .string (⟨#[]⟩ : ByteArray)]) ?_ 1 _ rfl; (with_reducible repeat (first | refine blk_drewN ?_ _ | refine blk_drew ?_ | refine blk_alloc ?_ _)); refine blk_put (cs := #[.int .i64 0, .int .i64 0, .int .i64 0, .int .i64 0, .int .i64 0, .int .i64 0, .string (⟨#[]⟩ : ByteArray)]) ?_ 0 _ rfl; (with_reducible repeat (first | refine blk_drewN ?_ _ | refine blk_drew ?_ | refine blk_alloc ?_ _)); exact BK354.out) hb); have n2_ := Aside0.mk (below_step (by repeat (first | (with_reducible first | exact HB.out | apply below_alloc | apply pw_below_drewN | apply below_drew1 | refine below_set ?_ GE354.out) | exact HB.out)) hb); clear BK354; clear HB; have HO357 := n0_; have BK354 := n1_; have HB := n2_; clear n0_ n1_ n2_; (try clear hb); (try clear hb2); (try clear hk); (try clear hi); (try clear ho0); have hcz113_0 : w112.cell? ⟨gb354, 0, none⟩ = some (.int .i64 t345) := (blk_cell BK354.out 0).trans rfl; have hcz113_1 : w112.cell? ⟨gb354, 1, none⟩ = some (.int .i64 t346) := (blk_cell BK354.out 1).trans rfl; have hcz113_2 : w112.cell? ⟨gb354, 2, none⟩ = some (.int .i64 t347) := (blk_cell BK354.out 2).trans rfl; have hcz113_3 : w112.cell? ⟨gb354, 3, none⟩ = some (.int .i64 t348) := (blk_cell BK354.out 3).trans rfl; have hcz113_4 : w112.cell? ⟨gb354, 4, none⟩ = some (.int .i64 t349) := (blk_cell BK354.out 4).trans rfl; have hcz113_5 : w112.cell? ⟨gb354, 5, none⟩ = some (.int .i64 t350) := (blk_cell BK354.out 5).trans rfl; have hcz113_6 : w112.cell? ⟨gb354, 6, none⟩ = some (.string t351) := (blk_cell BK354.out 6).trans rfl; have hfz113_0 := blk_frozen BK354.out 0; have hfz113_1 := blk_frozen BK354.out 1; have hfz113_2 := blk_frozen BK354.out 2; have hfz113_3 := blk_frozen BK354.out 3; have hfz113_4 := blk_frozen BK354.out 4; have hfz113_5 := blk_frozen BK354.out 5; have hfz113_6 := blk_frozen BK354.out 6) | (go_at_call 31; (with_reducible refine (spec_SegCut.calls k t345 t346 t347 t348 t349 t350 t351 t352 t353 t358 _ A5.out).mono ?_); rintro e w114 ⟨v359, rfl, ho0, hb⟩; replace ho0 := KdRc_of ho0; have n0_ := Aside0.mk (KdRc_elder' (by (with_reducible repeat (first | apply KdRc_alloc | apply KdRc_drewN | apply KdRc_drew)); exact HO357.out) (KdRc_base ho0) hb); have n1_ := Aside0.mk (KdRc_lower (KdRc_newB (KdRc_new' ho0 (KdRc_lt (by (with_reducible repeat (first | apply KdRc_alloc | apply KdRc_drewN | apply KdRc_drew)); exact HO357.out))) (g := gb354) (o := .cells #[.int .i64 t345, .int .i64 t346, .int .i64 t347, .int .i64 t348, .int .i64 t349, .int .i64 t350, .string t351] 31 (0, 0)) (by (with_reducible repeat (first | refine blk_drewN ?_ _ | refine blk_drew ?_ | refine blk_alloc ?_ _)); exact BK354.out)) (below_size (by repeat (first | (with_reducible first | exact HB.out | apply below_alloc | apply pw_below_drewN | apply below_drew1 | refine below_set ?_ GE354.out) | exact HB.out)))); have n2_ := Aside0.mk (blk_below (g := gb354) (o := .cells #[.int .i64 t345, .int .i64 t346, .int .i64 t347, .int .i64 t348, .int .i64 t349, .int .i64 t350, .string t351] 31 (0, 0)) (by (with_reducible repeat (first | refine blk_drewN ?_ _ | refine blk_drew ?_ | refine blk_alloc ?_ _)); exact BK354.out) hb); have n3_ := Aside0.mk (below_step (by repeat (first | (with_reducible first | exact HB.out | apply below_alloc | apply pw_below_drewN | apply below_drew1 | refine below_set ?_ GE354.out) | exact HB.out)) hb); clear HO357; clear BK354; clear HB; have HO357 := n0_; have HO360 := n1_; have BK354 := n2_; have HB := n3_; clear n0_ n1_ n2_ n3_; (try clear hb); (try clear hb2); (try clear hk); (try clear hi); (try clear ho0); obtain ⟨Ao115, co115, eo115⟩ := KdRc_slice HO357.out; subst eo115; obtain ⟨Ao116, co116, eo116⟩ := KdRc_slice HO360.out; subst eo116) | (go_at_call 35; (with_reducible refine (laws_haSegs.calls k _ _ t355 _ _ t358 false _ ?side1 ?side2 ?side3 ?side4 A6.out).mono ?_); (case side1 => repeat (first | exact (KdRc_reads' HO357.out).2.2 | (with_reducible refine Kd.C_alloc ?_ _) | (with_reducible refine Kd.C_drewN ?_ _) | (with_reducible refine Kd.C_drew ?_))); (case side2 => exact (KdRc_reads' HO357.out).2.1); (case side3 => repeat (first | exact (KdRc_reads' HO360.out).2.2 | (with_reducible refine Kd.C_alloc ?_ _) | (with_reducible refine Kd.C_drewN ?_ _) | (with_reducible refine Kd.C_drew ?_))); (case side4 => exact (KdRc_reads' HO360.out).2.1); rintro e w' ⟨rfl, ⟨nd, rfl⟩⟩; (try first | exact ⟨rfl, _, World.drewN_drewN _ _ _⟩ | exact ⟨rfl, _, Eq.trans (World.drewN_drewN _ _ _) (congrArg (World.drewN _) (Nat.add_assoc _ _ _))⟩)))
   repeat (go_quiet (first | (go_at_call 29; (with_reducible refine (spec_DrawSegCut.calls k _ _ l0 t345 t346 t347 t348 t349 t350 t351 t352 t353 _ ?side1 ?side2 A3.out).mono ?_); (case side1 => repeat (first | exact HR0.out | (with_reducible refine Kd.C_alloc ?_ _) | (with_reducible refine Kd.C_drewN ?_ _) | (with_reducible refine Kd.C_drew ?_))); (case side2 => exact HC0.out); rintro e w109 ⟨rfl, hb⟩; have n0_ := Aside0.mk (below_step (by repeat (first | (with_reducible first | exact HB.out | apply below_alloc | apply pw_below_drewN | apply below_drew1) | exact HB.out)) hb); clear HB; have HB := n0_; clear n0_; (try clear hb); (try clear hb2); (try clear hk); (try clear hi)) | ((with_reducible refine gate_dst (N := 3) rfl ?_); (try (refine gate_guard (by rfl) ?_; dsimp only)); refine box_event ?hg (N := 3) ?hd (cs := #[.int .i64 0, .int .i64 0, .int .i64 0, .int .i64 0, .int .i64 0, .int .i64 0, .string (⟨#[]⟩ : ByteArray)]) (t := 31) ?hr ?_; (case hd => rfl); (case hg => rfl); (case hr => first | (go_simp; done) | (go_simp; rfl)); intro gb354 hg w110 hbox hb; have n0_ := Aside0.mk (below_step (by repeat (first | (with_reducible first | exact HB.out | apply below_alloc | apply pw_below_drewN | apply below_drew1) | exact HB.out)) hb); have n1_ := Aside0.mk (hbox); have n2_ := Aside0.mk ((by rw [hg]; exact (below_size (by repeat (first | (with_reducible first | exact HB.out | apply below_alloc | apply pw_below_drewN | apply below_drew1) | exact HB.out))) : w.heap.size ≤ gb354)); have n3_ := Aside0.mk ((by rw [hg]; exact (below_size (by repeat (first | (with_reducible first | exact HB.out | apply below_alloc | apply pw_below_drewN | apply below_drew1) | exact HB.out))) : w.heap.size ≤ gb354)); clear HB; have HB := n0_; have BK354 := n1_; have GW354 := n2_; have GE354 := n3_; clear n0_ n1_ n2_ n3_; clear hb hbox hg; have hcz111_0 : w110.cell? ⟨gb354, 0, none⟩ = some (.int .i64 0) := (blk_cell BK354.out 0).trans rfl; have hcz111_1 : w110.cell? ⟨gb354, 1, none⟩ = some (.int .i64 0) := (blk_cell BK354.out 1).trans rfl; have hcz111_2 : w110.cell? ⟨gb354, 2, none⟩ = some (.int .i64 0) := (blk_cell BK354.out 2).trans rfl; have hcz111_3 : w110.cell? ⟨gb354, 3, none⟩ = some (.int .i64 0) := (blk_cell BK354.out 3).trans rfl; have hcz111_4 : w110.cell? ⟨gb354, 4, none⟩ = some (.int .i64 0) := (blk_cell BK354.out 4).trans rfl; have hcz111_5 : w110.cell? ⟨gb354, 5, none⟩ = some (.int .i64 0) := (blk_cell BK354.out 5).trans rfl; have hcz111_6 : w110.cell? ⟨gb354, 6, none⟩ = some (.string (⟨#[]⟩ : ByteArray)) := (blk_cell BK354.out 6).trans rfl; have hfz111_0 := blk_frozen BK354.out 0; have hfz111_1 := blk_frozen BK354.out 1; have hfz111_2 := blk_frozen BK354.out 2; have hfz111_3 := blk_frozen BK354.out 3; have hfz111_4 := blk_frozen BK354.out 4; have hfz111_5 := blk_frozen BK354.out 5; have hfz111_6 := blk_frozen BK354.out 6) | (go_at_call 30; (with_reducible refine (impl_SegCut.calls k t345 t346 t347 t348 t349 t350 t351 t352 t353 t355 _ A4.out).mono ?_); rintro e w112 ⟨v356, rfl, ho0, hb⟩; have n0_ := Aside0.mk (KdRc_lower (KdRc_newB ho0 (g := gb354) (o := .cells #[.int .i64 t345, .int .i64 t346, .int .i64 t347, .int .i64 t348, .int .i64 t349, .int .i64 t350, .string t351] 31 (0, 0)) (by (with_reducible repeat (first | refine blk_drewN ?_ _ | refine blk_drew ?_ | refine blk_alloc ?_ _)); refine blk_put (cs := #[.int .i64 t345, .int .i64 t346, .int .i64 t347, .int .i64 t348, .int .i64 t349, .int .i64 t350, .string (⟨#[]⟩ : ByteArray)]) ?_ 6 _ rfl; (with_reducible repeat (first | refine blk_drewN ?_ _ | refine blk_drew ?_ | refine blk_alloc ?_ _)); refine blk_put (cs := #[.int .i64 t345, .int .i64 t346, .int .i64 t347, .int .i64 t348, .int .i64 t349, .int .i64 0, .string (⟨#[]⟩ : ByteArray)]) ?_ 5 _ rfl; (with_reducible repeat (first | refine blk_drewN ?_ _ | refine blk_drew ?_ | refine blk_alloc ?_ _)); refine blk_put (cs := #[.int .i64 t345, .int .i64 t346, .int .i64 t347, .int .i64 t348, .int .i64 0, .int .i64 0, .string (⟨#[]⟩ : ByteArray)]) ?_ 4 _ rfl; (with_reducible repeat (first | refine blk_drewN ?_ _ | refine blk_drew ?_ | refine blk_alloc ?_ _)); refine blk_put (cs := #[.int .i64 t345, .int .i64 t346, .int .i64 t347, .int .i64 0, .int .i64 0, .int .i64 0, .string (⟨#[]⟩ : ByteArray)]) ?_ 3 _ rfl; (with_reducible repeat (first | refine blk_drewN ?_ _ | refine blk_drew ?_ | refine blk_alloc ?_ _)); refine blk_put (cs := #[.int .i64 t345, .int .i64 t346, .int .i64 0, .int .i64 0, .int .i64 0, .int .i64 0, .string (⟨#[]⟩ : ByteArray)]) ?_ 2 _ rfl; (with_reducible repeat (first | refine blk_drewN ?_ _ | refine blk_drew ?_ | refine blk_alloc ?_ _)); refine blk_put (cs := #[.int .i64 t345, .int .i64 0, .int .i64 0, .int .i64 0, .int .i64 0, .int .i64 0, .string (⟨#[]⟩ : ByteArray)]) ?_ 1 _ rfl; (with_reducible repeat (first | refine blk_drewN ?_ _ | refine blk_drew ?_ | refine blk_alloc ?_ _)); refine blk_put (cs := #[.int .i64 0, .int .i64 0, .int .i64 0, .int .i64 0, .int .i64 0, .int .i64 0, .string (⟨#[]⟩ : ByteArray)]) ?_ 0 _ rfl; (with_reducible repeat (first | refine blk_drewN ?_ _ | refine blk_drew ?_ | refine blk_alloc ?_ _)); exact BK354.out)) (below_size (by repeat (first | (with_reducible first | exact HB.out | apply below_alloc | apply pw_below_drewN | apply below_drew1 | refine below_set ?_ GE354.out) | exact HB.out)))); have n1_ := Aside0.mk (blk_below (g := gb354) (o := .cells #[.int .i64 t345, .int .i64 t346, .int .i64 t347, .int .i64 t348, .int .i64 t349, .int .i64 t350, .string t351] 31 (0, 0)) (by (with_reducible repeat (first | refine blk_drewN ?_ _ | refine blk_drew ?_ | refine blk_alloc ?_ _)); refine blk_put (cs := #[.int .i64 t345, .int .i64 t346, .int .i64 t347, .int .i64 t348, .int .i64 t349, .int .i64 t350, .string (⟨#[]⟩ : ByteArray)]) ?_ 6 _ rfl; (with_reducible repeat (first | refine blk_drewN ?_ _ | refine blk_drew ?_ | refine blk_alloc ?_ _)); refine blk_put (cs := #[.int .i64 t345, .int .i64 t346, .int .i64 t347, .int .i64 t348, .int .i64 t349, .int .i64 0, .string (⟨#[]⟩ : ByteArray)]) ?_ 5 _ rfl; (with_reducible repeat (first | refine blk_drewN ?_ _ | refine blk_drew ?_ | refine blk_alloc ?_ _)); refine blk_put (cs := #[.int .i64 t345, .int .i64 t346, .int .i64 t347, .int .i64 t348, .int .i64 0, .int .i64 0, .string (⟨#[]⟩ : ByteArray)]) ?_ 4 _ rfl; (with_reducible repeat (first | refine blk_drewN ?_ _ | refine blk_drew ?_ | refine blk_alloc ?_ _)); refine blk_put (cs := #[.int .i64 t345, .int .i64 t346, .int .i64 t347, .int .i64 0, .int .i64 0, .int .i64 0, .string (⟨#[]⟩ : ByteArray)]) ?_ 3 _ rfl; (with_reducible repeat (first | refine blk_drewN ?_ _ | refine blk_drew ?_ | refine blk_alloc ?_ _)); refine blk_put (cs := #[.int .i64 t345, .int .i64 t346, .int .i64 0, .int .i64 0, .int .i64 0, .int .i64 0, .string (⟨#[]⟩ : ByteArray)]) ?_ 2 _ rfl; (with_reducible repeat (first | refine blk_drewN ?_ _ | refine blk_drew ?_ | refine blk_alloc ?_ _)); refine blk_put (cs := #[.int .i64 t345, .int .i64 0, .int .i64 0, .int .i64 0, .int .i64 0, .int .i64 0, .string (⟨#[]⟩ : ByteArray)]) ?_ 1 _ rfl; (with_reducible repeat (first | refine blk_drewN ?_ _ | refine blk_drew ?_ | refine blk_alloc ?_ _)); refine blk_put (cs := #[.int .i64 0, .int .i64 0, .int .i64 0, .int .i64 0, .int .i64 0, .int .i64 0, .string (⟨#[]⟩ : ByteArray)]) ?_ 0 _ rfl; (with_reducible repeat (first | refine blk_drewN ?_ _ | refine blk_drew ?_ | refine blk_alloc ?_ _)); exact BK354.out) hb); have n2_ := Aside0.mk (below_step (by repeat (first | (with_reducible first | exact HB.out | apply below_alloc | apply pw_below_drewN | apply below_drew1 | refine below_set ?_ GE354.out) | exact HB.out)) hb); clear BK354; clear HB; have HO357 := n0_; have BK354 := n1_; have HB := n2_; clear n0_ n1_ n2_; (try clear hb); (try clear hb2); (try clear hk); (try clear hi); (try clear ho0); have hcz113_0 : w112.cell? ⟨gb354, 0, none⟩ = some (.int .i64 t345) := (blk_cell BK354.out 0).trans rfl; have hcz113_1 : w112.cell? ⟨gb354, 1, none⟩ = some (.int .i64 t346) := (blk_cell BK354.out 1).trans rfl; have hcz113_2 : w112.cell? ⟨gb354, 2, none⟩ = some (.int .i64 t347) := (blk_cell BK354.out 2).trans rfl; have hcz113_3 : w112.cell? ⟨gb354, 3, none⟩ = some (.int .i64 t348) := (blk_cell BK354.out 3).trans rfl; have hcz113_4 : w112.cell? ⟨gb354, 4, none⟩ = some (.int .i64 t349) := (blk_cell BK354.out 4).trans rfl; have hcz113_5 : w112.cell? ⟨gb354, 5, none⟩ = some (.int .i64 t350) := (blk_cell BK354.out 5).trans rfl; have hcz113_6 : w112.cell? ⟨gb354, 6, none⟩ = some (.string t351) := (blk_cell BK354.out 6).trans rfl; have hfz113_0 := blk_frozen BK354.out 0; have hfz113_1 := blk_frozen BK354.out 1; have hfz113_2 := blk_frozen BK354.out 2; have hfz113_3 := blk_frozen BK354.out 3; have hfz113_4 := blk_frozen BK354.out 4; have hfz113_5 := blk_frozen BK354.out 5; have hfz113_6 := blk_frozen BK354.out 6) | (go_at_call 31; (with_reducible refine (spec_SegCut.calls k t345 t346 t347 t348 t349 t350 t351 t352 t353 t358 _ A5.out).mono ?_); rintro e w114 ⟨v359, rfl, ho0, hb⟩; replace ho0 := KdRc_of ho0; have n0_ := Aside0.mk (KdRc_elder' (by (with_reducible repeat (first | apply KdRc_alloc | apply KdRc_drewN | apply KdRc_drew)); exact HO357.out) (KdRc_base ho0) hb); have n1_ := Aside0.mk (KdRc_lower (KdRc_newB (KdRc_new' ho0 (KdRc_lt (by (with_reducible repeat (first | apply KdRc_alloc | apply KdRc_drewN | apply KdRc_drew)); exact HO357.out))) (g := gb354) (o := .cells #[.int .i64 t345, .int .i64 t346, .int .i64 t347, .int .i64 t348, .int .i64 t349, .int .i64 t350, .string t351] 31 (0, 0)) (by (with_reducible repeat (first | refine blk_drewN ?_ _ | refine blk_drew ?_ | refine blk_alloc ?_ _)); exact BK354.out)) (below_size (by repeat (first | (with_reducible first | exact HB.out | apply below_alloc | apply pw_below_drewN | apply below_drew1 | refine below_set ?_ GE354.out) | exact HB.out)))); have n2_ := Aside0.mk (blk_below (g := gb354) (o := .cells #[.int .i64 t345, .int .i64 t346, .int .i64 t347, .int .i64 t348, .int .i64 t349, .int .i64 t350, .string t351] 31 (0, 0)) (by (with_reducible repeat (first | refine blk_drewN ?_ _ | refine blk_drew ?_ | refine blk_alloc ?_ _)); exact BK354.out) hb); have n3_ := Aside0.mk (below_step (by repeat (first | (with_reducible first | exact HB.out | apply below_alloc | apply pw_below_drewN | apply below_drew1 | refine below_set ?_ GE354.out) | exact HB.out)) hb); clear HO357; clear BK354; clear HB; have HO357 := n0_; have HO360 := n1_; have BK354 := n2_; have HB := n3_; clear n0_ n1_ n2_ n3_; (try clear hb); (try clear hb2); (try clear hk); (try clear hi); (try clear ho0); obtain ⟨Ao115, co115, eo115⟩ := KdRc_slice HO357.out; subst eo115; obtain ⟨Ao116, co116, eo116⟩ := KdRc_slice HO360.out; subst eo116) | (go_at_call 35; (with_reducible refine (laws_haSegs.calls k _ _ t355 _ _ t358 false _ ?side1 ?side2 ?side3 ?side4 A6.out).mono ?_); (case side1 => repeat (first | exact (KdRc_reads' HO357.out).2.2 | (with_reducible refine Kd.C_alloc ?_ _) | (with_reducible refine Kd.C_drewN ?_ _) | (with_reducible refine Kd.C_drew ?_))); (case side2 => exact (KdRc_reads' HO357.out).2.1); (case side3 => repeat (first | exact (KdRc_reads' HO360.out).2.2 | (with_reducible refine Kd.C_alloc ?_ _) | (with_reducible refine Kd.C_drewN ?_ _) | (with_reducible refine Kd.C_drew ?_))); (case side4 => exact (KdRc_reads' HO360.out).2.1); rintro e w' ⟨rfl, ⟨nd, rfl⟩⟩; (try first | exact ⟨rfl, _, World.drewN_drewN _ _ _⟩ | exact ⟨rfl, _, Eq.trans (World.drewN_drewN _ _ _) (congrArg (World.drewN _) (Nat.add_assoc _ _ _))⟩))); try go_wp2_with (first | (go_at_call 29; (with_reducible refine (spec_DrawSegCut.calls k _ _ l0 t345 t346 t347 t348 t349 t350 t351 t352 t353 _ ?side1 ?side2 A3.out).mono ?_); (case side1 => repeat (first | exact HR0.out | (with_reducible refine Kd.C_alloc ?_ _) | (with_reducible refine Kd.C_drewN ?_ _) | (with_reducible refine Kd.C_drew ?_))); (case side2 => exact HC0.out); rintro e w109 ⟨rfl, hb⟩; have n0_ := Aside0.mk (below_step (by repeat (first | (with_reducible first | exact HB.out | apply below_alloc | apply pw_below_drewN | apply below_drew1) | exact HB.out)) hb); clear HB; have HB := n0_; clear n0_; (try clear hb); (try clear hb2); (try clear hk); (try clear hi)) | ((with_reducible refine gate_dst (N := 3) rfl ?_); (try (refine gate_guard (by rfl) ?_; dsimp only)); refine box_event ?hg (N := 3) ?hd (cs := #[.int .i64 0, .int .i64 0, .int .i64 0, .int .i64 0, .int .i64 0, .int .i64 0, .string (⟨#[]⟩ : ByteArray)]) (t := 31) ?hr ?_; (case hd => rfl); (case hg => rfl); (case hr => first | (go_simp; done) | (go_simp; rfl)); intro gb354 hg w110 hbox hb; have n0_ := Aside0.mk (below_step (by repeat (first | (with_reducible first | exact HB.out | apply below_alloc | apply pw_below_drewN | apply below_drew1) | exact HB.out)) hb); have n1_ := Aside0.mk (hbox); have n2_ := Aside0.mk ((by rw [hg]; exact (below_size (by repeat (first | (with_reducible first | exact HB.out | apply below_alloc | apply pw_below_drewN | apply below_drew1) | exact HB.out))) : w.heap.size ≤ gb354)); have n3_ := Aside0.mk ((by rw [hg]; exact (below_size (by repeat (first | (with_reducible first | exact HB.out | apply below_alloc | apply pw_below_drewN | apply below_drew1) | exact HB.out))) : w.heap.size ≤ gb354)); clear HB; have HB := n0_; have BK354 := n1_; have GW354 := n2_; have GE354 := n3_; clear n0_ n1_ n2_ n3_; clear hb hbox hg; have hcz111_0 : w110.cell? ⟨gb354, 0, none⟩ = some (.int .i64 0) := (blk_cell BK354.out 0).trans rfl; have hcz111_1 : w110.cell? ⟨gb354, 1, none⟩ = some (.int .i64 0) := (blk_cell BK354.out 1).trans rfl; have hcz111_2 : w110.cell? ⟨gb354, 2, none⟩ = some (.int .i64 0) := (blk_cell BK354.out 2).trans rfl; have hcz111_3 : w110.cell? ⟨gb354, 3, none⟩ = some (.int .i64 0) := (blk_cell BK354.out 3).trans rfl; have hcz111_4 : w110.cell? ⟨gb354, 4, none⟩ = some (.int .i64 0) := (blk_cell BK354.out 4).trans rfl; have hcz111_5 : w110.cell? ⟨gb354, 5, none⟩ = some (.int .i64 0) := (blk_cell BK354.out 5).trans rfl; have hcz111_6 : w110.cell? ⟨gb354, 6, none⟩ = some (.string (⟨#[]⟩ : ByteArray)) := (blk_cell BK354.out 6).trans rfl; have hfz111_0 := blk_frozen BK354.out 0; have hfz111_1 := blk_frozen BK354.out 1; have hfz111_2 := blk_frozen BK354.out 2; have hfz111_3 := blk_frozen BK354.out 3; have hfz111_4 := blk_frozen BK354.out 4; have hfz111_5 := blk_frozen BK354.out 5; have hfz111_6 := blk_frozen BK354.out 6) | (go_at_call 30; (with_reducible refine (impl_SegCut.calls k t345 t346 t347 t348 t349 t350 t351 t352 t353 t355 _ A4.out).mono ?_); rintro e w112 ⟨v356, rfl, ho0, hb⟩; have n0_ := Aside0.mk (KdRc_lower (KdRc_newB ho0 (g := gb354) (o := .cells #[.int .i64 t345, .int .i64 t346, .int .i64 t347, .int .i64 t348, .int .i64 t349, .int .i64 t350, .string t351] 31 (0, 0)) (by (with_reducible repeat (first | refine blk_drewN ?_ _ | refine blk_drew ?_ | refine blk_alloc ?_ _)); refine blk_put (cs := #[.int .i64 t345, .int .i64 t346, .int .i64 t347, .int .i64 t348, .int .i64 t349, .int .i64 t350, .string (⟨#[]⟩ : ByteArray)]) ?_ 6 _ rfl; (with_reducible repeat (first | refine blk_drewN ?_ _ | refine blk_drew ?_ | refine blk_alloc ?_ _)); refine blk_put (cs := #[.int .i64 t345, .int .i64 t346, .int .i64 t347, .int .i64 t348, .int .i64 t349, .int .i64 0, .string (⟨#[]⟩ : ByteArray)]) ?_ 5 _ rfl; (with_reducible repeat (first | refine blk_drewN ?_ _ | refine blk_drew ?_ | refine blk_alloc ?_ _)); refine blk_put (cs := #[.int .i64 t345, .int .i64 t346, .int .i64 t347, .int .i64 t348, .int .i64 0, .int .i64 0, .string (⟨#[]⟩ : ByteArray)]) ?_ 4 _ rfl; (with_reducible repeat (first | refine blk_drewN ?_ _ | refine blk_drew ?_ | refine blk_alloc ?_ _)); refine blk_put (cs := #[.int .i64 t345, .int .i64 t346, .int .i64 t347, .int .i64 0, .int .i64 0, .int .i64 0, .string (⟨#[]⟩ : ByteArray)]) ?_ 3 _ rfl; (with_reducible repeat (first | refine blk_drewN ?_ _ | refine blk_drew ?_ | refine blk_alloc ?_ _)); refine blk_put (cs := #[.int .i64 t345, .int .i64 t346, .int .i64 0, .int .i64 0, .int .i64 0, .int .i64 0, .string (⟨#[]⟩ : ByteArray)]) ?_ 2 _ rfl; (with_reducible repeat (first | refine blk_drewN ?_ _ | refine blk_drew ?_ | refine blk_alloc ?_ _)); refine blk_put (cs := #[.int .i64 t345, .int .i64 0, .int .i64 0, .int .i64 0, .int .i64 0, .int .i64 0, .string (⟨#[]⟩ : ByteArray)]) ?_ 1 _ rfl; (with_reducible repeat (first | refine blk_drewN ?_ _ | refine blk_drew ?_ | refine blk_alloc ?_ _)); refine blk_put (cs := #[.int .i64 0, .int .i64 0, .int .i64 0, .int .i64 0, .int .i64 0, .int .i64 0, .string (⟨#[]⟩ : ByteArray)]) ?_ 0 _ rfl; (with_reducible repeat (first | refine blk_drewN ?_ _ | refine blk_drew ?_ | refine blk_alloc ?_ _)); exact BK354.out)) (below_size (by repeat (first | (with_reducible first | exact HB.out | apply below_alloc | apply pw_below_drewN | apply below_drew1 | refine below_set ?_ GE354.out) | exact HB.out)))); have n1_ := Aside0.mk (blk_below (g := gb354) (o := .cells #[.int .i64 t345, .int .i64 t346, .int .i64 t347, .int .i64 t348, .int .i64 t349, .int .i64 t350, .string t351] 31 (0, 0)) (by (with_reducible repeat (first | refine blk_drewN ?_ _ | refine blk_drew ?_ | refine blk_alloc ?_ _)); refine blk_put (cs := #[.int .i64 t345, .int .i64 t346, .int .i64 t347, .int .i64 t348, .int .i64 t349, .int .i64 t350, .string (⟨#[]⟩ : ByteArray)]) ?_ 6 _ rfl; (with_reducible repeat (first | refine blk_drewN ?_ _ | refine blk_drew ?_ | refine blk_alloc ?_ _)); refine blk_put (cs := #[.int .i64 t345, .int .i64 t346, .int .i64 t347, .int .i64 t348, .int .i64 t349, .int .i64 0, .string (⟨#[]⟩ : ByteArray)]) ?_ 5 _ rfl; (with_reducible repeat (first | refine blk_drewN ?_ _ | refine blk_drew ?_ | refine blk_alloc ?_ _)); refine blk_put (cs := #[.int .i64 t345, .int .i64 t346, .int .i64 t347, .int .i64 t348, .int .i64 0, .int .i64 0, .string (⟨#[]⟩ : ByteArray)]) ?_ 4 _ rfl; (with_reducible repeat (first | refine blk_drewN ?_ _ | refine blk_drew ?_ | refine blk_alloc ?_ _)); refine blk_put (cs := #[.int .i64 t345, .int .i64 t346, .int .i64 t347, .int .i64 0, .int .i64 0, .int .i64 0, .string (⟨#[]⟩ : ByteArray)]) ?_ 3 _ rfl; (with_reducible repeat (first | refine blk_drewN ?_ _ | refine blk_drew ?_ | refine blk_alloc ?_ _)); refine blk_put (cs := #[.int .i64 t345, .int .i64 t346, .int .i64 0, .int .i64 0, .int .i64 0, .int .i64 0, .string (⟨#[]⟩ : ByteArray)]) ?_ 2 _ rfl; (with_reducible repeat (first | refine blk_drewN ?_ _ | refine blk_drew ?_ | refine blk_alloc ?_ _)); refine blk_put (cs := #[.int .i64 t345, .int .i64 0, .int .i64 0, .int .i64 0, .int .i64 0, .int .i64 0, .string (⟨#[]⟩ : ByteArray)]) ?_ 1 _ rfl; (with_reducible repeat (first | refine blk_drewN ?_ _ | refine blk_drew ?_ | refine blk_alloc ?_ _)); refine blk_put (cs := #[.int .i64 0, .int .i64 0, .int .i64 0, .int .i64 0, .int .i64 0, .int .i64 0, .string (⟨#[]⟩ : ByteArray)]) ?_ 0 _ rfl; (with_reducible repeat (first | refine blk_drewN ?_ _ | refine blk_drew ?_ | refine blk_alloc ?_ _)); exact BK354.out) hb); have n2_ := Aside0.mk (below_step (by repeat (first | (with_reducible first | exact HB.out | apply below_alloc | apply pw_below_drewN | apply below_drew1 | refine below_set ?_ GE354.out) | exact HB.out)) hb); clear BK354; clear HB; have HO357 := n0_; have BK354 := n1_; have HB := n2_; clear n0_ n1_ n2_; (try clear hb); (try clear hb2); (try clear hk); (try clear hi); (try clear ho0); have hcz113_0 : w112.cell? ⟨gb354, 0, none⟩ = some (.int .i64 t345) := (blk_cell BK354.out 0).trans rfl; have hcz113_1 : w112.cell? ⟨gb354, 1, none⟩ = some (.int .i64 t346) := (blk_cell BK354.out 1).trans rfl; have hcz113_2 : w112.cell? ⟨gb354, 2, none⟩ = some (.int .i64 t347) := (blk_cell BK354.out 2).trans rfl; have hcz113_3 : w112.cell? ⟨gb354, 3, none⟩ = some (.int .i64 t348) := (blk_cell BK354.out 3).trans rfl; have hcz113_4 : w112.cell? ⟨gb354, 4, none⟩ = some (.int .i64 t349) := (blk_cell BK354.out 4).trans rfl; have hcz113_5 : w112.cell? ⟨gb354, 5, none⟩ = some (.int .i64 t350) := (blk_cell BK354.out 5).trans rfl; have hcz113_6 : w112.cell? ⟨gb354, 6, none⟩ = some (.string t351) := (blk_cell BK354.out 6).trans rfl; have hfz113_0 := blk_frozen BK354.out 0; have hfz113_1 := blk_frozen BK354.out 1; have hfz113_2 := blk_frozen BK354.out 2; have hfz113_3 := blk_frozen BK354.out 3; have hfz113_4 := blk_frozen BK354.out 4; have hfz113_5 := blk_frozen BK354.out 5; have hfz113_6 := blk_frozen BK354.out 6) | (go_at_call 31; (with_reducible refine (spec_SegCut.calls k t345 t346 t347 t348 t349 t350 t351 t352 t353 t358 _ A5.out).mono ?_); rintro e w114 ⟨v359, rfl, ho0, hb⟩; replace ho0 := KdRc_of ho0; have n0_ := Aside0.mk (KdRc_elder' (by (with_reducible repeat (first | apply KdRc_alloc | apply KdRc_drewN | apply KdRc_drew)); exact HO357.out) (KdRc_base ho0) hb); have n1_ := Aside0.mk (KdRc_lower (KdRc_newB (KdRc_new' ho0 (KdRc_lt (by (with_reducible repeat (first | apply KdRc_alloc | apply KdRc_drewN | apply KdRc_drew)); exact HO357.out))) (g := gb354) (o := .cells #[.int .i64 t345, .int .i64 t346, .int .i64 t347, .int .i64 t348, .int .i64 t349, .int .i64 t350, .string t351] 31 (0, 0)) (by (with_reducible repeat (first | refine blk_drewN ?_ _ | refine blk_drew ?_ | refine blk_alloc ?_ _)); exact BK354.out)) (below_size (by repeat (first | (with_reducible first | exact HB.out | apply below_alloc | apply pw_below_drewN | apply below_drew1 | refine below_set ?_ GE354.out) | exact HB.out)))); have n2_ := Aside0.mk (blk_below (g := gb354) (o := .cells #[.int .i64 t345, .int .i64 t346, .int .i64 t347, .int .i64 t348, .int .i64 t349, .int .i64 t350, .string t351] 31 (0, 0)) (by (with_reducible repeat (first | refine blk_drewN ?_ _ | refine blk_drew ?_ | refine blk_alloc ?_ _)); exact BK354.out) hb); have n3_ := Aside0.mk (below_step (by repeat (first | (with_reducible first | exact HB.out | apply below_alloc | apply pw_below_drewN | apply below_drew1 | refine below_set ?_ GE354.out) | exact HB.out)) hb); clear HO357; clear BK354; clear HB; have HO357 := n0_; have HO360 := n1_; have BK354 := n2_; have HB := n3_; clear n0_ n1_ n2_ n3_; (try clear hb); (try clear hb2); (try clear hk); (try clear hi); (try clear ho0); obtain ⟨Ao115, co115, eo115⟩ := KdRc_slice HO357.out; subst eo115; obtain ⟨Ao116, co116, eo116⟩ := KdRc_slice HO360.out; subst eo116) | (go_at_call 35; (with_reducible refine (laws_haSegs.calls k _ _ t355 _ _ t358 false _ ?side1 ?side2 ?side3 ?side4 A6.out).mono ?_); (case side1 => repeat (first | exact (KdRc_reads' HO357.out).2.2 | (with_reducible refine Kd.C_alloc ?_ _) | (with_reducible refine Kd.C_drewN ?_ _) | (with_reducible refine Kd.C_drew ?_))); (case side2 => exact (KdRc_reads' HO357.out).2.1); (case side3 => repeat (first | exact (KdRc_reads' HO360.out).2.2 | (with_reducible refine Kd.C_alloc ?_ _) | (with_reducible refine Kd.C_drewN ?_ _) | (with_reducible refine Kd.C_drew ?_))); (case side4 => exact (KdRc_reads' HO360.out).2.1); rintro e w' ⟨rfl, ⟨nd, rfl⟩⟩; (try first | exact ⟨rfl, _, World.drewN_drewN _ _ _⟩ | exact ⟨rfl, _, Eq.trans (World.drewN_drewN _ _ _) (congrArg (World.drewN _) (Nat.add_assoc _ _ _))⟩))))
   go_ret
   exact ⟨by first | rfl | (simp [errW_none, errW_some] <;> rfl) | (simp [*, errW_none, errW_some] <;> rfl), by repeat (first | (with_reducible first | exact HB.out | apply below_alloc | apply pw_below_drewN | apply below_drew1 | refine below_set ?_ GE354.out) | exact HB.out)⟩

/-- THE ONE PURE STATEMENT of laws_FnSegCut: yours. -/
def laws_FnSegCut.Pure : Prop := ∀ (l0 : List Int), l0.length ≤ maxLen → l0.length * 1 ≤ 140737488351232 → (∀ x ∈ l0, (Lit.int .u8 x).wf = true) → ∃ k, laws_FnSegCut.f k l0 = some true
theorem laws_FnSegCut.walk (P : laws_FnSegCut.Pure) (a0 : Option Addr) (len0 cap0 : Nat) (z0 : List Int) (w : World) (w0 : (a0 = none ∧ len0 = 0 ∧ cap0 = 0 ∧ z0 = []) ∨ ∃ x, a0 = some x ∧ len0 ≤ cap0 ∧ cap0 ≤ maxLen ∧ z0.length = cap0 ∧ (∀ i, i < z0.length → w.cell? (x.add i) = some (.int .u8 (z0.getD i 0))) ∧ ∀ n ∈ z0, (Lit.int .u8 n).wf = true) (y0 : len0 * 1 ≤ 140737488351232) :
  Calls Try.prog 9 #[.slice a0 len0 cap0] w fun e w' => e = .returned (.bool true) ∧ Below w.heap.size w w' := by
 obtain ⟨l0, rfl, hr0, hm0, hw0, hc0⟩ := ReadsInt.ofRowC w0
 obtain ⟨k, h⟩ := P l0 hm0 y0 hw0
 refine (laws_FnSegCut.calls k _ _ l0 true rfl w (Kd.C_of_reads (d := (0 : Int)) (h1 := fun _ => rfl) hr0) hc0 h).mono ?_
 rintro e w' ⟨rfl, hd⟩
 exact ⟨rfl, hd⟩

end Go.Proofs.Ytdfoelhpeeanlaa.QFnSegCut
