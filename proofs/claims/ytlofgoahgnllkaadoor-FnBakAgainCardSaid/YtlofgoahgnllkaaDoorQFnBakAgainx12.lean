-- Laid by a program of this repo (wip/tools/sprint.py): print.py's functions and walks; the contracts named 'BY HAND' are proved by hand.
import Derived.Test.YtlofgoahgnllkaaDoorQFnBakAgainx0
import Derived.Test.YtlofgoahgnllkaaDoorQFnBakAgainx9
import Derived.Test.YtlofgoahgnllkaaDoorQFnBakAgainx11
namespace Go.Proofs.YtlofgoahgnllkaaDoor.QFnBakAgain
open Go.RowKit Go.Proofs.YtlofgoahgnllkaaDoorW.PrintWords Go.Proofs.YtlofgoahgnllkaaDoorW.PrintLast Go.Proofs.YtlofgoahgnllkaaDoorW.PrintMore
attribute [local go_sem] max2_int min2_int max_two min_two max_three min_three max_four min_four   -- for this text's walks alone
set_option linter.unusedVariables false
set_option linter.unusedSimpArgs false

/-! ### spec_l20Table: function 55 -/
mutual
def spec_l20Table.l0 : Nat → Int → Int → List Int → Int → List (S43) → Option ((List (S43)) × Int)
 | 0, _, _, _, _, _ => none
 | k + 1, x1, x6, x1000, x1001, x304000 => if x6 > 0 then ((spec_l20In.f k x1000 x1001).bind fun bt306 => ((spec_MapPut.f k x304000 bt306.1 bt306.2.1).bind fun bt309 => (spec_l20Table.l0 k x1 (wrap64 (x6 - 1)) x1000 bt306.2.2 bt309.1))) else ((spec_l20Rd_odd.f k x1000 x1001 x1).bind fun bt314 => (if bt314.1 = true then ((spec_l20Rd_pick.f k x1000 bt314.2 3).bind fun bt316 => (if bt316.1 = 0 then ((spec_l20Out.f k x1000 bt316.2).bind fun bt318 => (if x304000.length < 8796093022208 then (some ((x304000 ++ [(⟨bt318.1, bt318.2.1⟩ : S43)]), bt318.2.2)) else (none))) else (if bt316.1 = 1 then (if x304000.length < 8796093022208 then ((some (x304000 ++ [(⟨9, 9⟩ : S43)] : List (S43))).bind fun y324 => (if y324.length < 8796093022208 then (some ((y324 ++ [(⟨9, 9⟩ : S43)]), bt316.2)) else (none))) else (none)) else (spec_l20Table.l1 k x1000 bt316.2 x304000)))) else (some (x304000, bt314.2))))
def spec_l20Table.l1 : Nat → List Int → Int → List (S43) → Option ((List (S43)) × Int)
 | 0, _, _, _ => none
 | k + 1, x1000, x1001, x304000 => if (x304000.length : Int) ≤ 6 then (if x304000.length < 8796093022208 then (spec_l20Table.l1 k x1000 x1001 (x304000 ++ [(⟨8, wrap64 (1 + (x304000.length : Int))⟩ : S43)])) else (none)) else (some (x304000, x1001))
end
def spec_l20Table.f (k : Nat) (s0_0 : List Int) (s0_1 : Int) (a1 : Int) : Option ((List (S43)) × Int) := (spec_l20Rd_pick.f k s0_0 s0_1 8).bind fun bt304 => (spec_l20Table.l0 k a1 bt304.1 s0_0 bt304.2 ([] : List (S43)))
theorem spec_l20Table.mono_l : ∀ k, (∀ y0 y1 y2 y3 y4, LeO (spec_l20Table.l0 k y0 y1 y2 y3 y4) (spec_l20Table.l0 (k + 1) y0 y1 y2 y3 y4)) ∧ (∀ y0 y1 y2, LeO (spec_l20Table.l1 k y0 y1 y2) (spec_l20Table.l1 (k + 1) y0 y1 y2))
 | 0 => ⟨fun _ _ _ _ _ r h => by simp [spec_l20Table.l0] at h, fun _ _ _ r h => by simp [spec_l20Table.l1] at h⟩
 | k + 1 => by
  obtain ⟨ih0, ih1⟩ := spec_l20Table.mono_l k
  refine ⟨?_, ?_⟩
  ·intro y0 y1 y2 y3 y4
   unfold spec_l20Table.l0
   repeat' first
   | (with_reducible exact ih0 _ _ _ _ _)
   | (with_reducible exact ih1 _ _ _)
   | (with_reducible exact spec_MapPut.mono _ _ _ _)
   | (with_reducible exact spec_l20In.mono _ _ _)
   | (with_reducible exact spec_l20Out.mono _ _ _)
   | (with_reducible exact spec_l20Rd_odd.mono _ _ _ _)
   | (with_reducible exact spec_l20Rd_pick.mono _ _ _ _)
   | (with_reducible exact LeO.refl _)
   | (with_reducible exact LeO.none _)
   | (with_reducible refine LeO.ite ?_ ?_)
   | (with_reducible refine LeO.bind ?_ (fun _ => ?_))
   | exact ih0 _ _ _ _ _
   | exact ih1 _ _ _
   | exact spec_MapPut.mono _ _ _ _
   | exact spec_l20In.mono _ _ _
   | exact spec_l20Out.mono _ _ _
   | exact spec_l20Rd_odd.mono _ _ _ _
   | exact spec_l20Rd_pick.mono _ _ _ _
   | exact LeO.none _
   | refine LeO.ite ?_ ?_
   | refine LeO.bind ?_ (fun _ => ?_)
  ·intro y0 y1 y2
   unfold spec_l20Table.l1
   repeat' first
   | (with_reducible exact ih0 _ _ _ _ _)
   | (with_reducible exact ih1 _ _ _)
   | (with_reducible exact spec_MapPut.mono _ _ _ _)
   | (with_reducible exact spec_l20In.mono _ _ _)
   | (with_reducible exact spec_l20Out.mono _ _ _)
   | (with_reducible exact spec_l20Rd_odd.mono _ _ _ _)
   | (with_reducible exact spec_l20Rd_pick.mono _ _ _ _)
   | (with_reducible exact LeO.refl _)
   | (with_reducible exact LeO.none _)
   | (with_reducible refine LeO.ite ?_ ?_)
   | (with_reducible refine LeO.bind ?_ (fun _ => ?_))
   | exact ih0 _ _ _ _ _
   | exact ih1 _ _ _
   | exact spec_MapPut.mono _ _ _ _
   | exact spec_l20In.mono _ _ _
   | exact spec_l20Out.mono _ _ _
   | exact spec_l20Rd_odd.mono _ _ _ _
   | exact spec_l20Rd_pick.mono _ _ _ _
   | exact LeO.none _
   | refine LeO.ite ?_ ?_
   | refine LeO.bind ?_ (fun _ => ?_)
theorem spec_l20Table.mono : ∀ a0 a1 a2 k, LeO (spec_l20Table.f k a0 a1 a2) (spec_l20Table.f (k + 1) a0 a1 a2) := by
 intro a0 a1 a2 k
 obtain ⟨ih0, ih1⟩ := spec_l20Table.mono_l k
 unfold spec_l20Table.f
 repeat' first
   | (with_reducible exact ih0 _ _ _ _ _)
   | (with_reducible exact ih1 _ _ _)
   | (with_reducible exact spec_MapPut.mono _ _ _ _)
   | (with_reducible exact spec_l20In.mono _ _ _)
   | (with_reducible exact spec_l20Out.mono _ _ _)
   | (with_reducible exact spec_l20Rd_odd.mono _ _ _ _)
   | (with_reducible exact spec_l20Rd_pick.mono _ _ _ _)
   | (with_reducible exact LeO.refl _)
   | (with_reducible exact LeO.none _)
   | (with_reducible refine LeO.ite ?_ ?_)
   | (with_reducible refine LeO.bind ?_ (fun _ => ?_))
   | exact ih0 _ _ _ _ _
   | exact ih1 _ _ _
   | exact spec_MapPut.mono _ _ _ _
   | exact spec_l20In.mono _ _ _
   | exact spec_l20Out.mono _ _ _
   | exact spec_l20Rd_odd.mono _ _ _ _
   | exact spec_l20Rd_pick.mono _ _ _ _
   | exact LeO.none _
   | refine LeO.ite ?_ ?_
   | refine LeO.bind ?_ (fun _ => ?_)
def spec_l20Table.T5 : Bool × List (List Nat × List Nat) := (true, [([], []), ([], []), ([1], [1]), ([0, 2, 2], [0, 2]), ([3], [3]), ([4], [4]), ([4], [4]), ([], []), ([7, 5, 3, 0, 1, 2, 3, 4, 5, 7], [5, 7]), ([6, 8, 0, 1, 2, 3, 4, 5, 6, 7, 8], [6])])
def spec_l20Table.B5 : List Nat := [0, 0, 2, 7, 15, 31, 31, 0, 191, 511]
theorem spec_l20Table.tab5 : rtab .any (opsOf Tryd.f55 5) = spec_l20Table.T5 := by kernel_rfl
theorem spec_l20Table.bits5 : waitsOk spec_l20Table.T5.2 spec_l20Table.B5 = true := by kernel_rfl
def spec_l20Table.T12 : Bool × List (List Nat × List Nat) := (true, [([], []), ([0], [0]), ([], []), ([2], [2]), ([3], [3]), ([1, 4, 3], [1, 4]), ([0, 1, 2, 3, 4, 5], []), ([6, 5, 5, 0, 1, 2, 3, 4, 5], [5, 6])])
def spec_l20Table.B12 : List Nat := [0, 1, 0, 4, 12, 31, 63, 127]
theorem spec_l20Table.tab12 : rtab .any (opsOf Tryd.f55 12) = spec_l20Table.T12 := by kernel_rfl
theorem spec_l20Table.bits12 : waitsOk spec_l20Table.T12.2 spec_l20Table.B12 = true := by kernel_rfl
set_option maxHeartbeats 8000000 in
set_option maxRecDepth 100000 in
theorem spec_l20Table.calls (k : Nat) (g : Nat) (s0_0 : List Int) (s0_1 : Int) (a1 : Int) (r1 : List (S43)) (r2 : Int) (w0 w : World) (hI : IsS85 w0 w g s0_0 s0_1) (hB : Below w0.heap.size w0 w) (h : spec_l20Table.f k s0_0 s0_1 a1 = some (r1, r2)) :
  Calls Tryd.prog 55 #[.pointer (some ⟨g, 0, none⟩), .int .i64 a1] w fun e w' => ∃ v0_ : Value, e = .returned (.agg #[v0_]) ∧ Kd.R k43 43 w' w.heap.size (fun _ => True) v0_ r1 ∧ IsS85 w0 w' g s0_0 r2 ∧ Below w0.heap.size w0 w' ∧ KeepBut w w' g none := by
 have hu29 := Tryd.underlying29
 have hu43 := Tryd.underlying43
 have HI0 := Aside0.mk hI
 have HK := Aside0.mk (KeepBut.refl w g none)
 have HL := Aside0.mk hB.size
 clear hI
 have HW0 := Aside0.mk hB.size
 have HB := Aside0.mk hB
 clear hB
 have H : ((spec_l20Rd_pick.f k s0_0 s0_1 8).bind fun bt304 => (spec_l20Table.l0 k a1 bt304.1 s0_0 bt304.2 ([] : List (S43)))) = some (r1, r2) := h
 clear h
 replace H := Option.bind_eq_some_iff.mp H
 obtain ⟨⟨t304, t305⟩, A30, H⟩ := H
 replace H : (spec_l20Table.l0 k a1 t304 s0_0 t305 ([] : List (S43))) = some (r1, r2) := H
 have A3 := Aside0.mk A30
 clear A30
 have H' := Aside0.mk H
 clear H
 go_enter Tryd.func55, Tryd.ntmps55
 go_wp2_with (first | ((with_reducible refine gate_dst (N := 4) rfl ?_); refine box_event ?hg (N := 4) ?hd (cs := #[.slice none 0 0]) (t := 29) ?hr ?_; (case hd => rfl); (case hg => rfl); (case hr => first | (go_simp; done) | (go_simp; rfl)); intro gb302 hg w4 hbox hb; have n0_ := Aside0.mk (IsS85.below Z59 hb); have n1_ := Aside0.mk (KeepBut.trans Z57 (KeepBut.of_below hb g none) (.inl rfl)); have n2_ := Aside0.mk (below_step Z87 hb); have n3_ := Aside0.mk (hbox); have n4_ := Aside0.mk ((Z165 : w.heap.size ≤ gb302)); have n5_ := Aside0.mk ((Nat.le_trans HW0.out (Z165 : w.heap.size ≤ gb302) : w0.heap.size ≤ gb302)); have n6_ := Aside0.mk ((Z123 : g ≠ gb302)); have n7_ := Aside0.mk ((Z124 : gb302 ≠ g)); clear HI0; clear HK; clear HB; have HI0 := n0_; have HK := n1_; have HB := n2_; have BK302 := n3_; have GW302 := n4_; have GE302 := n5_; have NB0_302 := n6_; have NB302_0 := n7_; clear n0_ n1_ n2_ n3_ n4_ n5_ n6_ n7_; clear hb hbox hg) | ((with_reducible refine gate_dst (N := 5) rfl ?_); refine box_event ?hg (N := 5) ?hd (cs := #[.slice none 0 0]) (t := 29) ?hr ?_; (case hd => rfl); (case hg => rfl); (case hr => first | (go_simp; done) | (go_simp; rfl)); intro gb303 hg w5 hbox hb; have n0_ := Aside0.mk (IsS85.below (by repeat (first | (with_reducible first | exact HI0.out | apply IsS85.alloc | apply IsS85.drewN | apply IsS85.drew | apply IsS85.set_1 | refine IsS85.far ?_ NB0_302.out _) | exact HI0.out)) hb); have n1_ := Aside0.mk (blk_below (g := gb302) (o := .cells #[.slice none 0 0] 29 (0, 0)) Z43 hb); have n2_ := Aside0.mk (KeepBut.trans Z98 (KeepBut.of_below hb g none) (.inl rfl)); have n3_ := Aside0.mk (below_step (by repeat (first | (with_reducible first | exact HB.out | apply below_alloc | apply pw_below_drewN | apply below_drew1 | refine below_set ?_ (IsS85.ge HI0.out) | refine below_set ?_ GE302.out) | exact HB.out)) hb); have n4_ := Aside0.mk (hbox); have n5_ := Aside0.mk ((by rw [hg]; exact (keep_size (w := w) (g := g) (row := none) Z98) : w.heap.size ≤ gb303)); have n6_ := Aside0.mk ((Nat.le_trans HW0.out (by rw [hg]; exact (keep_size (w := w) (g := g) (row := none) Z98) : w.heap.size ≤ gb303) : w0.heap.size ≤ gb303)); have n7_ := Aside0.mk ((Z167 : gb302 ≠ gb303)); have n8_ := Aside0.mk ((Z168 : gb303 ≠ gb302)); have n9_ := Aside0.mk ((by rw [hg]; exact Nat.ne_of_lt (IsS85.lt (show IsS85 w0 _ g s0_0 s0_1 from by repeat (first | (with_reducible first | exact HI0.out | apply IsS85.alloc | apply IsS85.drewN | apply IsS85.drew | apply IsS85.set_1 | refine IsS85.far ?_ NB0_302.out _) | exact HI0.out))) : g ≠ gb303)); have n10_ := Aside0.mk ((by rw [hg]; exact Nat.ne_of_gt (IsS85.lt (show IsS85 w0 _ g s0_0 s0_1 from by repeat (first | (with_reducible first | exact HI0.out | apply IsS85.alloc | apply IsS85.drewN | apply IsS85.drew | apply IsS85.set_1 | refine IsS85.far ?_ NB0_302.out _) | exact HI0.out))) : gb303 ≠ g)); clear HI0; clear BK302; clear HK; clear HB; have HI0 := n0_; have BK302 := n1_; have HK := n2_; have HB := n3_; have BK303 := n4_; have GW303 := n5_; have GE303 := n6_; have NB302_303 := n7_; have NB303_302 := n8_; have NB0_303 := n9_; have NB303_0 := n10_; clear n0_ n1_ n2_ n3_ n4_ n5_ n6_ n7_ n8_ n9_ n10_; clear hb hbox hg; have hnb6 := NB303_302.out; have hnc6 := NB302_303.out; have hnb7 := NB303_0.out; have hnc7 := NB0_303.out; have hcz8_0 : w5.cell? ⟨gb303, 0, none⟩ = some (.slice none 0 0) := (blk_cell BK303.out 0).trans rfl; have hfz8_0 := blk_frozen BK303.out 0) | ((with_reducible refine gate_callee (f := 56) rfl ?_); refine goesL_ (some 11) rfl rfl Tryd.func56 (by kernel_rfl) rfl #[.pointer (some ⟨g, 0, none⟩), .int .i64 8] rfl Z56 ?_; (with_reducible refine (spec_l20Rd_pick.calls k g s0_0 s0_1 8 t304 t305 w0 _ ?side1 ?side2 A3.out).mono ?_); (case side1 => exact Z119); (case side2 => exact Z127); rintro e w9 ⟨rfl, hi, hb, hk⟩; refine ⟨_, rfl, ?_⟩; have n0_ := Aside0.mk (KeepBut.blk hk (g' := gb302) (o := .cells #[.slice none 0 0] 29 (0, 0)) (by (with_reducible repeat (first | refine blk_drewN ?_ _ | refine blk_drew ?_ | refine blk_alloc ?_ _)); refine blk_far ?_ NB302_303.out _; (with_reducible repeat (first | refine blk_drewN ?_ _ | refine blk_drew ?_ | refine blk_alloc ?_ _)); exact BK302.out) NB302_0.out (by simp)); have n1_ := Aside0.mk (KeepBut.blk hk (g' := gb303) (o := .cells #[.slice none 0 0] 29 (0, 0)) (by (with_reducible repeat (first | refine blk_drewN ?_ _ | refine blk_drew ?_ | refine blk_alloc ?_ _)); refine blk_put (cs := #[.slice none 0 0]) ?_ 0 _ rfl; (with_reducible repeat (first | refine blk_drewN ?_ _ | refine blk_drew ?_ | refine blk_alloc ?_ _)); exact BK303.out) NB303_0.out (by simp)); have n2_ := Aside0.mk (KeepBut.trans Z117 hk (.inl rfl)); have n3_ := Aside0.mk (hb); have n4_ := Aside0.mk (hi); clear BK302; clear BK303; clear HK; clear HB; clear HI0; have BK302 := n0_; have BK303 := n1_; have HK := n2_; have HB := n3_; have HI0 := n4_; clear n0_ n1_ n2_ n3_ n4_; (try clear hb); (try clear hk); (try clear hi)))
 go_loopg [6] k (fun kq v6 w' => ∃ (x6_1 : Int) (x1001_1 : Int) (x304000_1 : List (S43)) (u304000 : Value), v6 = .int .i64 x6_1 ∧ Aside0 (spec_l20Table.l0 kq a1 x6_1 s0_0 x1001_1 x304000_1 = some (r1, r2)) ∧ Aside0 (kq ≤ k) ∧ Aside0 (Kd.R k43 43 w' w.heap.size (fun _ => True) u304000 x304000_1) ∧ Aside0 (w'.heap[gb302]? = some (.cells #[(.slice none 0 0)] 29 (0, 0))) ∧ Aside0 (w'.heap[gb303]? = some (.cells #[u304000] 29 (0, 0))) ∧ Aside0 (IsS85 w0 w' g s0_0 x1001_1) ∧ Aside0 (KeepBut w w' g none) ∧ Aside0 (Below w0.heap.size w0 w'))
 case atStart => exact ⟨(t304), (t305), (([] : List (S43))), (.slice none 0 0), Z0, H', ⟨Nat.le_refl _⟩, ⟨by first | exact Kd.R_nil _ _ _ _ _ | exact Kd.N_nil _ _ _ _ _ | exact Kd.V_nil _ _ _ _ _ | exact Kd.Q_nil _ _ _ _ _ | exact Kd.S_nil _ _ _ _ _⟩, ⟨by (with_reducible repeat (first | refine blk_drewN ?_ _ | refine blk_drew ?_ | refine blk_alloc ?_ _)); exact BK302.out⟩, ⟨by (with_reducible repeat (first | refine blk_drewN ?_ _ | refine blk_drew ?_ | refine blk_alloc ?_ _)); exact BK303.out⟩, ⟨by repeat (first | (with_reducible first | exact HI0.out | apply IsS85.alloc | apply IsS85.drewN | apply IsS85.drew | apply IsS85.set_1 | refine IsS85.far ?_ NB0_302.out _ | refine IsS85.far ?_ NB0_303.out _) | exact HI0.out)⟩, ⟨by repeat (first | (with_reducible first | exact HK.out | apply KeepBut.set_ | apply keep_drewN | apply keep_drew | apply keep_alloc | refine keep_far ?_ GW302.out _ | refine keep_far ?_ GW303.out _) | exact HK.out)⟩, ⟨by repeat (first | (with_reducible first | exact HB.out | apply below_alloc | apply pw_below_drewN | apply below_drew1 | refine below_set ?_ (IsS85.ge HI0.out) | refine below_set ?_ GE302.out | refine below_set ?_ GE303.out) | exact HB.out)⟩⟩
 case round =>
  clear H'
  try clear p2
  try clear c5
  try clear c6
  try clear c7
  try clear hcz8_0
  try clear hfz8_0
  obtain ⟨x6_1, x1001_1, x304000_1, u304000, rfl, HA, HK1, HO_304000, BK302, BK303, HI0, HK, HB⟩ := hrel
  cases gk with
  | zero => exact absurd HA.out (by simp [spec_l20Table.l0])
  | succ k1 =>
   have H := HA.out
   clear HA
   simp only [spec_l20Table.l0] at H
   by_cases c10 : x6_1 > 0
   ·rw [if_pos c10] at H
    have c10b0 : decide (0 < x6_1) = true := decide_eq_true c10
    clear c10
    replace H := Option.bind_eq_some_iff.mp H
    obtain ⟨⟨t306, t307, t308⟩, A110, H⟩ := H
    replace H : ((spec_MapPut.f k1 x304000_1 t306 t307).bind fun bt309 => (spec_l20Table.l0 k1 a1 (wrap64 (x6_1 - 1)) s0_0 t308 bt309.1)) = some (r1, r2) := H
    have A11 := Aside0.mk A110
    clear A110
    replace H := Option.bind_eq_some_iff.mp H
    obtain ⟨⟨t309, t312⟩, A120, H⟩ := H
    replace H : (spec_l20Table.l0 k1 a1 (wrap64 (x6_1 - 1)) s0_0 t308 t309) = some (r1, r2) := H
    have A12 := Aside0.mk A120
    clear A120
    have H' := Aside0.mk H
    clear H
    obtain ⟨Ao13, co13, eo13⟩ := Kd.R_slice HO_304000.out
    subst eo13
    try go_wp2
    have n0_ := Aside0.mk (Kd.R_drew HO_304000.out)
    have n1_ := Aside0.mk (blk_drew BK302.out)
    have n2_ := Aside0.mk (blk_drew BK303.out)
    have n3_ := Aside0.mk (IsS85.drew HI0.out)
    have n4_ := Aside0.mk (keep_drew HK.out)
    have n5_ := Aside0.mk (below_drew1 HB.out)
    clear HO_304000
    clear BK302
    clear BK303
    clear HI0
    clear HK
    clear HB
    have HO_304000 := n0_
    have BK302 := n1_
    have BK303 := n2_
    have HI0 := n3_
    have HK := n4_
    have HB := n5_
    clear n0_ n1_ n2_ n3_ n4_ n5_
    refine start_ (n := 10) (S := fun w' => w'.cell? ⟨gb303, 0, none⟩ = some (.slice Ao13 x304000_1.length co13)) (ds := []) #[false, false, false, false, false, false, false, false, false, false] (by kernel_rfl) rfl rfl ((blk_cell BK303.out 0).trans rfl) (fun hHeld => ?_); refine with_tabW spec_l20Table.tab5 spec_l20Table.bits5 (fun HT_ HW_ => ?_)
    generalize wr.drew = w14 at HO_304000 BK302 BK303 HI0 HK HB hHeld ⊢
    refine pure_ (i := 1) (N := some 18) (v := ?_) (a' := ?_) #[false, true, false, false, false, false, false, false, false, false] rfl rfl (any_of HT_.out (by kernel_rfl)) (fun _ _ _ h => h) (Or.inl ⟨by rfl, ?_⟩) ?_ ?_
    rotate_left
    ·intro w'
     go_simp
     with_reducible rfl
    rotate_left
    ·simp only [Act.put, List.setIfInBounds_toArray, List.set_cons_zero, List.set_cons_succ, i64_w, i32_w]
     rfl
    refine take_ (i := 0) (N := some 17) (v := ?_) (a' := ?_) #[true, true, false, false, false, false, false, false, false, false] rfl rfl (take_ofW HT_.out HW_.out (by kernel_rfl)) (fun _ _ _ h => h) (Or.inl ⟨by rfl, ?_⟩) hHeld ?_ ?_
    rotate_left
    ·intro w' s0
     go_simp
     with_reducible rfl
    rotate_left
    ·simp only [Act.put, List.setIfInBounds_toArray, List.set_cons_zero, List.set_cons_succ, i64_w, i32_w]
     rfl
    refine join_ (σ := Value × Nat) 2 #[true, true, true, true, true, true, true, true, false, false] (fun s_ => [(19, .agg #[.int .i64 t306, .int .i64 t307]), (20, .tuple #[.agg #[s_.1], .int .i64 t312]), (7, .pointer (some ⟨s_.2, 0, none⟩)), (16, .tuple #[.agg #[s_.1], .int .i64 t312]), (21, .agg #[s_.1]), (22, .int .i64 t312)]) (fun s_ w' => (w'.cell? ⟨gb303, 0, none⟩ = some (.slice Ao13 x304000_1.length co13)) ∧ (Kd.R k43 43 w' w.heap.size (fun k_ => some k_ ≠ (.slice Ao13 x304000_1.length co13 : Value).ownBlock) s_.1 t309) ∧ (Kd.R k43 43 w' w.heap.size (fun k_ => some k_ ≠ (s_.1 : Value).ownBlock) (.slice Ao13 x304000_1.length co13) x304000_1) ∧ (w'.heap[gb302]? = some (.cells #[.slice none 0 0] 29 (0, 0))) ∧ (w'.heap[gb303]? = some (.cells #[.slice Ao13 x304000_1.length co13] 29 (0, 0))) ∧ (w'.heap[s_.2]? = some (.cells #[.slice none 0 0] 29 (0, 0))) ∧ (w.heap.size ≤ s_.2) ∧ (w0.heap.size ≤ s_.2) ∧ (g ≠ s_.2) ∧ (s_.2 ≠ g) ∧ (gb302 ≠ s_.2) ∧ (s_.2 ≠ gb302) ∧ (gb303 ≠ s_.2) ∧ (s_.2 ≠ gb303) ∧ (IsS85 w0 w' g s0_0 t308) ∧ (KeepBut w w' g none) ∧ (Below w0.heap.size w0 w')) ?_ ?_
    rotate_left
    ·intro hCont
     refine two_ (i := 2) (j := 7) (Ni := some 19) (Nj := some 7) #[true, true, true, false, false, false, false, false, false, false] #[true, true, false, false, false, false, false, true, false, false] rfl rfl rfl rfl (two_of HT_.out (by kernel_rfl)) (by decide) (by decide) (fun K hK => ?_) (fun K hK => ?_)
     ·skip
      refine goes_ Tryd.func78 (by kernel_rfl) rfl #[.pointer (some ⟨g, 0, none⟩)] (by rfl) rfl rfl Z56 ?_
      with_reducible refine (spec_l20In.calls k1 g s0_0 x1001_1 t306 t307 t308 w0 _ ?side1 ?side2 A11.out).mono ?_
      (case side1 => exact Z119)
      (case side2 => exact Z127)
      rintro e w15 ⟨rfl, hi, hb, hk⟩
      refine ⟨_, rfl, ?_⟩
      have n0_ := Aside0.mk (Kd.R_mono (Kd.R_keep (IsS85.apart (show IsS85 w0 _ g s0_0 x1001_1 from by repeat (first | (with_reducible first | exact HI0.out | apply IsS85.alloc | apply IsS85.drewN | apply IsS85.drew | apply IsS85.set_1 | refine IsS85.far ?_ NB0_302.out _ | refine IsS85.far ?_ NB0_303.out _) | exact HI0.out)) Z13 (by decide)) hk (fun _ h => h.2)) (fun _ h => h.1))
      have n1_ := Aside0.mk (KeepBut.blk hk (g' := gb302) (o := .cells #[.slice none 0 0] 29 (0, 0)) Z43 NB302_0.out (by simp))
      have n2_ := Aside0.mk (KeepBut.blk hk (g' := gb303) (o := .cells #[.slice Ao13 x304000_1.length co13] 29 (0, 0)) Z44 NB303_0.out (by simp))
      have n3_ := Aside0.mk (KeepBut.trans Z117 hk (.inl rfl))
      have n4_ := Aside0.mk (hb)
      have n5_ := Aside0.mk (hi)
      clear HO_304000
      clear BK302
      clear BK303
      clear HK
      clear HB
      clear HI0
      have HO_304000 := n0_
      have BK302 := n1_
      have BK303 := n2_
      have HK := n3_
      have HB := n4_
      have HI0 := n5_
      clear n0_ n1_ n2_ n3_ n4_ n5_
      (try clear hb)
      (try clear hb2)
      (try clear hk)
      (try clear hi)
      refine hK.out _ _ ((blk_cell BK303.out 0).trans rfl) (fun hHeld => ?_)
      clear hK K
      refine norm_ (a' := ?_) ?_ ?_
      rotate_left
      ·show Act.put _ (some 19) _ = _
       simp only [Act.put, List.setIfInBounds_toArray, List.set_cons_zero, List.set_cons_succ, i64_w, i32_w]
       rfl
      refine two_ (i := 3) (j := 7) (Ni := some 20) (Nj := some 7) #[true, true, true, true, false, false, false, false, false, false] #[true, true, true, false, false, false, false, true, false, false] rfl rfl rfl rfl (two_of HT_.out (by kernel_rfl)) (by decide) (by decide) (fun K hK => ?_) (fun K hK => ?_)
      ·skip
       refine goes_ Tryd.func77 (by kernel_rfl) rfl #[.agg #[.slice Ao13 x304000_1.length co13], .agg #[.int .i64 t306, .int .i64 t307]] (by rfl) rfl rfl Z56 ?_
       with_reducible refine (spec_MapPut.calls k1 _ _ x304000_1 t306 t307 t309 t312 _ ?side1 ?side2 A12.out).mono ?_
       (case side1 => exact Z93)
       (case side2 => exact (Kd.R_reads' HO_304000.out).2.1)
       rintro e w16 ⟨v310, rfl, ho0, hb⟩
       refine ⟨_, rfl, ?_⟩
       have n0_ := Aside0.mk (Kd.R_elder' Z13 (Kd.R_base ho0) hb)
       have n1_ := Aside0.mk (Kd.R_lower (Kd.R_new' ho0 (Kd.R_lt Z13)) (keep_size (w := w) (g := g) (row := none) Z117))
       have n2_ := Aside0.mk (blk_below (g := gb302) (o := .cells #[.slice none 0 0] 29 (0, 0)) Z43 hb)
       have n3_ := Aside0.mk (blk_below (g := gb303) (o := .cells #[.slice Ao13 x304000_1.length co13] 29 (0, 0)) Z44 hb)
       have n4_ := Aside0.mk (IsS85.below Z120 hb)
       have n5_ := Aside0.mk (KeepBut.trans Z117 (KeepBut.of_below hb g none) (.inl rfl))
       have n6_ := Aside0.mk (below_step Z128 hb)
       clear HO_304000
       clear BK302
       clear BK303
       clear HI0
       clear HK
       clear HB
       have HO_304000 := n0_
       have HO311 := n1_
       have BK302 := n2_
       have BK303 := n3_
       have HI0 := n4_
       have HK := n5_
       have HB := n6_
       clear n0_ n1_ n2_ n3_ n4_ n5_ n6_
       (try clear hb)
       (try clear hb2)
       (try clear hk)
       (try clear hi)
       (try clear ho0)
       refine hK.out _ _ ((blk_cell BK303.out 0).trans rfl) (fun hHeld => ?_)
       clear hK K
       refine norm_ (a' := ?_) ?_ ?_
       rotate_left
       ·show Act.put _ (some 20) _ = _
        simp only [Act.put, List.setIfInBounds_toArray, List.set_cons_zero, List.set_cons_succ, i64_w, i32_w]
        rfl
       refine pure_ (i := 4) (N := some 16) (v := ?_) (a' := ?_) #[true, true, true, true, true, false, false, false, false, false] rfl rfl (any_of HT_.out (by kernel_rfl)) (fun _ _ _ h => h) (Or.inl ⟨by rfl, ?_⟩) ?_ ?_
       rotate_left
       ·intro w'
        go_simp
        with_reducible rfl
       rotate_left
       ·simp only [Act.put, List.setIfInBounds_toArray, List.set_cons_zero, List.set_cons_succ, i64_w, i32_w]
        rfl
       refine pure_ (i := 5) (N := some 21) (v := ?_) (a' := ?_) #[true, true, true, true, true, true, false, false, false, false] rfl rfl (any_of HT_.out (by kernel_rfl)) (fun _ _ _ h => h) (Or.inl ⟨by rfl, ?_⟩) ?_ ?_
       rotate_left
       ·intro w'
        go_simp
        with_reducible rfl
       rotate_left
       ·simp only [Act.put, List.setIfInBounds_toArray, List.set_cons_zero, List.set_cons_succ, i64_w, i32_w]
        rfl
       refine pure_ (i := 6) (N := some 22) (v := ?_) (a' := ?_) #[true, true, true, true, true, true, true, false, false, false] rfl rfl (any_of HT_.out (by kernel_rfl)) (fun _ _ _ h => h) (Or.inl ⟨by rfl, ?_⟩) ?_ ?_
       rotate_left
       ·intro w'
        go_simp
        with_reducible rfl
       rotate_left
       ·simp only [Act.put, List.setIfInBounds_toArray, List.set_cons_zero, List.set_cons_succ, i64_w, i32_w]
        rfl
       refine one_ (i := 7) (N := some 7) #[true, true, true, true, true, true, true, true, false, false] rfl rfl (one_of HT_.out (by kernel_rfl)) (by decide) (fun K hK => ?_)
       refine box_step ?hg (N := 7) ?hd (cs := #[.slice none 0 0]) (t := 29) ?hr ?_; (case hd => rfl); (case hg => rfl); (case hr => first | (go_simp; done) | (go_simp; rfl))
       intro gb313 hg w17 hbox hb
       have n0_ := Aside0.mk (Kd.R_below Z13 hb)
       have n1_ := Aside0.mk (Kd.R_below (by (with_reducible repeat (first | apply Kd.R_alloc | apply Kd.R_drewN | apply Kd.R_drew)); exact HO311.out) hb)
       have n2_ := Aside0.mk (blk_below (g := gb302) (o := .cells #[.slice none 0 0] 29 (0, 0)) Z43 hb)
       have n3_ := Aside0.mk (blk_below (g := gb303) (o := .cells #[.slice Ao13 x304000_1.length co13] 29 (0, 0)) Z44 hb)
       have n4_ := Aside0.mk (IsS85.below Z120 hb)
       have n5_ := Aside0.mk (KeepBut.trans Z117 (KeepBut.of_below hb g none) (.inl rfl))
       have n6_ := Aside0.mk (below_step Z128 hb)
       have n7_ := Aside0.mk (hbox)
       have n8_ := Aside0.mk ((Z166 : w.heap.size ≤ gb313))
       have n9_ := Aside0.mk ((Nat.le_trans HW0.out (Z166 : w.heap.size ≤ gb313) : w0.heap.size ≤ gb313))
       have n10_ := Aside0.mk ((Z167 : gb302 ≠ gb313))
       have n11_ := Aside0.mk ((Z168 : gb313 ≠ gb302))
       have n12_ := Aside0.mk ((Z191 : gb303 ≠ gb313))
       have n13_ := Aside0.mk ((Z192 : gb313 ≠ gb303))
       have n14_ := Aside0.mk ((Z152 : g ≠ gb313))
       have n15_ := Aside0.mk ((Z153 : gb313 ≠ g))
       clear HO_304000
       clear HO311
       clear BK302
       clear BK303
       clear HI0
       clear HK
       clear HB
       have HO_304000 := n0_
       have HO311 := n1_
       have BK302 := n2_
       have BK303 := n3_
       have HI0 := n4_
       have HK := n5_
       have HB := n6_
       have BK313 := n7_
       have GW313 := n8_
       have GE313 := n9_
       have NB302_313 := n10_
       have NB313_302 := n11_
       have NB303_313 := n12_
       have NB313_303 := n13_
       have NB0_313 := n14_
       have NB313_0 := n15_
       clear n0_ n1_ n2_ n3_ n4_ n5_ n6_ n7_ n8_ n9_ n10_ n11_ n12_ n13_ n14_ n15_
       clear hb hbox hg
       refine hK.out _ _ ((blk_cell BK303.out 0).trans rfl) (fun hHeld => ?_)
       clear hK K
       refine norm_ (a' := ?_) ?_ ?_
       rotate_left
       ·show Act.put _ (some 7) _ = _
        simp only [Act.put, List.setIfInBounds_toArray, List.set_cons_zero, List.set_cons_succ, i64_w, i32_w]
        rfl
       exact norm_ Z2 (hCont (v310, gb313) _ ⟨hHeld, Z53, Z55, Z43, Z44, Z45, GW313.out, GE313.out, NB0_313.out, NB313_0.out, NB302_313.out, NB313_302.out, NB303_313.out, NB313_303.out, Z140, Z131, Z141⟩)
      ·skip
       refine box_step ?hg (N := 7) ?hd (cs := #[.slice none 0 0]) (t := 29) ?hr ?_; (case hd => rfl); (case hg => rfl); (case hr => first | (go_simp; done) | (go_simp; rfl))
       intro gb313 hg w16 hbox hb
       have n0_ := Aside0.mk (Kd.R_below Z13 hb)
       have n1_ := Aside0.mk (blk_below (g := gb302) (o := .cells #[.slice none 0 0] 29 (0, 0)) Z43 hb)
       have n2_ := Aside0.mk (blk_below (g := gb303) (o := .cells #[.slice Ao13 x304000_1.length co13] 29 (0, 0)) Z44 hb)
       have n3_ := Aside0.mk (IsS85.below Z120 hb)
       have n4_ := Aside0.mk (KeepBut.trans Z117 (KeepBut.of_below hb g none) (.inl rfl))
       have n5_ := Aside0.mk (below_step Z128 hb)
       have n6_ := Aside0.mk (hbox)
       have n7_ := Aside0.mk ((Z166 : w.heap.size ≤ gb313))
       have n8_ := Aside0.mk ((Nat.le_trans HW0.out (Z166 : w.heap.size ≤ gb313) : w0.heap.size ≤ gb313))
       have n9_ := Aside0.mk ((Z167 : gb302 ≠ gb313))
       have n10_ := Aside0.mk ((Z168 : gb313 ≠ gb302))
       have n11_ := Aside0.mk ((Z191 : gb303 ≠ gb313))
       have n12_ := Aside0.mk ((Z192 : gb313 ≠ gb303))
       have n13_ := Aside0.mk ((Z152 : g ≠ gb313))
       have n14_ := Aside0.mk ((Z153 : gb313 ≠ g))
       clear HO_304000
       clear BK302
       clear BK303
       clear HI0
       clear HK
       clear HB
       have HO_304000 := n0_
       have BK302 := n1_
       have BK303 := n2_
       have HI0 := n3_
       have HK := n4_
       have HB := n5_
       have BK313 := n6_
       have GW313 := n7_
       have GE313 := n8_
       have NB302_313 := n9_
       have NB313_302 := n10_
       have NB303_313 := n11_
       have NB313_303 := n12_
       have NB0_313 := n13_
       have NB313_0 := n14_
       clear n0_ n1_ n2_ n3_ n4_ n5_ n6_ n7_ n8_ n9_ n10_ n11_ n12_ n13_ n14_
       clear hb hbox hg
       refine hK.out _ _ ((blk_cell BK303.out 0).trans rfl) (fun hHeld => ?_)
       clear hK K
       refine norm_ (a' := ?_) ?_ ?_
       rotate_left
       ·show Act.put _ (some 7) _ = _
        simp only [Act.put, List.setIfInBounds_toArray, List.set_cons_zero, List.set_cons_succ, i64_w, i32_w]
        rfl
       refine one_ (i := 3) (N := some 20) #[true, true, true, true, false, false, false, true, false, false] rfl rfl (one_of HT_.out (by kernel_rfl)) (by decide) (fun K hK => ?_)
       refine goes_ Tryd.func77 (by kernel_rfl) rfl #[.agg #[.slice Ao13 x304000_1.length co13], .agg #[.int .i64 t306, .int .i64 t307]] (by rfl) rfl rfl Z56 ?_
       with_reducible refine (spec_MapPut.calls k1 _ _ x304000_1 t306 t307 t309 t312 _ ?side1 ?side2 A12.out).mono ?_
       (case side1 => exact Z93)
       (case side2 => exact (Kd.R_reads' HO_304000.out).2.1)
       rintro e w17 ⟨v310, rfl, ho0, hb⟩
       refine ⟨_, rfl, ?_⟩
       have n0_ := Aside0.mk (Kd.R_elder' Z13 (Kd.R_base ho0) hb)
       have n1_ := Aside0.mk (Kd.R_lower (Kd.R_new' ho0 (Kd.R_lt Z13)) (keep_size (w := w) (g := g) (row := none) Z131))
       have n2_ := Aside0.mk (blk_below (g := gb302) (o := .cells #[.slice none 0 0] 29 (0, 0)) Z43 hb)
       have n3_ := Aside0.mk (blk_below (g := gb303) (o := .cells #[.slice Ao13 x304000_1.length co13] 29 (0, 0)) Z44 hb)
       have n4_ := Aside0.mk (IsS85.below Z140 hb)
       have n5_ := Aside0.mk (blk_below (g := gb313) (o := .cells #[.slice none 0 0] 29 (0, 0)) Z45 hb)
       have n6_ := Aside0.mk (KeepBut.trans Z131 (KeepBut.of_below hb g none) (.inl rfl))
       have n7_ := Aside0.mk (below_step Z141 hb)
       clear HO_304000
       clear BK302
       clear BK303
       clear HI0
       clear BK313
       clear HK
       clear HB
       have HO_304000 := n0_
       have HO311 := n1_
       have BK302 := n2_
       have BK303 := n3_
       have HI0 := n4_
       have BK313 := n5_
       have HK := n6_
       have HB := n7_
       clear n0_ n1_ n2_ n3_ n4_ n5_ n6_ n7_
       (try clear hb)
       (try clear hb2)
       (try clear hk)
       (try clear hi)
       (try clear ho0)
       refine hK.out _ _ ((blk_cell BK303.out 0).trans rfl) (fun hHeld => ?_)
       clear hK K
       refine norm_ (a' := ?_) ?_ ?_
       rotate_left
       ·show Act.put _ (some 20) _ = _
        simp only [Act.put, List.setIfInBounds_toArray, List.set_cons_zero, List.set_cons_succ, i64_w, i32_w]
        rfl
       refine pure_ (i := 4) (N := some 16) (v := ?_) (a' := ?_) #[true, true, true, true, true, false, false, true, false, false] rfl rfl (any_of HT_.out (by kernel_rfl)) (fun _ _ _ h => h) (Or.inl ⟨by rfl, ?_⟩) ?_ ?_
       rotate_left
       ·intro w'
        go_simp
        with_reducible rfl
       rotate_left
       ·simp only [Act.put, List.setIfInBounds_toArray, List.set_cons_zero, List.set_cons_succ, i64_w, i32_w]
        rfl
       refine pure_ (i := 5) (N := some 21) (v := ?_) (a' := ?_) #[true, true, true, true, true, true, false, true, false, false] rfl rfl (any_of HT_.out (by kernel_rfl)) (fun _ _ _ h => h) (Or.inl ⟨by rfl, ?_⟩) ?_ ?_
       rotate_left
       ·intro w'
        go_simp
        with_reducible rfl
       rotate_left
       ·simp only [Act.put, List.setIfInBounds_toArray, List.set_cons_zero, List.set_cons_succ, i64_w, i32_w]
        rfl
       refine pure_ (i := 6) (N := some 22) (v := ?_) (a' := ?_) #[true, true, true, true, true, true, true, true, false, false] rfl rfl (any_of HT_.out (by kernel_rfl)) (fun _ _ _ h => h) (Or.inl ⟨by rfl, ?_⟩) ?_ ?_
       rotate_left
       ·intro w'
        go_simp
        with_reducible rfl
       rotate_left
       ·simp only [Act.put, List.setIfInBounds_toArray, List.set_cons_zero, List.set_cons_succ, i64_w, i32_w]
        rfl
       exact norm_ Z2 (hCont (v310, gb313) _ ⟨hHeld, Z53, Z55, Z43, Z44, Z45, GW313.out, GE313.out, NB0_313.out, NB313_0.out, NB302_313.out, NB313_302.out, NB303_313.out, NB313_303.out, Z140, Z131, Z141⟩)
     ·skip
      refine box_step ?hg (N := 7) ?hd (cs := #[.slice none 0 0]) (t := 29) ?hr ?_; (case hd => rfl); (case hg => rfl); (case hr => first | (go_simp; done) | (go_simp; rfl))
      intro gb313 hg w15 hbox hb
      have n0_ := Aside0.mk (Kd.R_below Z13 hb)
      have n1_ := Aside0.mk (blk_below (g := gb302) (o := .cells #[.slice none 0 0] 29 (0, 0)) Z43 hb)
      have n2_ := Aside0.mk (blk_below (g := gb303) (o := .cells #[.slice Ao13 x304000_1.length co13] 29 (0, 0)) Z44 hb)
      have n3_ := Aside0.mk (IsS85.below Z120 hb)
      have n4_ := Aside0.mk (KeepBut.trans Z117 (KeepBut.of_below hb g none) (.inl rfl))
      have n5_ := Aside0.mk (below_step Z128 hb)
      have n6_ := Aside0.mk (hbox)
      have n7_ := Aside0.mk ((Z166 : w.heap.size ≤ gb313))
      have n8_ := Aside0.mk ((Nat.le_trans HW0.out (Z166 : w.heap.size ≤ gb313) : w0.heap.size ≤ gb313))
      have n9_ := Aside0.mk ((Z167 : gb302 ≠ gb313))
      have n10_ := Aside0.mk ((Z168 : gb313 ≠ gb302))
      have n11_ := Aside0.mk ((Z191 : gb303 ≠ gb313))
      have n12_ := Aside0.mk ((Z192 : gb313 ≠ gb303))
      have n13_ := Aside0.mk ((by rw [hg]; exact Nat.ne_of_lt (IsS85.lt (show IsS85 w0 _ g s0_0 x1001_1 from by repeat (first | (with_reducible first | exact HI0.out | apply IsS85.alloc | apply IsS85.drewN | apply IsS85.drew | apply IsS85.set_1 | refine IsS85.far ?_ NB0_302.out _ | refine IsS85.far ?_ NB0_303.out _) | exact HI0.out))) : g ≠ gb313))
      have n14_ := Aside0.mk ((by rw [hg]; exact Nat.ne_of_gt (IsS85.lt (show IsS85 w0 _ g s0_0 x1001_1 from by repeat (first | (with_reducible first | exact HI0.out | apply IsS85.alloc | apply IsS85.drewN | apply IsS85.drew | apply IsS85.set_1 | refine IsS85.far ?_ NB0_302.out _ | refine IsS85.far ?_ NB0_303.out _) | exact HI0.out))) : gb313 ≠ g))
      clear HO_304000
      clear BK302
      clear BK303
      clear HI0
      clear HK
      clear HB
      have HO_304000 := n0_
      have BK302 := n1_
      have BK303 := n2_
      have HI0 := n3_
      have HK := n4_
      have HB := n5_
      have BK313 := n6_
      have GW313 := n7_
      have GE313 := n8_
      have NB302_313 := n9_
      have NB313_302 := n10_
      have NB303_313 := n11_
      have NB313_303 := n12_
      have NB0_313 := n13_
      have NB313_0 := n14_
      clear n0_ n1_ n2_ n3_ n4_ n5_ n6_ n7_ n8_ n9_ n10_ n11_ n12_ n13_ n14_
      clear hb hbox hg
      refine hK.out _ _ ((blk_cell BK303.out 0).trans rfl) (fun hHeld => ?_)
      clear hK K
      refine norm_ (a' := ?_) ?_ ?_
      rotate_left
      ·show Act.put _ (some 7) _ = _
       simp only [Act.put, List.setIfInBounds_toArray, List.set_cons_zero, List.set_cons_succ, i64_w, i32_w]
       rfl
      refine one_ (i := 2) (N := some 19) #[true, true, true, false, false, false, false, true, false, false] rfl rfl (one_of HT_.out (by kernel_rfl)) (by decide) (fun K hK => ?_)
      refine goes_ Tryd.func78 (by kernel_rfl) rfl #[.pointer (some ⟨g, 0, none⟩)] (by rfl) rfl rfl Z56 ?_
      with_reducible refine (spec_l20In.calls k1 g s0_0 x1001_1 t306 t307 t308 w0 _ ?side1 ?side2 A11.out).mono ?_
      (case side1 => repeat (first | (with_reducible first | exact HI0.out | apply IsS85.alloc | apply IsS85.drewN | apply IsS85.drew | apply IsS85.set_1 | refine IsS85.far ?_ NB0_302.out _ | refine IsS85.far ?_ NB0_303.out _ | refine IsS85.far ?_ NB0_313.out _) | exact HI0.out))
      (case side2 => repeat (first | (with_reducible first | exact HB.out | apply below_alloc | apply pw_below_drewN | apply below_drew1 | refine below_set ?_ (IsS85.ge HI0.out) | refine below_set ?_ GE302.out | refine below_set ?_ GE303.out | refine below_set ?_ GE313.out) | exact HB.out))
      rintro e w16 ⟨rfl, hi, hb, hk⟩
      refine ⟨_, rfl, ?_⟩
      have n0_ := Aside0.mk (Kd.R_mono (Kd.R_keep (IsS85.apart (show IsS85 w0 _ g s0_0 x1001_1 from by repeat (first | (with_reducible first | exact HI0.out | apply IsS85.alloc | apply IsS85.drewN | apply IsS85.drew | apply IsS85.set_1 | refine IsS85.far ?_ NB0_302.out _ | refine IsS85.far ?_ NB0_303.out _ | refine IsS85.far ?_ NB0_313.out _) | exact HI0.out)) Z13 (by decide)) hk (fun _ h => h.2)) (fun _ h => h.1))
      have n1_ := Aside0.mk (KeepBut.blk hk (g' := gb302) (o := .cells #[.slice none 0 0] 29 (0, 0)) Z43 NB302_0.out (by simp))
      have n2_ := Aside0.mk (KeepBut.blk hk (g' := gb303) (o := .cells #[.slice Ao13 x304000_1.length co13] 29 (0, 0)) Z44 NB303_0.out (by simp))
      have n3_ := Aside0.mk (KeepBut.blk hk (g' := gb313) (o := .cells #[.slice none 0 0] 29 (0, 0)) Z45 NB313_0.out (by simp))
      have n4_ := Aside0.mk (KeepBut.trans Z131 hk (.inl rfl))
      have n5_ := Aside0.mk (hb)
      have n6_ := Aside0.mk (hi)
      clear HO_304000
      clear BK302
      clear BK303
      clear BK313
      clear HK
      clear HB
      clear HI0
      have HO_304000 := n0_
      have BK302 := n1_
      have BK303 := n2_
      have BK313 := n3_
      have HK := n4_
      have HB := n5_
      have HI0 := n6_
      clear n0_ n1_ n2_ n3_ n4_ n5_ n6_
      (try clear hb)
      (try clear hb2)
      (try clear hk)
      (try clear hi)
      refine hK.out _ _ ((blk_cell BK303.out 0).trans rfl) (fun hHeld => ?_)
      clear hK K
      refine norm_ (a' := ?_) ?_ ?_
      rotate_left
      ·show Act.put _ (some 19) _ = _
       simp only [Act.put, List.setIfInBounds_toArray, List.set_cons_zero, List.set_cons_succ, i64_w, i32_w]
       rfl
      refine one_ (i := 3) (N := some 20) #[true, true, true, true, false, false, false, true, false, false] rfl rfl (one_of HT_.out (by kernel_rfl)) (by decide) (fun K hK => ?_)
      refine goes_ Tryd.func77 (by kernel_rfl) rfl #[.agg #[.slice Ao13 x304000_1.length co13], .agg #[.int .i64 t306, .int .i64 t307]] (by rfl) rfl rfl Z56 ?_
      with_reducible refine (spec_MapPut.calls k1 _ _ x304000_1 t306 t307 t309 t312 _ ?side1 ?side2 A12.out).mono ?_
      (case side1 => exact Z93)
      (case side2 => exact (Kd.R_reads' HO_304000.out).2.1)
      rintro e w17 ⟨v310, rfl, ho0, hb⟩
      refine ⟨_, rfl, ?_⟩
      have n0_ := Aside0.mk (Kd.R_elder' Z13 (Kd.R_base ho0) hb)
      have n1_ := Aside0.mk (Kd.R_lower (Kd.R_new' ho0 (Kd.R_lt Z13)) (keep_size (w := w) (g := g) (row := none) Z131))
      have n2_ := Aside0.mk (blk_below (g := gb302) (o := .cells #[.slice none 0 0] 29 (0, 0)) Z43 hb)
      have n3_ := Aside0.mk (blk_below (g := gb303) (o := .cells #[.slice Ao13 x304000_1.length co13] 29 (0, 0)) Z44 hb)
      have n4_ := Aside0.mk (IsS85.below Z140 hb)
      have n5_ := Aside0.mk (blk_below (g := gb313) (o := .cells #[.slice none 0 0] 29 (0, 0)) Z45 hb)
      have n6_ := Aside0.mk (KeepBut.trans Z131 (KeepBut.of_below hb g none) (.inl rfl))
      have n7_ := Aside0.mk (below_step Z141 hb)
      clear HO_304000
      clear BK302
      clear BK303
      clear HI0
      clear BK313
      clear HK
      clear HB
      have HO_304000 := n0_
      have HO311 := n1_
      have BK302 := n2_
      have BK303 := n3_
      have HI0 := n4_
      have BK313 := n5_
      have HK := n6_
      have HB := n7_
      clear n0_ n1_ n2_ n3_ n4_ n5_ n6_ n7_
      (try clear hb)
      (try clear hb2)
      (try clear hk)
      (try clear hi)
      (try clear ho0)
      refine hK.out _ _ ((blk_cell BK303.out 0).trans rfl) (fun hHeld => ?_)
      clear hK K
      refine norm_ (a' := ?_) ?_ ?_
      rotate_left
      ·show Act.put _ (some 20) _ = _
       simp only [Act.put, List.setIfInBounds_toArray, List.set_cons_zero, List.set_cons_succ, i64_w, i32_w]
       rfl
      refine pure_ (i := 4) (N := some 16) (v := ?_) (a' := ?_) #[true, true, true, true, true, false, false, true, false, false] rfl rfl (any_of HT_.out (by kernel_rfl)) (fun _ _ _ h => h) (Or.inl ⟨by rfl, ?_⟩) ?_ ?_
      rotate_left
      ·intro w'
       go_simp
       with_reducible rfl
      rotate_left
      ·simp only [Act.put, List.setIfInBounds_toArray, List.set_cons_zero, List.set_cons_succ, i64_w, i32_w]
       rfl
      refine pure_ (i := 5) (N := some 21) (v := ?_) (a' := ?_) #[true, true, true, true, true, true, false, true, false, false] rfl rfl (any_of HT_.out (by kernel_rfl)) (fun _ _ _ h => h) (Or.inl ⟨by rfl, ?_⟩) ?_ ?_
      rotate_left
      ·intro w'
       go_simp
       with_reducible rfl
      rotate_left
      ·simp only [Act.put, List.setIfInBounds_toArray, List.set_cons_zero, List.set_cons_succ, i64_w, i32_w]
       rfl
      refine pure_ (i := 6) (N := some 22) (v := ?_) (a' := ?_) #[true, true, true, true, true, true, true, true, false, false] rfl rfl (any_of HT_.out (by kernel_rfl)) (fun _ _ _ h => h) (Or.inl ⟨by rfl, ?_⟩) ?_ ?_
      rotate_left
      ·intro w'
       go_simp
       with_reducible rfl
      rotate_left
      ·simp only [Act.put, List.setIfInBounds_toArray, List.set_cons_zero, List.set_cons_succ, i64_w, i32_w]
       rfl
      exact norm_ Z2 (hCont (v310, gb313) _ ⟨hHeld, Z53, Z55, Z43, Z44, Z45, GW313.out, GE313.out, NB0_313.out, NB313_0.out, NB302_313.out, NB313_302.out, NB303_313.out, NB313_303.out, Z140, Z131, Z141⟩)
    rintro ⟨v310, gb313⟩ w18 ⟨hS_, h0_, h1_, h2_, h3_, h4_, h5_, h6_, h7_, h8_, h9_, h10_, h11_, h12_, h13_, h14_, h15_⟩
    have n0_ : Aside0 (Kd.R k43 43 w18 w.heap.size (fun k_ => some k_ ≠ (.slice Ao13 x304000_1.length co13 : Value).ownBlock) v310 t309) := ⟨h0_⟩
    have n1_ : Aside0 (Kd.R k43 43 w18 w.heap.size (fun k_ => some k_ ≠ (v310 : Value).ownBlock) (.slice Ao13 x304000_1.length co13) x304000_1) := ⟨h1_⟩
    have n2_ : Aside0 (w18.heap[gb302]? = some (.cells #[.slice none 0 0] 29 (0, 0))) := ⟨h2_⟩
    have n3_ : Aside0 (w18.heap[gb303]? = some (.cells #[.slice Ao13 x304000_1.length co13] 29 (0, 0))) := ⟨h3_⟩
    have n4_ : Aside0 (w18.heap[gb313]? = some (.cells #[.slice none 0 0] 29 (0, 0))) := ⟨h4_⟩
    have n5_ : Aside0 (w.heap.size ≤ gb313) := ⟨h5_⟩
    have n6_ : Aside0 (w0.heap.size ≤ gb313) := ⟨h6_⟩
    have n7_ : Aside0 (g ≠ gb313) := ⟨h7_⟩
    have n8_ : Aside0 (gb313 ≠ g) := ⟨h8_⟩
    have n9_ : Aside0 (gb302 ≠ gb313) := ⟨h9_⟩
    have n10_ : Aside0 (gb313 ≠ gb302) := ⟨h10_⟩
    have n11_ : Aside0 (gb303 ≠ gb313) := ⟨h11_⟩
    have n12_ : Aside0 (gb313 ≠ gb303) := ⟨h12_⟩
    have n13_ : Aside0 (IsS85 w0 w18 g s0_0 t308) := ⟨h13_⟩
    have n14_ : Aside0 (KeepBut w w18 g none) := ⟨h14_⟩
    have n15_ : Aside0 (Below w0.heap.size w0 w18) := ⟨h15_⟩
    clear HO_304000
    clear BK302
    clear BK303
    clear HI0
    clear HK
    clear HB
    clear h0_ h1_ h2_ h3_ h4_ h5_ h6_ h7_ h8_ h9_ h10_ h11_ h12_ h13_ h14_ h15_
    have HO311 := n0_
    have HO_304000 := n1_
    have BK302 := n2_
    have BK303 := n3_
    have BK313 := n4_
    have GW313 := n5_
    have GE313 := n6_
    have NB0_313 := n7_
    have NB313_0 := n8_
    have NB302_313 := n9_
    have NB313_302 := n10_
    have NB303_313 := n11_
    have NB313_303 := n12_
    have HI0 := n13_
    have HK := n14_
    have HB := n15_
    clear n0_ n1_ n2_ n3_ n4_ n5_ n6_ n7_ n8_ n9_ n10_ n11_ n12_ n13_ n14_ n15_
    have hHeld : w18.cell? ⟨gb303, 0, none⟩ = some (.slice Ao13 x304000_1.length co13) := hS_
    obtain ⟨Ao19, co19, eo19⟩ := Kd.R_slice HO311.out
    (first | subst eo19 | (injection eo19 with f1_ f2_ f3_; have f4_ := f1_.symm; have f5_ := f3_.symm; clear f1_ f2_ f3_; subst f4_; subst f5_))
    refine norm_ (a' := ?_) ?_ ?_
    rotate_left
    ·simp only [putAll, Act.put, List.setIfInBounds_toArray, List.set_cons_zero, List.set_cons_succ]
     rfl
    refine one_ (i := 8) (N := none) #[true, true, true, true, true, true, true, true, true, false] rfl rfl (one_of HT_.out (by kernel_rfl)) (by decide) (fun K hK => ?_)
    have hs20 : w18.cell? ⟨gb313, 0, none⟩ = some (.slice none 0 0) := (blk_cell BK313.out 0).trans rfl
    have hfs20 := blk_frozen BK313.out 0
    have hns20_0 := NB302_313.out
    have hns20_1 := NB303_313.out
    have hms20_0 := NB313_302.out
    have hms20_1 := NB313_303.out
    refine skip_ (w1 := ?_) (by rfl) rfl ?_ ?_
    rotate_left
    ·go_simp
     rfl
    refine hK.out _ _ (((cell_far (p := ⟨gb313, _, none⟩) NB303_313.out _).trans (hHeld))) (fun hHeld => ?_)
    clear hK K
    refine pure_ (i := 9) (N := some 8) (v := ?_) (a' := ?_) #[true, true, true, true, true, true, true, true, true, true] rfl rfl (any_of HT_.out (by kernel_rfl)) (fun _ _ _ h => h) (Or.inl ⟨by rfl, ?_⟩) ?_ ?_
    rotate_left
    ·intro w'
     go_simp
     with_reducible rfl
    rotate_left
    ·simp only [Act.put, List.setIfInBounds_toArray, List.set_cons_zero, List.set_cons_succ, i64_w, i32_w]
     rfl
    refine done_ (done_of HT_.out (by kernel_rfl)) ?_
    have hnb21 := NB313_302.out
    have hnc21 := NB302_313.out
    have hnb22 := NB313_303.out
    have hnc22 := NB303_313.out
    have hnb23 := NB313_0.out
    have hnc23 := NB0_313.out
    have hcz24_0 : w18.cell? ⟨gb313, 0, none⟩ = some (.slice none 0 0) := (blk_cell BK313.out 0).trans rfl
    have hfz24_0 := blk_frozen BK313.out 0
    have hnb25 := NB303_302.out
    have hnc25 := NB302_303.out
    have hnb26 := NB303_0.out
    have hnc26 := NB0_303.out
    have hcz27_0 : w18.cell? ⟨gb303, 0, none⟩ = some (.slice Ao13 x304000_1.length co13) := (blk_cell BK303.out 0).trans rfl
    have hfz27_0 := blk_frozen BK303.out 0
    try go_wp2
    go_roundg k1
    case measure => have := HK1.out; omega
    case rel => exact ⟨(wrap64 (x6_1 - 1)), (t308), (t309), (.slice Ao19 t309.length co19), Z0, H', ⟨by have := HK1.out; omega⟩, ⟨by (with_reducible repeat (first | apply Kd.R_alloc | apply Kd.R_drewN | apply Kd.R_drew)); exact Kd.R_mono (Kd.R_far (p := ⟨gb303, 0, none⟩) (Kd.R_far (p := ⟨gb313, 0, none⟩) (Kd.R_types (Kd.R_types HO311.out BK313.out (by decide)) BK303.out (by decide)) (fun _ hk => hk.1.2) (.slice Ao19 t309.length co19)) (fun _ hk => hk.2) (.slice Ao19 t309.length co19)) (fun _ hk => trivial)⟩, ⟨by (with_reducible repeat (first | refine blk_drewN ?_ _ | refine blk_drew ?_ | refine blk_alloc ?_ _)); refine blk_far ?_ NB302_303.out _; (with_reducible repeat (first | refine blk_drewN ?_ _ | refine blk_drew ?_ | refine blk_alloc ?_ _)); refine blk_far ?_ NB302_313.out _; (with_reducible repeat (first | refine blk_drewN ?_ _ | refine blk_drew ?_ | refine blk_alloc ?_ _)); exact BK302.out⟩, ⟨by (with_reducible repeat (first | refine blk_drewN ?_ _ | refine blk_drew ?_ | refine blk_alloc ?_ _)); refine blk_put (cs := #[.slice Ao13 x304000_1.length co13]) ?_ 0 _ rfl; (with_reducible repeat (first | refine blk_drewN ?_ _ | refine blk_drew ?_ | refine blk_alloc ?_ _)); refine blk_far ?_ NB303_313.out _; (with_reducible repeat (first | refine blk_drewN ?_ _ | refine blk_drew ?_ | refine blk_alloc ?_ _)); exact BK303.out⟩, ⟨by repeat (first | (with_reducible first | exact HI0.out | apply IsS85.alloc | apply IsS85.drewN | apply IsS85.drew | apply IsS85.set_1 | refine IsS85.far ?_ NB0_302.out _ | refine IsS85.far ?_ NB0_303.out _ | refine IsS85.far ?_ NB0_313.out _) | exact HI0.out)⟩, ⟨by repeat (first | (with_reducible first | exact HK.out | apply KeepBut.set_ | apply keep_drewN | apply keep_drew | apply keep_alloc | refine keep_far ?_ GW302.out _ | refine keep_far ?_ GW303.out _ | refine keep_far ?_ GW313.out _) | exact HK.out)⟩, ⟨by repeat (first | (with_reducible first | exact HB.out | apply below_alloc | apply pw_below_drewN | apply below_drew1 | refine below_set ?_ (IsS85.ge HI0.out) | refine below_set ?_ GE302.out | refine below_set ?_ GE303.out | refine below_set ?_ GE313.out) | exact HB.out)⟩⟩
   ·rw [if_neg c10] at H
    have c10b0 : decide (0 < x6_1) = false := decide_eq_false c10
    clear c10
    replace H := Option.bind_eq_some_iff.mp H
    obtain ⟨⟨t314, t315⟩, A280, H⟩ := H
    replace H : (if t314 = true then ((spec_l20Rd_pick.f k1 s0_0 t315 3).bind fun bt316 => (if bt316.1 = 0 then ((spec_l20Out.f k1 s0_0 bt316.2).bind fun bt318 => (if x304000_1.length < 8796093022208 then (some ((x304000_1 ++ [(⟨bt318.1, bt318.2.1⟩ : S43)]), bt318.2.2)) else (none))) else (if bt316.1 = 1 then (if x304000_1.length < 8796093022208 then ((some (x304000_1 ++ [(⟨9, 9⟩ : S43)] : List (S43))).bind fun y324 => (if y324.length < 8796093022208 then (some ((y324 ++ [(⟨9, 9⟩ : S43)]), bt316.2)) else (none))) else (none)) else (spec_l20Table.l1 k1 s0_0 bt316.2 x304000_1)))) else (some (x304000_1, t315))) = some (r1, r2) := H
    have A28 := Aside0.mk A280
    clear A280
    by_cases c29 : t314 = true
    ·subst c29
     have H1 : ((spec_l20Rd_pick.f k1 s0_0 t315 3).bind fun bt316 => (if bt316.1 = 0 then ((spec_l20Out.f k1 s0_0 bt316.2).bind fun bt318 => (if x304000_1.length < 8796093022208 then (some ((x304000_1 ++ [(⟨bt318.1, bt318.2.1⟩ : S43)]), bt318.2.2)) else (none))) else (if bt316.1 = 1 then (if x304000_1.length < 8796093022208 then ((some (x304000_1 ++ [(⟨9, 9⟩ : S43)] : List (S43))).bind fun y324 => (if y324.length < 8796093022208 then (some ((y324 ++ [(⟨9, 9⟩ : S43)]), bt316.2)) else (none))) else (none)) else (spec_l20Table.l1 k1 s0_0 bt316.2 x304000_1)))) = some (r1, r2) := by rw [if_pos rfl] at H; exact H
     clear H
     have H := H1
     clear H1
     replace H := Option.bind_eq_some_iff.mp H
     obtain ⟨⟨t316, t317⟩, A300, H⟩ := H
     replace H : (if t316 = 0 then ((spec_l20Out.f k1 s0_0 t317).bind fun bt318 => (if x304000_1.length < 8796093022208 then (some ((x304000_1 ++ [(⟨bt318.1, bt318.2.1⟩ : S43)]), bt318.2.2)) else (none))) else (if t316 = 1 then (if x304000_1.length < 8796093022208 then ((some (x304000_1 ++ [(⟨9, 9⟩ : S43)] : List (S43))).bind fun y324 => (if y324.length < 8796093022208 then (some ((y324 ++ [(⟨9, 9⟩ : S43)]), t317)) else (none))) else (none)) else (spec_l20Table.l1 k1 s0_0 t317 x304000_1))) = some (r1, r2) := H
     have A30 := Aside0.mk A300
     clear A300
     by_cases c31 : t316 = 0
     ·rw [if_pos c31] at H
      have c31b0 : (t316 == 0) = true := beq_iff_eq.mpr c31
      have c31b1 : (t316 != 0) = false := bne_eq_false_iff_eq.mpr c31
      clear c31
      replace H := Option.bind_eq_some_iff.mp H
      obtain ⟨⟨t318, t319, t320⟩, A320, H⟩ := H
      replace H : (if x304000_1.length < 8796093022208 then (some ((x304000_1 ++ [(⟨t318, t319⟩ : S43)]), t320)) else (none)) = some (r1, r2) := H
      have A32 := Aside0.mk A320
      clear A320
      by_cases c33 : x304000_1.length < 8796093022208
      ·rw [if_pos c33] at H
       have LMc33 := Aside0.mk c33
       clear c33
       obtain ⟨y321, hy321⟩ : ∃ y_ : List (S43), y_ = (x304000_1 ++ [(⟨t318, t319⟩ : S43)]) := ⟨_, rfl⟩
       replace H : (some (y321, t320)) = some (r1, r2) := by first | (rw [hy321]; with_reducible exact H) | (have H2_ := (Option.bind_some _ _).symm.trans H; rw [hy321]; with_reducible exact H2_) | (have H2_ := (Option.bind_some _ _).symm.trans H; with_reducible exact H2_) | with_reducible exact H | (rw [hy321]; exact H) | exact H
       have Ny321 := Aside0.mk hy321
       clear hy321
       simp only [Option.some.injEq, Prod.mk.injEq] at H
       obtain ⟨rfl, rfl⟩ := H
       try go_wp2_with (first | ((with_reducible refine gate_callee (f := 79) rfl ?_); refine goesL_ (some 26) rfl rfl Tryd.func79 (by kernel_rfl) rfl #[.pointer (some ⟨g, 0, none⟩), .int .i64 a1] rfl Z56 ?_; (with_reducible refine (spec_l20Rd_odd.calls k1 g s0_0 x1001_1 a1 true t315 w0 _ ?side1 ?side2 A28.out).mono ?_); (case side1 => exact Z119); (case side2 => exact Z127); rintro e w34 ⟨rfl, hi, hb, hk⟩; refine ⟨_, rfl, ?_⟩; have n0_ := Aside0.mk (Kd.R_mono (Kd.R_keep (IsS85.apart (show IsS85 w0 _ g s0_0 x1001_1 from by repeat (first | (with_reducible first | exact HI0.out | apply IsS85.alloc | apply IsS85.drewN | apply IsS85.drew | apply IsS85.set_1 | refine IsS85.far ?_ NB0_302.out _ | refine IsS85.far ?_ NB0_303.out _) | exact HI0.out)) Z13 (by decide)) hk (fun _ h => h.2)) (fun _ h => h.1)); have n1_ := Aside0.mk (KeepBut.blk hk (g' := gb302) (o := .cells #[.slice none 0 0] 29 (0, 0)) Z43 NB302_0.out (by simp)); have n2_ := Aside0.mk (KeepBut.blk hk (g' := gb303) (o := .cells #[u304000] 29 (0, 0)) Z44 NB303_0.out (by simp)); have n3_ := Aside0.mk (KeepBut.trans Z117 hk (.inl rfl)); have n4_ := Aside0.mk (hb); have n5_ := Aside0.mk (hi); clear HO_304000; clear BK302; clear BK303; clear HK; clear HB; clear HI0; have HO_304000 := n0_; have BK302 := n1_; have BK303 := n2_; have HK := n3_; have HB := n4_; have HI0 := n5_; clear n0_ n1_ n2_ n3_ n4_ n5_; (try clear hb); (try clear hk); (try clear hi)) | ((with_reducible refine gate_callee (f := 56) rfl ?_); refine goesL_ (some 28) rfl rfl Tryd.func56 (by kernel_rfl) rfl #[.pointer (some ⟨g, 0, none⟩), .int .i64 3] rfl Z56 ?_; (with_reducible refine (spec_l20Rd_pick.calls k1 g s0_0 t315 3 t316 t317 w0 _ ?side1 ?side2 A30.out).mono ?_); (case side1 => exact Z119); (case side2 => exact Z127); rintro e w35 ⟨rfl, hi, hb, hk⟩; refine ⟨_, rfl, ?_⟩; have n0_ := Aside0.mk (Kd.R_mono (Kd.R_keep (IsS85.apart (show IsS85 w0 _ g s0_0 t315 from by repeat (first | (with_reducible first | exact HI0.out | apply IsS85.alloc | apply IsS85.drewN | apply IsS85.drew | apply IsS85.set_1 | refine IsS85.far ?_ NB0_302.out _ | refine IsS85.far ?_ NB0_303.out _) | exact HI0.out)) Z13 (by decide)) hk (fun _ h => h.2)) (fun _ h => h.1)); have n1_ := Aside0.mk (KeepBut.blk hk (g' := gb302) (o := .cells #[.slice none 0 0] 29 (0, 0)) Z43 NB302_0.out (by simp)); have n2_ := Aside0.mk (KeepBut.blk hk (g' := gb303) (o := .cells #[u304000] 29 (0, 0)) Z44 NB303_0.out (by simp)); have n3_ := Aside0.mk (KeepBut.trans Z117 hk (.inl rfl)); have n4_ := Aside0.mk (hb); have n5_ := Aside0.mk (hi); clear HO_304000; clear BK302; clear BK303; clear HK; clear HB; clear HI0; have HO_304000 := n0_; have BK302 := n1_; have BK303 := n2_; have HK := n3_; have HB := n4_; have HI0 := n5_; clear n0_ n1_ n2_ n3_ n4_ n5_; (try clear hb); (try clear hk); (try clear hi)))
       have n0_ := Aside0.mk (Kd.R_drew HO_304000.out)
       have n1_ := Aside0.mk (blk_drew BK302.out)
       have n2_ := Aside0.mk (blk_drew BK303.out)
       have n3_ := Aside0.mk (IsS85.drew HI0.out)
       have n4_ := Aside0.mk (keep_drew HK.out)
       have n5_ := Aside0.mk (below_drew1 HB.out)
       clear HO_304000
       clear BK302
       clear BK303
       clear HI0
       clear HK
       clear HB
       have HO_304000 := n0_
       have BK302 := n1_
       have BK303 := n2_
       have HI0 := n3_
       have HK := n4_
       have HB := n5_
       clear n0_ n1_ n2_ n3_ n4_ n5_
       refine start_ (n := 8) (S := fun w' => w'.cell? ⟨gb303, 0, none⟩ = some (u304000)) (ds := [7]) #[false, false, false, false, false, false, false, false] (by kernel_rfl) rfl rfl ((blk_cell BK303.out 0).trans rfl) (fun hHeld => ?_); refine with_tabW spec_l20Table.tab12 spec_l20Table.bits12 (fun HT_ HW_ => ?_)
       generalize w35.drew = w36 at HO_304000 BK302 BK303 HI0 HK HB hHeld ⊢
       refine pure_ (i := 0) (N := some 45) (v := ?_) (a' := ?_) #[true, false, false, false, false, false, false, false] rfl rfl (any_of HT_.out (by kernel_rfl)) (fun _ _ _ h => h) (Or.inl ⟨by rfl, ?_⟩) ?_ ?_
       rotate_left
       ·intro w'
        go_simp
        with_reducible rfl
       rotate_left
       ·simp only [Act.put, List.setIfInBounds_toArray, List.set_cons_zero, List.set_cons_succ, i64_w, i32_w]
        rfl
       refine pure_ (i := 2) (N := some 47) (v := ?_) (a' := ?_) #[true, false, true, false, false, false, false, false] rfl rfl (any_of HT_.out (by kernel_rfl)) (fun _ _ _ h => h) (Or.inl ⟨by rfl, ?_⟩) ?_ ?_
       rotate_left
       ·intro w'
        go_simp
        with_reducible rfl
       rotate_left
       ·simp only [Act.put, List.setIfInBounds_toArray, List.set_cons_zero, List.set_cons_succ, i64_w, i32_w]
        rfl
       refine take_ (i := 1) (N := some 46) (v := ?_) (a' := ?_) #[true, true, true, false, false, false, false, false] rfl rfl (take_ofW HT_.out HW_.out (by kernel_rfl)) (fun _ _ _ h => h) (Or.inl ⟨by rfl, ?_⟩) hHeld ?_ ?_
       rotate_left
       ·intro w' s0
        go_simp
        with_reducible rfl
       rotate_left
       ·simp only [Act.put, List.setIfInBounds_toArray, List.set_cons_zero, List.set_cons_succ, i64_w, i32_w]
        rfl
       refine one_ (i := 3) (N := some 48) #[true, true, true, true, false, false, false, false] rfl rfl (one_of HT_.out (by kernel_rfl)) (by decide) (fun K hK => ?_)
       refine goes_ Tryd.func80 (by kernel_rfl) rfl #[.pointer (some ⟨g, 0, none⟩)] (by rfl) rfl rfl Z56 ?_
       with_reducible refine (spec_l20Out.calls k1 g s0_0 t317 t318 t319 t320 w0 _ ?side1 ?side2 A32.out).mono ?_
       (case side1 => exact Z119)
       (case side2 => exact Z127)
       rintro e w37 ⟨rfl, hi, hb, hk⟩
       refine ⟨_, rfl, ?_⟩
       have n0_ := Aside0.mk (Kd.R_mono (Kd.R_keep (IsS85.apart (show IsS85 w0 _ g s0_0 t317 from by repeat (first | (with_reducible first | exact HI0.out | apply IsS85.alloc | apply IsS85.drewN | apply IsS85.drew | apply IsS85.set_1 | refine IsS85.far ?_ NB0_302.out _ | refine IsS85.far ?_ NB0_303.out _) | exact HI0.out)) Z13 (by decide)) hk (fun _ h => h.2)) (fun _ h => h.1))
       have n1_ := Aside0.mk (KeepBut.blk hk (g' := gb302) (o := .cells #[.slice none 0 0] 29 (0, 0)) Z43 NB302_0.out (by simp))
       have n2_ := Aside0.mk (KeepBut.blk hk (g' := gb303) (o := .cells #[u304000] 29 (0, 0)) Z44 NB303_0.out (by simp))
       have n3_ := Aside0.mk (KeepBut.trans Z117 hk (.inl rfl))
       have n4_ := Aside0.mk (hb)
       have n5_ := Aside0.mk (hi)
       clear HO_304000
       clear BK302
       clear BK303
       clear HK
       clear HB
       clear HI0
       have HO_304000 := n0_
       have BK302 := n1_
       have BK303 := n2_
       have HK := n3_
       have HB := n4_
       have HI0 := n5_
       clear n0_ n1_ n2_ n3_ n4_ n5_
       (try clear hb)
       (try clear hb2)
       (try clear hk)
       (try clear hi)
       refine hK.out _ _ ((blk_cell BK303.out 0).trans rfl) (fun hHeld => ?_)
       clear hK K
       refine norm_ (a' := ?_) ?_ ?_
       rotate_left
       ·show Act.put _ (some 48) _ = _
        simp only [Act.put, List.setIfInBounds_toArray, List.set_cons_zero, List.set_cons_succ, i64_w, i32_w]
        rfl
       refine one_ (i := 4) (N := some 49) #[true, true, true, true, true, false, false, false] rfl rfl (one_of HT_.out (by kernel_rfl)) (by decide) (fun K hK => ?_)
       refine value_ (w1 := ?_) (v := ?_) (by rfl) rfl ?_ ?_
       rotate_left 2
       ·go_simp
        constructor
        ·rfl
        ·rfl
       refine hK.out _ _ ((blk_cell (blk_alloc BK303.out _) 0).trans rfl) (fun hHeld => ?_)
       clear hK K
       refine norm_ (a' := ?_) ?_ ?_
       rotate_left
       ·show Act.put _ (some 49) _ = _
        simp only [Act.put, List.setIfInBounds_toArray, List.set_cons_zero, List.set_cons_succ, i64_w, i32_w]
        rfl
       refine one_ (i := 5) (N := some 50) #[true, true, true, true, true, true, false, false] rfl rfl (one_of HT_.out (by kernel_rfl)) (by decide) (fun K hK => ?_)
       refine Kd.R_append_step k43 w.heap.size (by rfl) (.tmp 46) (.tmp 49) 27 43 (.agg #[(.int .i64 0), (.int .i64 0)]) 16 rfl Tryd.underlying27 info43 rfl (by decide) (by omega) u304000 x304000_1 (⟨t318, t319⟩ : S43) [.int .i64 t318, .int .i64 t319] (fun _ => True) (fun _ => False) rfl rfl ?aP (fun _ hk => hk.elim) ?aF ?aO (Below.refl _ _) ?aS ?aL ?_
       (case aP => exact k43_mkM _ _ _ (⟨t318, t319⟩ : S43))
       (case aF => exact (fun _ _ => trivial))
       (case aO => exact Z13)
       (case aS => exact (keep_size (w := w) (g := g) (row := none) Z117))
       (case aL => have := LMc33.out; omega)
       intro v322 w38 ho hb hg hat
       rw [← Ny321.out] at ho
       have n0_ := Aside0.mk (blk_grown (g := gb302) (o := .cells #[.slice none 0 0] 29 (0, 0)) Z43 hg (Kd.R_ne HO_304000.out BK302.out (by decide)))
       have n1_ := Aside0.mk (blk_grown (g := gb303) (o := .cells #[u304000] 29 (0, 0)) Z44 hg (Kd.R_ne HO_304000.out BK303.out (by decide)))
       have n2_ := Aside0.mk (IsS85.grown Z120 hg (IsS85.own_ne HI0.out HO_304000.out (by decide)))
       have n3_ := Aside0.mk (below_weaken Z128 HL.out hb)
       have n4_ := Aside0.mk (KeepBut.trans Z117 (KeepBut.of_grown hg g) (Kd.R_base2 HO_304000.out))
       have n5_ := Aside0.mk (ho)
       clear BK302
       clear BK303
       clear HI0
       clear HB
       clear HK
       clear HO_304000
       have BK302 := n0_
       have BK303 := n1_
       have HI0 := n2_
       have HB := n3_
       have HK := n4_
       have HO323 := n5_
       clear n0_ n1_ n2_ n3_ n4_ n5_
       clear ho hb hg hat
       obtain ⟨Ao39, co39, eo39⟩ := Kd.R_slice HO323.out
       (first | subst eo39 | (injection eo39 with f1_ f2_ f3_; have f4_ := f1_.symm; have f5_ := f3_.symm; clear f1_ f2_ f3_; subst f4_; subst f5_))
       refine hK.out _ _ ((blk_cell BK303.out 0).trans rfl) (fun hHeld => ?_)
       clear hK K
       refine norm_ (a' := ?_) ?_ ?_
       rotate_left
       ·show Act.put _ (some 50) _ = _
        simp only [Act.put, List.setIfInBounds_toArray, List.set_cons_zero, List.set_cons_succ, i64_w, i32_w]
        rfl
       refine pure_ (i := 6) (N := some 51) (v := ?_) (a' := ?_) #[true, true, true, true, true, true, true, false] rfl rfl (any_of HT_.out (by kernel_rfl)) (fun _ _ _ h => h) (Or.inl ⟨by rfl, ?_⟩) ?_ ?_
       rotate_left
       ·intro w'
        go_simp
        with_reducible rfl
       rotate_left
       ·simp only [Act.put, List.setIfInBounds_toArray, List.set_cons_zero, List.set_cons_succ, i64_w, i32_w]
        rfl
       refine last_ (i := 7) (N := none) #[true, true, true, true, true, true, true, true] rfl rfl (one_of HT_.out (by kernel_rfl)) (by decide) (fun K hK => ?_)
       have hs40 : w38.cell? ⟨gb303, 0, none⟩ = some (u304000) := (blk_cell BK303.out 0).trans rfl
       have hfs40 := blk_frozen BK303.out 0
       have hns40_0 := NB302_303.out
       have hms40_0 := NB303_302.out
       refine skip_ (w1 := ?_) (by rfl) rfl ?_ ?_
       rotate_left
       ·go_simp
        rfl
       refine hK.out _ _ ?_
       clear hK K
       refine done_ (done_of HT_.out (by kernel_rfl)) ?_
       have hnb41 := NB303_302.out
       have hnc41 := NB302_303.out
       have hnb42 := NB303_0.out
       have hnc42 := NB0_303.out
       have hcz43_0 : w38.cell? ⟨gb303, 0, none⟩ = some (u304000) := (blk_cell BK303.out 0).trans rfl
       have hfz43_0 := blk_frozen BK303.out 0
       have hnb44 := NB302_0.out
       have hnc44 := NB0_302.out
       have hcz45_0 : w38.cell? ⟨gb302, 0, none⟩ = some (.slice none 0 0) := (blk_cell BK302.out 0).trans rfl
       have hfz45_0 := blk_frozen BK302.out 0
       try go_wp2
       refine bodyPost_ret (results_cell_row rfl _ _ gb302 29 #[.slice Ao39 y321.length co39] (0, 0) _ rfl Z158 Tryd.underlying29 rfl (by kernel_rfl)) rfl ?_
       exact ⟨_, by first | rfl | (simp [errW_none, errW_some] <;> rfl) | (simp [*, errW_none, errW_some] <;> rfl), by (with_reducible repeat (first | apply Kd.R_alloc | apply Kd.R_drewN | apply Kd.R_drew)); exact Kd.R_mono (Kd.R_far (p := ⟨gb302, 0, none⟩) (Kd.R_far (p := ⟨gb303, 0, none⟩) (Kd.R_types (Kd.R_types HO323.out BK303.out (by decide)) BK302.out (by decide)) (fun _ hk => hk.1.2) (.slice Ao39 y321.length co39)) (fun _ hk => hk.2) (.slice Ao39 y321.length co39)) (fun _ hk => trivial), by repeat (first | (with_reducible first | exact HI0.out | apply IsS85.alloc | apply IsS85.drewN | apply IsS85.drew | apply IsS85.set_1 | refine IsS85.far ?_ NB0_302.out _ | refine IsS85.far ?_ NB0_303.out _) | exact HI0.out), by repeat (first | (with_reducible first | exact HB.out | apply below_alloc | apply pw_below_drewN | apply below_drew1 | refine below_set ?_ (IsS85.ge HI0.out) | refine below_set ?_ GE302.out | refine below_set ?_ GE303.out) | exact HB.out), by repeat (first | (with_reducible first | exact HK.out | apply KeepBut.set_ | apply keep_drewN | apply keep_drew | apply keep_alloc | refine keep_far ?_ GW302.out _ | refine keep_far ?_ GW303.out _) | exact HK.out)⟩
      ·rw [if_neg c33] at H
       exact absurd H (by simp)
     ·rw [if_neg c31] at H
      have c31b0 : (t316 == 0) = false := beq_eq_false_iff_ne.mpr c31
      have c31b1 : (t316 != 0) = true := bne_iff_ne.mpr c31
      by_cases c46 : t316 = 1
      ·rw [if_pos c46] at H
       have c46b0 : (t316 == 1) = true := beq_iff_eq.mpr c46
       have c46b1 : (t316 != 1) = false := bne_eq_false_iff_eq.mpr c46
       clear c46
       by_cases c47 : x304000_1.length < 8796093022208
       ·rw [if_pos c47] at H
        have LMc47 := Aside0.mk c47
        clear c47
        obtain ⟨y324, hy324⟩ : ∃ y_ : List (S43), y_ = (x304000_1 ++ [(⟨9, 9⟩ : S43)]) := ⟨_, rfl⟩
        replace H : (if y324.length < 8796093022208 then (some ((y324 ++ [(⟨9, 9⟩ : S43)]), t317)) else (none)) = some (r1, r2) := by first | (rw [hy324]; with_reducible exact H) | (have H2_ := (Option.bind_some _ _).symm.trans H; rw [hy324]; with_reducible exact H2_) | (have H2_ := (Option.bind_some _ _).symm.trans H; with_reducible exact H2_) | with_reducible exact H | (rw [hy324]; exact H) | exact H
        have Ny324 := Aside0.mk hy324
        clear hy324
        by_cases c48 : y324.length < 8796093022208
        ·rw [if_pos c48] at H
         have LMc48 := Aside0.mk c48
         clear c48
         obtain ⟨y327, hy327⟩ : ∃ y_ : List (S43), y_ = (y324 ++ [(⟨9, 9⟩ : S43)]) := ⟨_, rfl⟩
         replace H : (some (y327, t317)) = some (r1, r2) := by first | (rw [hy327]; with_reducible exact H) | (have H2_ := (Option.bind_some _ _).symm.trans H; rw [hy327]; with_reducible exact H2_) | (have H2_ := (Option.bind_some _ _).symm.trans H; with_reducible exact H2_) | with_reducible exact H | (rw [hy327]; exact H) | exact H
         have Ny327 := Aside0.mk hy327
         clear hy327
         simp only [Option.some.injEq, Prod.mk.injEq] at H
         obtain ⟨rfl, rfl⟩ := H
         go_wp2_with (first | ((with_reducible refine gate_callee (f := 79) rfl ?_); refine goesL_ (some 26) rfl rfl Tryd.func79 (by kernel_rfl) rfl #[.pointer (some ⟨g, 0, none⟩), .int .i64 a1] rfl Z56 ?_; (with_reducible refine (spec_l20Rd_odd.calls k1 g s0_0 x1001_1 a1 true t315 w0 _ ?side1 ?side2 A28.out).mono ?_); (case side1 => exact Z119); (case side2 => exact Z127); rintro e w49 ⟨rfl, hi, hb, hk⟩; refine ⟨_, rfl, ?_⟩; have n0_ := Aside0.mk (Kd.R_mono (Kd.R_keep (IsS85.apart (show IsS85 w0 _ g s0_0 x1001_1 from by repeat (first | (with_reducible first | exact HI0.out | apply IsS85.alloc | apply IsS85.drewN | apply IsS85.drew | apply IsS85.set_1 | refine IsS85.far ?_ NB0_302.out _ | refine IsS85.far ?_ NB0_303.out _) | exact HI0.out)) Z13 (by decide)) hk (fun _ h => h.2)) (fun _ h => h.1)); have n1_ := Aside0.mk (KeepBut.blk hk (g' := gb302) (o := .cells #[.slice none 0 0] 29 (0, 0)) Z43 NB302_0.out (by simp)); have n2_ := Aside0.mk (KeepBut.blk hk (g' := gb303) (o := .cells #[u304000] 29 (0, 0)) Z44 NB303_0.out (by simp)); have n3_ := Aside0.mk (KeepBut.trans Z117 hk (.inl rfl)); have n4_ := Aside0.mk (hb); have n5_ := Aside0.mk (hi); clear HO_304000; clear BK302; clear BK303; clear HK; clear HB; clear HI0; have HO_304000 := n0_; have BK302 := n1_; have BK303 := n2_; have HK := n3_; have HB := n4_; have HI0 := n5_; clear n0_ n1_ n2_ n3_ n4_ n5_; (try clear hb); (try clear hk); (try clear hi)) | ((with_reducible refine gate_callee (f := 56) rfl ?_); refine goesL_ (some 28) rfl rfl Tryd.func56 (by kernel_rfl) rfl #[.pointer (some ⟨g, 0, none⟩), .int .i64 3] rfl Z56 ?_; (with_reducible refine (spec_l20Rd_pick.calls k1 g s0_0 t315 3 t316 t317 w0 _ ?side1 ?side2 A30.out).mono ?_); (case side1 => exact Z119); (case side2 => exact Z127); rintro e w50 ⟨rfl, hi, hb, hk⟩; refine ⟨_, rfl, ?_⟩; have n0_ := Aside0.mk (Kd.R_mono (Kd.R_keep (IsS85.apart (show IsS85 w0 _ g s0_0 t315 from by repeat (first | (with_reducible first | exact HI0.out | apply IsS85.alloc | apply IsS85.drewN | apply IsS85.drew | apply IsS85.set_1 | refine IsS85.far ?_ NB0_302.out _ | refine IsS85.far ?_ NB0_303.out _) | exact HI0.out)) Z13 (by decide)) hk (fun _ h => h.2)) (fun _ h => h.1)); have n1_ := Aside0.mk (KeepBut.blk hk (g' := gb302) (o := .cells #[.slice none 0 0] 29 (0, 0)) Z43 NB302_0.out (by simp)); have n2_ := Aside0.mk (KeepBut.blk hk (g' := gb303) (o := .cells #[u304000] 29 (0, 0)) Z44 NB303_0.out (by simp)); have n3_ := Aside0.mk (KeepBut.trans Z117 hk (.inl rfl)); have n4_ := Aside0.mk (hb); have n5_ := Aside0.mk (hi); clear HO_304000; clear BK302; clear BK303; clear HK; clear HB; clear HI0; have HO_304000 := n0_; have BK302 := n1_; have BK303 := n2_; have HK := n3_; have HB := n4_; have HI0 := n5_; clear n0_ n1_ n2_ n3_ n4_ n5_; (try clear hb); (try clear hk); (try clear hi); have hnb51 := NB303_302.out; have hnc51 := NB302_303.out; have hnb52 := NB303_0.out; have hnc52 := NB0_303.out; have hcz53_0 : w50.cell? ⟨gb303, 0, none⟩ = some (u304000) := (blk_cell BK303.out 0).trans rfl; have hfz53_0 := blk_frozen BK303.out 0) | ((with_reducible refine gate_builtin (b := .append) (xs := #[.tmp 55, .tmp 57]) rfl ?_); at_builtin; refine Kd.R_append k43 w.heap.size rfl (.tmp 55) (.tmp 57) 27 43 (.agg #[(.int .i64 0), (.int .i64 0)]) 16 rfl Tryd.underlying27 info43 rfl (by decide) (by omega) u304000 x304000_1 (⟨9, 9⟩ : S43) [.int .i64 9, .int .i64 9] (fun _ => True) (fun _ => False) rfl rfl ?aP (fun _ hk => hk.elim) ?aF ?aO (Below.refl _ _) ?aS ?aL ?_; (case aP => exact k43_mkM _ _ _ (⟨9, 9⟩ : S43)); (case aF => exact (fun _ _ => trivial)); (case aO => exact Z13); (case aS => exact (keep_size (w := w) (g := g) (row := none) Z117)); (case aL => have := LMc47.out; omega); intro v325 w54 ho hb hg hat; rw [← Ny324.out] at ho; have n0_ := Aside0.mk (blk_grown (g := gb302) (o := .cells #[.slice none 0 0] 29 (0, 0)) Z43 hg (Kd.R_ne HO_304000.out BK302.out (by decide))); have n1_ := Aside0.mk (blk_grown (g := gb303) (o := .cells #[u304000] 29 (0, 0)) Z44 hg (Kd.R_ne HO_304000.out BK303.out (by decide))); have n2_ := Aside0.mk (IsS85.grown Z120 hg (IsS85.own_ne HI0.out HO_304000.out (by decide))); have n3_ := Aside0.mk (below_weaken Z128 HL.out hb); have n4_ := Aside0.mk (KeepBut.trans Z117 (KeepBut.of_grown hg g) (Kd.R_base2 HO_304000.out)); have n5_ := Aside0.mk (ho); clear BK302; clear BK303; clear HI0; clear HB; clear HK; clear HO_304000; have BK302 := n0_; have BK303 := n1_; have HI0 := n2_; have HB := n3_; have HK := n4_; have HO326 := n5_; clear n0_ n1_ n2_ n3_ n4_ n5_; clear ho hb hg hat) | ((with_reducible refine gate_builtin (b := .append) (xs := #[.tmp 58, .tmp 60]) rfl ?_); at_builtin; refine Kd.R_append k43 w.heap.size rfl (.tmp 58) (.tmp 60) 27 43 (.agg #[(.int .i64 0), (.int .i64 0)]) 16 rfl Tryd.underlying27 info43 rfl (by decide) (by omega) v325 y324 (⟨9, 9⟩ : S43) [.int .i64 9, .int .i64 9] (fun _ => True) (fun _ => False) rfl rfl ?aP (fun _ hk => hk.elim) ?aF ?aO (Below.refl _ _) ?aS ?aL ?_; (case aP => exact k43_mkM _ _ _ (⟨9, 9⟩ : S43)); (case aF => exact (fun _ _ => trivial)); (case aO => exact (by (with_reducible repeat (first | apply Kd.R_alloc | apply Kd.R_drewN | apply Kd.R_drew)); exact HO326.out)); (case aS => exact (keep_size (w := w) (g := g) (row := none) Z117)); (case aL => have := LMc48.out; omega); intro v328 w55 ho hb hg hat; rw [← Ny327.out] at ho; have n0_ := Aside0.mk (blk_grown (g := gb302) (o := .cells #[.slice none 0 0] 29 (0, 0)) Z43 hg (Kd.R_ne HO326.out BK302.out (by decide))); have n1_ := Aside0.mk (blk_grown (g := gb303) (o := .cells #[u304000] 29 (0, 0)) Z44 hg (Kd.R_ne HO326.out BK303.out (by decide))); have n2_ := Aside0.mk (IsS85.grown Z120 hg (IsS85.own_ne HI0.out HO326.out (by decide))); have n3_ := Aside0.mk (below_weaken Z128 HL.out hb); have n4_ := Aside0.mk (KeepBut.trans Z117 (KeepBut.of_grown hg g) (Kd.R_base2 HO326.out)); have n5_ := Aside0.mk (ho); clear BK302; clear BK303; clear HI0; clear HB; clear HK; clear HO326; have BK302 := n0_; have BK303 := n1_; have HI0 := n2_; have HB := n3_; have HK := n4_; have HO329 := n5_; clear n0_ n1_ n2_ n3_ n4_ n5_; clear ho hb hg hat; obtain ⟨Ao56, co56, eo56⟩ := Kd.R_slice HO329.out; subst eo56; have hcz57_0 : w55.cell? ⟨gb303, 0, none⟩ = some (u304000) := (blk_cell BK303.out 0).trans rfl; have hfz57_0 := blk_frozen BK303.out 0; have hnb58 := NB302_0.out; have hnc58 := NB0_302.out; have hcz59_0 : w55.cell? ⟨gb302, 0, none⟩ = some (.slice none 0 0) := (blk_cell BK302.out 0).trans rfl; have hfz59_0 := blk_frozen BK302.out 0))
         refine bodyPost_ret (results_cell_row rfl _ _ gb302 29 #[.slice Ao56 y327.length co56] (0, 0) _ rfl Z158 Tryd.underlying29 rfl (by kernel_rfl)) rfl ?_
         exact ⟨_, by first | rfl | (simp [errW_none, errW_some] <;> rfl) | (simp [*, errW_none, errW_some] <;> rfl), by (with_reducible repeat (first | apply Kd.R_alloc | apply Kd.R_drewN | apply Kd.R_drew)); exact Kd.R_mono (Kd.R_far (p := ⟨gb302, 0, none⟩) (Kd.R_far (p := ⟨gb303, 0, none⟩) (Kd.R_types (Kd.R_types HO329.out BK303.out (by decide)) BK302.out (by decide)) (fun _ hk => hk.1.2) (.slice Ao56 y327.length co56)) (fun _ hk => hk.2) (.slice Ao56 y327.length co56)) (fun _ hk => trivial), by repeat (first | (with_reducible first | exact HI0.out | apply IsS85.alloc | apply IsS85.drewN | apply IsS85.drew | apply IsS85.set_1 | refine IsS85.far ?_ NB0_302.out _ | refine IsS85.far ?_ NB0_303.out _) | exact HI0.out), by repeat (first | (with_reducible first | exact HB.out | apply below_alloc | apply pw_below_drewN | apply below_drew1 | refine below_set ?_ (IsS85.ge HI0.out) | refine below_set ?_ GE302.out | refine below_set ?_ GE303.out) | exact HB.out), by repeat (first | (with_reducible first | exact HK.out | apply KeepBut.set_ | apply keep_drewN | apply keep_drew | apply keep_alloc | refine keep_far ?_ GW302.out _ | refine keep_far ?_ GW303.out _) | exact HK.out)⟩
        ·rw [if_neg c48] at H
         exact absurd H (by simp)
       ·rw [if_neg c47] at H
        exact absurd H (by simp)
      ·rw [if_neg c46] at H
       have c46b0 : (t316 == 1) = false := beq_eq_false_iff_ne.mpr c46
       have c46b1 : (t316 != 1) = true := bne_iff_ne.mpr c46
       have H' := Aside0.mk H
       clear H
       go_wp2_with (first | ((with_reducible refine gate_callee (f := 79) rfl ?_); refine goesL_ (some 26) rfl rfl Tryd.func79 (by kernel_rfl) rfl #[.pointer (some ⟨g, 0, none⟩), .int .i64 a1] rfl Z56 ?_; (with_reducible refine (spec_l20Rd_odd.calls k1 g s0_0 x1001_1 a1 true t315 w0 _ ?side1 ?side2 A28.out).mono ?_); (case side1 => exact Z119); (case side2 => exact Z127); rintro e w60 ⟨rfl, hi, hb, hk⟩; refine ⟨_, rfl, ?_⟩; have n0_ := Aside0.mk (Kd.R_mono (Kd.R_keep (IsS85.apart (show IsS85 w0 _ g s0_0 x1001_1 from by repeat (first | (with_reducible first | exact HI0.out | apply IsS85.alloc | apply IsS85.drewN | apply IsS85.drew | apply IsS85.set_1 | refine IsS85.far ?_ NB0_302.out _ | refine IsS85.far ?_ NB0_303.out _) | exact HI0.out)) Z13 (by decide)) hk (fun _ h => h.2)) (fun _ h => h.1)); have n1_ := Aside0.mk (KeepBut.blk hk (g' := gb302) (o := .cells #[.slice none 0 0] 29 (0, 0)) Z43 NB302_0.out (by simp)); have n2_ := Aside0.mk (KeepBut.blk hk (g' := gb303) (o := .cells #[u304000] 29 (0, 0)) Z44 NB303_0.out (by simp)); have n3_ := Aside0.mk (KeepBut.trans Z117 hk (.inl rfl)); have n4_ := Aside0.mk (hb); have n5_ := Aside0.mk (hi); clear HO_304000; clear BK302; clear BK303; clear HK; clear HB; clear HI0; have HO_304000 := n0_; have BK302 := n1_; have BK303 := n2_; have HK := n3_; have HB := n4_; have HI0 := n5_; clear n0_ n1_ n2_ n3_ n4_ n5_; (try clear hb); (try clear hk); (try clear hi)) | ((with_reducible refine gate_callee (f := 56) rfl ?_); refine goesL_ (some 28) rfl rfl Tryd.func56 (by kernel_rfl) rfl #[.pointer (some ⟨g, 0, none⟩), .int .i64 3] rfl Z56 ?_; (with_reducible refine (spec_l20Rd_pick.calls k1 g s0_0 t315 3 t316 t317 w0 _ ?side1 ?side2 A30.out).mono ?_); (case side1 => exact Z119); (case side2 => exact Z127); rintro e w61 ⟨rfl, hi, hb, hk⟩; refine ⟨_, rfl, ?_⟩; have n0_ := Aside0.mk (Kd.R_mono (Kd.R_keep (IsS85.apart (show IsS85 w0 _ g s0_0 t315 from by repeat (first | (with_reducible first | exact HI0.out | apply IsS85.alloc | apply IsS85.drewN | apply IsS85.drew | apply IsS85.set_1 | refine IsS85.far ?_ NB0_302.out _ | refine IsS85.far ?_ NB0_303.out _) | exact HI0.out)) Z13 (by decide)) hk (fun _ h => h.2)) (fun _ h => h.1)); have n1_ := Aside0.mk (KeepBut.blk hk (g' := gb302) (o := .cells #[.slice none 0 0] 29 (0, 0)) Z43 NB302_0.out (by simp)); have n2_ := Aside0.mk (KeepBut.blk hk (g' := gb303) (o := .cells #[u304000] 29 (0, 0)) Z44 NB303_0.out (by simp)); have n3_ := Aside0.mk (KeepBut.trans Z117 hk (.inl rfl)); have n4_ := Aside0.mk (hb); have n5_ := Aside0.mk (hi); clear HO_304000; clear BK302; clear BK303; clear HK; clear HB; clear HI0; have HO_304000 := n0_; have BK302 := n1_; have BK303 := n2_; have HK := n3_; have HB := n4_; have HI0 := n5_; clear n0_ n1_ n2_ n3_ n4_ n5_; (try clear hb); (try clear hk); (try clear hi)))
       go_loopg [] k1 (fun kq w' => ∃ (x304000_2 : List (S43)) (u304000 : Value), Aside0 (spec_l20Table.l1 kq s0_0 t317 x304000_2 = some (r1, r2)) ∧ Aside0 (kq ≤ k1) ∧ Aside0 (Kd.R k43 43 w' w.heap.size (fun _ => True) u304000 x304000_2) ∧ Aside0 (w'.heap[gb302]? = some (.cells #[(.slice none 0 0)] 29 (0, 0))) ∧ Aside0 (w'.heap[gb303]? = some (.cells #[u304000] 29 (0, 0))) ∧ Aside0 (IsS85 w0 w' g s0_0 t317) ∧ Aside0 (KeepBut w w' g none) ∧ Aside0 (Below w0.heap.size w0 w'))
       case atStart => exact ⟨(x304000_1), (u304000), H', ⟨Nat.le_refl _⟩, ⟨by (with_reducible repeat (first | apply Kd.R_alloc | apply Kd.R_drewN | apply Kd.R_drew)); exact HO_304000.out⟩, ⟨by (with_reducible repeat (first | refine blk_drewN ?_ _ | refine blk_drew ?_ | refine blk_alloc ?_ _)); exact BK302.out⟩, ⟨by (with_reducible repeat (first | refine blk_drewN ?_ _ | refine blk_drew ?_ | refine blk_alloc ?_ _)); exact BK303.out⟩, ⟨by repeat (first | (with_reducible first | exact HI0.out | apply IsS85.alloc | apply IsS85.drewN | apply IsS85.drew | apply IsS85.set_1 | refine IsS85.far ?_ NB0_302.out _ | refine IsS85.far ?_ NB0_303.out _) | exact HI0.out)⟩, ⟨by repeat (first | (with_reducible first | exact HK.out | apply KeepBut.set_ | apply keep_drewN | apply keep_drew | apply keep_alloc | refine keep_far ?_ GW302.out _ | refine keep_far ?_ GW303.out _) | exact HK.out)⟩, ⟨by repeat (first | (with_reducible first | exact HB.out | apply below_alloc | apply pw_below_drewN | apply below_drew1 | refine below_set ?_ (IsS85.ge HI0.out) | refine below_set ?_ GE302.out | refine below_set ?_ GE303.out) | exact HB.out)⟩⟩
       case round =>
        clear H'
        try clear c1
        try clear c2
        try clear p2
        try clear c3
        try clear c4
        try clear c5
        try clear p6
        try clear c7
        try clear c8
        try clear c10
        try clear c10b0
        try clear c21
        try clear c22
        try clear c23
        try clear c25
        try clear c26
        try clear c29
        try clear c31
        try clear c31b0
        try clear c31b1
        try clear c33
        try clear c41
        try clear c42
        try clear c44
        try clear c46
        try clear c46b0
        try clear c46b1
        try clear c47
        try clear c48
        try clear c51
        try clear c52
        try clear c56
        try clear c58
        try clear hcz24_0
        try clear hcz27_0
        try clear hcz43_0
        try clear hcz45_0
        try clear hcz53_0
        try clear hcz57_0
        try clear hcz59_0
        try clear hfz24_0
        try clear hfz27_0
        try clear hfz43_0
        try clear hfz45_0
        try clear hfz53_0
        try clear hfz57_0
        try clear hfz59_0
        obtain ⟨x304000_2, u304000, HA, HK2, HO_304000, BK302, BK303, HI0, HK, HB⟩ := hrel
        cases gk with
        | zero => exact absurd HA.out (by simp [spec_l20Table.l1])
        | succ k2 =>
         have H := HA.out
         clear HA
         simp only [spec_l20Table.l1] at H
         by_cases c62 : (x304000_2.length : Int) ≤ 6
         ·rw [if_pos c62] at H
          have c62b0 : decide ((x304000_2.length : Int) ≤ 6) = true := decide_eq_true c62
          have c62b1 : decide (x304000_2.length ≤ 6) = true := decide_eq_true (by omega)
          clear c62
          by_cases c63 : x304000_2.length < 8796093022208
          ·rw [if_pos c63] at H
           have LMc63 := Aside0.mk c63
           clear c63
           obtain ⟨y330, hy330⟩ : ∃ y_ : List (S43), y_ = (x304000_2 ++ [(⟨8, wrap64 (1 + (x304000_2.length : Int))⟩ : S43)]) := ⟨_, rfl⟩
           replace H : (spec_l20Table.l1 k2 s0_0 t317 y330) = some (r1, r2) := by first | (rw [hy330]; with_reducible exact H) | (have H2_ := (Option.bind_some _ _).symm.trans H; rw [hy330]; with_reducible exact H2_) | (have H2_ := (Option.bind_some _ _).symm.trans H; with_reducible exact H2_) | with_reducible exact H | (rw [hy330]; exact H) | exact H
           have Ny330 := Aside0.mk hy330
           clear hy330
           have H' := Aside0.mk H
           clear H
           have hnb64 := NB303_302.out
           have hnc64 := NB302_303.out
           have hnb65 := NB303_0.out
           have hnc65 := NB0_303.out
           have hcz66_0 : wr.cell? ⟨gb303, 0, none⟩ = some (u304000) := (blk_cell BK303.out 0).trans rfl
           have hfz66_0 := blk_frozen BK303.out 0
           obtain ⟨Ao67, co67, eo67⟩ := Kd.R_slice HO_304000.out
           subst eo67
           go_wp2_with (first | ((with_reducible refine gate_builtin (b := .append) (xs := #[.tmp 34, .tmp 40]) rfl ?_); at_builtin; refine Kd.R_append k43 w.heap.size rfl (.tmp 34) (.tmp 40) 27 43 (.agg #[(.int .i64 0), (.int .i64 0)]) 16 rfl Tryd.underlying27 info43 rfl (by decide) (by omega) (.slice Ao67 x304000_2.length co67) x304000_2 (⟨8, wrap64 (1 + (x304000_2.length : Int))⟩ : S43) [.int .i64 8, .int .i64 (wrap64 (1 + (x304000_2.length : Int)))] (fun _ => True) (fun _ => False) rfl rfl ?aP (fun _ hk => hk.elim) ?aF ?aO (Below.refl _ _) ?aS ?aL ?_; (case aP => exact k43_mkM _ _ _ (⟨8, wrap64 (1 + (x304000_2.length : Int))⟩ : S43)); (case aF => exact (fun _ _ => trivial)); (case aO => exact Z13); (case aS => exact (keep_size (w := w) (g := g) (row := none) Z117)); (case aL => have := LMc63.out; omega); intro v331 w68 ho hb hg hat; rw [← Ny330.out] at ho; have n0_ := Aside0.mk (blk_grown (g := gb302) (o := .cells #[.slice none 0 0] 29 (0, 0)) Z43 hg (Kd.R_ne HO_304000.out BK302.out (by decide))); have n1_ := Aside0.mk (blk_grown (g := gb303) (o := .cells #[.slice Ao67 x304000_2.length co67] 29 (0, 0)) Z44 hg (Kd.R_ne HO_304000.out BK303.out (by decide))); have n2_ := Aside0.mk (IsS85.grown Z120 hg (IsS85.own_ne HI0.out HO_304000.out (by decide))); have n3_ := Aside0.mk (below_weaken Z128 HL.out hb); have n4_ := Aside0.mk (KeepBut.trans Z117 (KeepBut.of_grown hg g) (Kd.R_base2 HO_304000.out)); have n5_ := Aside0.mk (ho); clear BK302; clear BK303; clear HI0; clear HB; clear HK; clear HO_304000; have BK302 := n0_; have BK303 := n1_; have HI0 := n2_; have HB := n3_; have HK := n4_; have HO332 := n5_; clear n0_ n1_ n2_ n3_ n4_ n5_; clear ho hb hg hat; obtain ⟨Ao69, co69, eo69⟩ := Kd.R_slice HO332.out; subst eo69; have hcz70_0 : w68.cell? ⟨gb303, 0, none⟩ = some (.slice Ao67 x304000_2.length co67) := (blk_cell BK303.out 0).trans rfl; have hfz70_0 := blk_frozen BK303.out 0))
           go_roundg k2
           case measure => have := HK1.out; have := HK2.out; omega
           case rel => exact ⟨(y330), (.slice Ao69 y330.length co69), H', ⟨by have := HK1.out; have := HK2.out; omega⟩, ⟨by (with_reducible repeat (first | apply Kd.R_alloc | apply Kd.R_drewN | apply Kd.R_drew)); exact Kd.R_mono (Kd.R_far (p := ⟨gb303, 0, none⟩) (Kd.R_types HO332.out BK303.out (by decide)) (fun _ hk => hk.2) (.slice Ao69 y330.length co69)) (fun _ hk => trivial)⟩, ⟨by (with_reducible repeat (first | refine blk_drewN ?_ _ | refine blk_drew ?_ | refine blk_alloc ?_ _)); refine blk_far ?_ NB302_303.out _; (with_reducible repeat (first | refine blk_drewN ?_ _ | refine blk_drew ?_ | refine blk_alloc ?_ _)); exact BK302.out⟩, ⟨by (with_reducible repeat (first | refine blk_drewN ?_ _ | refine blk_drew ?_ | refine blk_alloc ?_ _)); refine blk_put (cs := #[.slice Ao67 x304000_2.length co67]) ?_ 0 _ rfl; (with_reducible repeat (first | refine blk_drewN ?_ _ | refine blk_drew ?_ | refine blk_alloc ?_ _)); exact BK303.out⟩, ⟨by repeat (first | (with_reducible first | exact HI0.out | apply IsS85.alloc | apply IsS85.drewN | apply IsS85.drew | apply IsS85.set_1 | refine IsS85.far ?_ NB0_302.out _ | refine IsS85.far ?_ NB0_303.out _) | exact HI0.out)⟩, ⟨by repeat (first | (with_reducible first | exact HK.out | apply KeepBut.set_ | apply keep_drewN | apply keep_drew | apply keep_alloc | refine keep_far ?_ GW302.out _ | refine keep_far ?_ GW303.out _) | exact HK.out)⟩, ⟨by repeat (first | (with_reducible first | exact HB.out | apply below_alloc | apply pw_below_drewN | apply below_drew1 | refine below_set ?_ (IsS85.ge HI0.out) | refine below_set ?_ GE302.out | refine below_set ?_ GE303.out) | exact HB.out)⟩⟩
          ·rw [if_neg c63] at H
           exact absurd H (by simp)
         ·rw [if_neg c62] at H
          have c62b0 : decide ((x304000_2.length : Int) ≤ 6) = false := decide_eq_false c62
          have c62b1 : decide (x304000_2.length ≤ 6) = false := decide_eq_false (by omega)
          clear c62
          simp only [Option.some.injEq, Prod.mk.injEq] at H
          obtain ⟨rfl, rfl⟩ := H
          have hnb71 := NB303_302.out
          have hnc71 := NB302_303.out
          have hnb72 := NB303_0.out
          have hnc72 := NB0_303.out
          have hcz73_0 : wr.cell? ⟨gb303, 0, none⟩ = some (u304000) := (blk_cell BK303.out 0).trans rfl
          have hfz73_0 := blk_frozen BK303.out 0
          obtain ⟨Ao74, co74, eo74⟩ := Kd.R_slice HO_304000.out
          subst eo74
          have hnb75 := NB302_0.out
          have hnc75 := NB0_302.out
          have hcz76_0 : wr.cell? ⟨gb302, 0, none⟩ = some (.slice none 0 0) := (blk_cell BK302.out 0).trans rfl
          have hfz76_0 := blk_frozen BK302.out 0
          go_wp2
          refine bodyPost_ret (results_cell_row rfl _ _ gb302 29 #[.slice Ao74 x304000_2.length co74] (0, 0) _ rfl Z146 Tryd.underlying29 rfl (by kernel_rfl)) rfl ?_
          exact ⟨_, by first | rfl | (simp [errW_none, errW_some] <;> rfl) | (simp [*, errW_none, errW_some] <;> rfl), by (with_reducible repeat (first | apply Kd.R_alloc | apply Kd.R_drewN | apply Kd.R_drew)); exact Kd.R_mono (Kd.R_far (p := ⟨gb302, 0, none⟩) (Kd.R_types HO_304000.out BK302.out (by decide)) (fun _ hk => hk.2) (.slice Ao74 x304000_2.length co74)) (fun _ hk => trivial), by repeat (first | (with_reducible first | exact HI0.out | apply IsS85.alloc | apply IsS85.drewN | apply IsS85.drew | apply IsS85.set_1 | refine IsS85.far ?_ NB0_302.out _ | refine IsS85.far ?_ NB0_303.out _) | exact HI0.out), by repeat (first | (with_reducible first | exact HB.out | apply below_alloc | apply pw_below_drewN | apply below_drew1 | refine below_set ?_ (IsS85.ge HI0.out) | refine below_set ?_ GE302.out | refine below_set ?_ GE303.out) | exact HB.out), by repeat (first | (with_reducible first | exact HK.out | apply KeepBut.set_ | apply keep_drewN | apply keep_drew | apply keep_alloc | refine keep_far ?_ GW302.out _ | refine keep_far ?_ GW303.out _) | exact HK.out)⟩
    ·replace c29 := Bool.eq_false_iff.mpr c29
     subst c29
     have H1 : (some (x304000_1, t315)) = some (r1, r2) := by rw [if_neg (show ¬ (false = true) by decide)] at H; exact H
     clear H
     have H := H1
     clear H1
     simp only [Option.some.injEq, Prod.mk.injEq] at H
     obtain ⟨rfl, rfl⟩ := H
     go_wp2_with (first | ((with_reducible refine gate_callee (f := 79) rfl ?_); refine goesL_ (some 26) rfl rfl Tryd.func79 (by kernel_rfl) rfl #[.pointer (some ⟨g, 0, none⟩), .int .i64 a1] rfl Z56 ?_; (with_reducible refine (spec_l20Rd_odd.calls k1 g s0_0 x1001_1 a1 false t315 w0 _ ?side1 ?side2 A28.out).mono ?_); (case side1 => exact Z119); (case side2 => exact Z127); rintro e w77 ⟨rfl, hi, hb, hk⟩; refine ⟨_, rfl, ?_⟩; have n0_ := Aside0.mk (Kd.R_mono (Kd.R_keep (IsS85.apart (show IsS85 w0 _ g s0_0 x1001_1 from by repeat (first | (with_reducible first | exact HI0.out | apply IsS85.alloc | apply IsS85.drewN | apply IsS85.drew | apply IsS85.set_1 | refine IsS85.far ?_ NB0_302.out _ | refine IsS85.far ?_ NB0_303.out _) | exact HI0.out)) Z13 (by decide)) hk (fun _ h => h.2)) (fun _ h => h.1)); have n1_ := Aside0.mk (KeepBut.blk hk (g' := gb302) (o := .cells #[.slice none 0 0] 29 (0, 0)) Z43 NB302_0.out (by simp)); have n2_ := Aside0.mk (KeepBut.blk hk (g' := gb303) (o := .cells #[u304000] 29 (0, 0)) Z44 NB303_0.out (by simp)); have n3_ := Aside0.mk (KeepBut.trans Z117 hk (.inl rfl)); have n4_ := Aside0.mk (hb); have n5_ := Aside0.mk (hi); clear HO_304000; clear BK302; clear BK303; clear HK; clear HB; clear HI0; have HO_304000 := n0_; have BK302 := n1_; have BK303 := n2_; have HK := n3_; have HB := n4_; have HI0 := n5_; clear n0_ n1_ n2_ n3_ n4_ n5_; (try clear hb); (try clear hk); (try clear hi); have hnb78 := NB303_302.out; have hnc78 := NB302_303.out; have hnb79 := NB303_0.out; have hnc79 := NB0_303.out; have hcz80_0 : w77.cell? ⟨gb303, 0, none⟩ = some (u304000) := (blk_cell BK303.out 0).trans rfl; have hfz80_0 := blk_frozen BK303.out 0; obtain ⟨Ao81, co81, eo81⟩ := Kd.R_slice HO_304000.out; subst eo81; have hnb82 := NB302_0.out; have hnc82 := NB0_302.out; have hcz83_0 : w77.cell? ⟨gb302, 0, none⟩ = some (.slice none 0 0) := (blk_cell BK302.out 0).trans rfl; have hfz83_0 := blk_frozen BK302.out 0))
     refine bodyPost_ret (results_cell_row rfl _ _ gb302 29 #[.slice Ao81 x304000_1.length co81] (0, 0) _ rfl Z146 Tryd.underlying29 rfl (by kernel_rfl)) rfl ?_
     exact ⟨_, by first | rfl | (simp [errW_none, errW_some] <;> rfl) | (simp [*, errW_none, errW_some] <;> rfl), by (with_reducible repeat (first | apply Kd.R_alloc | apply Kd.R_drewN | apply Kd.R_drew)); exact Kd.R_mono (Kd.R_far (p := ⟨gb302, 0, none⟩) (Kd.R_types HO_304000.out BK302.out (by decide)) (fun _ hk => hk.2) (.slice Ao81 x304000_1.length co81)) (fun _ hk => trivial), by repeat (first | (with_reducible first | exact HI0.out | apply IsS85.alloc | apply IsS85.drewN | apply IsS85.drew | apply IsS85.set_1 | refine IsS85.far ?_ NB0_302.out _ | refine IsS85.far ?_ NB0_303.out _) | exact HI0.out), by repeat (first | (with_reducible first | exact HB.out | apply below_alloc | apply pw_below_drewN | apply below_drew1 | refine below_set ?_ (IsS85.ge HI0.out) | refine below_set ?_ GE302.out | refine below_set ?_ GE303.out) | exact HB.out), by repeat (first | (with_reducible first | exact HK.out | apply KeepBut.set_ | apply keep_drewN | apply keep_drew | apply keep_alloc | refine keep_far ?_ GW302.out _ | refine keep_far ?_ GW303.out _) | exact HK.out)⟩

end Go.Proofs.YtlofgoahgnllkaaDoor.QFnBakAgain
