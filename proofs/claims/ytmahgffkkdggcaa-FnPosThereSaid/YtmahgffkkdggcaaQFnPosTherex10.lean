-- Laid by a program of this repo (wip/tools/sprint.py): print.py's functions and walks; the contracts named 'BY HAND' are proved by hand.
import Derived.Test.YtmahgffkkdggcaaQFnPosTherex0
import Derived.Test.YtmahgffkkdggcaaQFnPosTherex4
import Derived.Test.YtmahgffkkdggcaaQFnPosTherex5
import Derived.Test.YtmahgffkkdggcaaQFnPosTherex9
namespace Go.Proofs.Ytmahgffkkdggcaa.QFnPosThere
open Go.RowKit Go.Proofs.YtmahgffkkdggcaaW.PrintWords Go.Proofs.YtmahgffkkdggcaaW.PrintLast Go.Proofs.YtmahgffkkdggcaaW.PrintMore
attribute [local go_sem] max2_int min2_int max_two min_two max_three min_three max_four min_four   -- for this text's walks alone
set_option linter.unusedVariables false
set_option linter.unusedSimpArgs false

/-! ### spec_l20Table: function 48 -/
mutual
def spec_l20Table.l0 : Nat → Int → Int → List Int → Int → List (S80) → Option ((List (S80)) × Int)
 | 0, _, _, _, _, _ => none
 | k + 1, x1, x6, x1000, x1001, x326000 => if x6 > 0 then ((spec_l20In.f k x1000 x1001).bind fun bt328 => ((spec_MapPut.f k x326000 bt328.1 bt328.2.1).bind fun bt331 => (spec_l20Table.l0 k x1 (wrap64 (x6 - 1)) x1000 bt328.2.2 bt331.1))) else ((spec_l20Rd_odd.f k x1000 x1001 x1).bind fun bt336 => (if bt336.1 = true then ((spec_l20Rd_pick.f k x1000 bt336.2 3).bind fun bt338 => (if bt338.1 = 0 then ((spec_l20Out.f k x1000 bt338.2).bind fun bt340 => (if x326000.length < 8796093022208 then (some ((x326000 ++ [(⟨bt340.1, bt340.2.1⟩ : S80)]), bt340.2.2)) else (none))) else (if bt338.1 = 1 then (if x326000.length < 8796093022208 then ((some (x326000 ++ [(⟨9, 9⟩ : S80)] : List (S80))).bind fun y346 => (if y346.length < 8796093022208 then (some ((y346 ++ [(⟨9, 9⟩ : S80)]), bt338.2)) else (none))) else (none)) else (spec_l20Table.l1 k x1000 bt338.2 x326000)))) else (some (x326000, bt336.2))))
def spec_l20Table.l1 : Nat → List Int → Int → List (S80) → Option ((List (S80)) × Int)
 | 0, _, _, _ => none
 | k + 1, x1000, x1001, x326000 => if (x326000.length : Int) ≤ 6 then (if x326000.length < 8796093022208 then (spec_l20Table.l1 k x1000 x1001 (x326000 ++ [(⟨8, wrap64 (1 + (x326000.length : Int))⟩ : S80)])) else (none)) else (some (x326000, x1001))
end
def spec_l20Table.f (k : Nat) (s0_0 : List Int) (s0_1 : Int) (a1 : Int) : Option ((List (S80)) × Int) := (spec_l20Rd_pick.f k s0_0 s0_1 8).bind fun bt326 => (spec_l20Table.l0 k a1 bt326.1 s0_0 bt326.2 ([] : List (S80)))
theorem spec_l20Table.mono_l : ∀ k, (∀ y0 y1 y2 y3 y4, LeO (spec_l20Table.l0 k y0 y1 y2 y3 y4) (spec_l20Table.l0 (k + 1) y0 y1 y2 y3 y4)) ∧ (∀ y0 y1 y2, LeO (spec_l20Table.l1 k y0 y1 y2) (spec_l20Table.l1 (k + 1) y0 y1 y2))
 | 0 => ⟨fun _ _ _ _ _ r h => by simp [spec_l20Table.l0] at h, fun _ _ _ r h => by simp [spec_l20Table.l1] at h⟩
 | k + 1 => by
  obtain ⟨ih0, ih1⟩ := spec_l20Table.mono_l k
  refine ⟨?_, ?_⟩
  ·intro y0 y1 y2 y3 y4
   unfold spec_l20Table.l0
   repeat' first
   | (with_reducible exact ih0 _ _ _ _ _)
   | (with_reducible exact ih1 _ _ _)
   | (with_reducible exact spec_MapPut.mono _ _ _ _)
   | (with_reducible exact spec_l20In.mono _ _ _)
   | (with_reducible exact spec_l20Out.mono _ _ _)
   | (with_reducible exact spec_l20Rd_odd.mono _ _ _ _)
   | (with_reducible exact spec_l20Rd_pick.mono _ _ _ _)
   | (with_reducible exact LeO.refl _)
   | (with_reducible exact LeO.none _)
   | (with_reducible refine LeO.ite ?_ ?_)
   | (with_reducible refine LeO.bind ?_ (fun _ => ?_))
   | exact ih0 _ _ _ _ _
   | exact ih1 _ _ _
   | exact spec_MapPut.mono _ _ _ _
   | exact spec_l20In.mono _ _ _
   | exact spec_l20Out.mono _ _ _
   | exact spec_l20Rd_odd.mono _ _ _ _
   | exact spec_l20Rd_pick.mono _ _ _ _
   | exact LeO.none _
   | refine LeO.ite ?_ ?_
   | refine LeO.bind ?_ (fun _ => ?_)
  ·intro y0 y1 y2
   unfold spec_l20Table.l1
   repeat' first
   | (with_reducible exact ih0 _ _ _ _ _)
   | (with_reducible exact ih1 _ _ _)
   | (with_reducible exact spec_MapPut.mono _ _ _ _)
   | (with_reducible exact spec_l20In.mono _ _ _)
   | (with_reducible exact spec_l20Out.mono _ _ _)
   | (with_reducible exact spec_l20Rd_odd.mono _ _ _ _)
   | (with_reducible exact spec_l20Rd_pick.mono _ _ _ _)
   | (with_reducible exact LeO.refl _)
   | (with_reducible exact LeO.none _)
   | (with_reducible refine LeO.ite ?_ ?_)
   | (with_reducible refine LeO.bind ?_ (fun _ => ?_))
   | exact ih0 _ _ _ _ _
   | exact ih1 _ _ _
   | exact spec_MapPut.mono _ _ _ _
   | exact spec_l20In.mono _ _ _
   | exact spec_l20Out.mono _ _ _
   | exact spec_l20Rd_odd.mono _ _ _ _
   | exact spec_l20Rd_pick.mono _ _ _ _
   | exact LeO.none _
   | refine LeO.ite ?_ ?_
   | refine LeO.bind ?_ (fun _ => ?_)
theorem spec_l20Table.mono : ∀ a0 a1 a2 k, LeO (spec_l20Table.f k a0 a1 a2) (spec_l20Table.f (k + 1) a0 a1 a2) := by
 intro a0 a1 a2 k
 obtain ⟨ih0, ih1⟩ := spec_l20Table.mono_l k
 unfold spec_l20Table.f
 repeat' first
   | (with_reducible exact ih0 _ _ _ _ _)
   | (with_reducible exact ih1 _ _ _)
   | (with_reducible exact spec_MapPut.mono _ _ _ _)
   | (with_reducible exact spec_l20In.mono _ _ _)
   | (with_reducible exact spec_l20Out.mono _ _ _)
   | (with_reducible exact spec_l20Rd_odd.mono _ _ _ _)
   | (with_reducible exact spec_l20Rd_pick.mono _ _ _ _)
   | (with_reducible exact LeO.refl _)
   | (with_reducible exact LeO.none _)
   | (with_reducible refine LeO.ite ?_ ?_)
   | (with_reducible refine LeO.bind ?_ (fun _ => ?_))
   | exact ih0 _ _ _ _ _
   | exact ih1 _ _ _
   | exact spec_MapPut.mono _ _ _ _
   | exact spec_l20In.mono _ _ _
   | exact spec_l20Out.mono _ _ _
   | exact spec_l20Rd_odd.mono _ _ _ _
   | exact spec_l20Rd_pick.mono _ _ _ _
   | exact LeO.none _
   | refine LeO.ite ?_ ?_
   | refine LeO.bind ?_ (fun _ => ?_)
def spec_l20Table.T5 : Bool × List (List Nat × List Nat) := (true, [([], []), ([], []), ([1], [1]), ([0, 2, 2], [0, 2]), ([3], [3]), ([4], [4]), ([4], [4]), ([], []), ([7, 5, 3, 0, 1, 2, 3, 4, 5, 7], [5, 7]), ([6, 8, 0, 1, 2, 3, 4, 5, 6, 7, 8], [6])])
def spec_l20Table.B5 : List Nat := [0, 0, 2, 7, 15, 31, 31, 0, 191, 511]
theorem spec_l20Table.tab5 : rtab .any (opsOf Try.f48 5) = spec_l20Table.T5 := by kernel_rfl
theorem spec_l20Table.bits5 : waitsOk spec_l20Table.T5.2 spec_l20Table.B5 = true := by kernel_rfl
def spec_l20Table.T12 : Bool × List (List Nat × List Nat) := (true, [([], []), ([0], [0]), ([], []), ([2], [2]), ([3], [3]), ([1, 4, 3], [1, 4]), ([0, 1, 2, 3, 4, 5], []), ([6, 5, 5, 0, 1, 2, 3, 4, 5], [5, 6])])
def spec_l20Table.B12 : List Nat := [0, 1, 0, 4, 12, 31, 63, 127]
theorem spec_l20Table.tab12 : rtab .any (opsOf Try.f48 12) = spec_l20Table.T12 := by kernel_rfl
theorem spec_l20Table.bits12 : waitsOk spec_l20Table.T12.2 spec_l20Table.B12 = true := by kernel_rfl
set_option maxHeartbeats 8000000 in
set_option maxRecDepth 100000 in
theorem spec_l20Table.calls (k : Nat) (g : Nat) (s0_0 : List Int) (s0_1 : Int) (a1 : Int) (r1 : List (S80)) (r2 : Int) (w0 w : World) (hI : IsS76 w0 w g s0_0 s0_1) (hB : Below w0.heap.size w0 w) (h : spec_l20Table.f k s0_0 s0_1 a1 = some (r1, r2)) :
  Calls Try.prog 48 #[.pointer (some ⟨g, 0, none⟩), .int .i64 a1] w fun e w' => ∃ v0_ : Value, e = .returned (.agg #[v0_]) ∧ Kd.R k80 80 w' w.heap.size (fun _ => True) v0_ r1 ∧ IsS76 w0 w' g s0_0 r2 ∧ Below w0.heap.size w0 w' ∧ KeepBut w w' g none := by
 have hu61 := Try.underlying61
 have hu80 := Try.underlying80
 have HI0 := Aside0.mk hI
 have HK := Aside0.mk (KeepBut.refl w g none)
 have HL := Aside0.mk hB.size
 clear hI
 have HW0 := Aside0.mk hB.size
 have HB := Aside0.mk hB
 clear hB
 have H : ((spec_l20Rd_pick.f k s0_0 s0_1 8).bind fun bt326 => (spec_l20Table.l0 k a1 bt326.1 s0_0 bt326.2 ([] : List (S80)))) = some (r1, r2) := h
 clear h
 replace H := Option.bind_eq_some_iff.mp H
 obtain ⟨⟨t326, t327⟩, A30, H⟩ := H
 replace H : (spec_l20Table.l0 k a1 t326 s0_0 t327 ([] : List (S80))) = some (r1, r2) := H
 have A3 := Aside0.mk A30
 clear A30
 have H' := Aside0.mk H
 clear H
 go_enter Try.func48, Try.ntmps48
 go_wp2_with (first | ((with_reducible refine gate_dst (N := 4) rfl ?_); refine box_event ?hg (N := 4) ?hd (cs := #[.slice none 0 0]) (t := 61) ?hr ?_; (case hd => rfl); (case hg => rfl); (case hr => first | (go_simp; done) | (go_simp; rfl)); intro gb324 hg w4 hbox hb; have n0_ := Aside0.mk (IsS76.below Z79 hb); have n1_ := Aside0.mk (KeepBut.trans Z77 (KeepBut.of_below hb g none) (.inl rfl)); have n2_ := Aside0.mk (below_step Z104 hb); have n3_ := Aside0.mk (hbox); have n4_ := Aside0.mk ((Z193 : w.heap.size ≤ gb324)); have n5_ := Aside0.mk ((Nat.le_trans HW0.out (Z193 : w.heap.size ≤ gb324) : w0.heap.size ≤ gb324)); have n6_ := Aside0.mk ((Z138 : g ≠ gb324)); have n7_ := Aside0.mk ((Z139 : gb324 ≠ g)); clear HI0; clear HK; clear HB; have HI0 := n0_; have HK := n1_; have HB := n2_; have BK324 := n3_; have GW324 := n4_; have GE324 := n5_; have NB0_324 := n6_; have NB324_0 := n7_; clear n0_ n1_ n2_ n3_ n4_ n5_ n6_ n7_; clear hb hbox hg) | ((with_reducible refine gate_dst (N := 5) rfl ?_); refine box_event ?hg (N := 5) ?hd (cs := #[.slice none 0 0]) (t := 61) ?hr ?_; (case hd => rfl); (case hg => rfl); (case hr => first | (go_simp; done) | (go_simp; rfl)); intro gb325 hg w5 hbox hb; have n0_ := Aside0.mk (IsS76.below (by repeat (first | (with_reducible first | exact HI0.out | apply IsS76.alloc | apply IsS76.drewN | apply IsS76.drew | apply IsS76.set_1 | refine IsS76.far ?_ NB0_324.out _) | exact HI0.out)) hb); have n1_ := Aside0.mk (blk_below (g := gb324) (o := .cells #[.slice none 0 0] 61 (0, 0)) Z54 hb); have n2_ := Aside0.mk (KeepBut.trans Z112 (KeepBut.of_below hb g none) (.inl rfl)); have n3_ := Aside0.mk (below_step (by repeat (first | (with_reducible first | exact HB.out | apply below_alloc | apply pw_below_drewN | apply below_drew1 | refine below_set ?_ (IsS76.ge HI0.out) | refine below_set ?_ GE324.out) | exact HB.out)) hb); have n4_ := Aside0.mk (hbox); have n5_ := Aside0.mk ((by rw [hg]; exact (keep_size (w := w) (g := g) (row := none) Z112) : w.heap.size ≤ gb325)); have n6_ := Aside0.mk ((Nat.le_trans HW0.out (by rw [hg]; exact (keep_size (w := w) (g := g) (row := none) Z112) : w.heap.size ≤ gb325) : w0.heap.size ≤ gb325)); have n7_ := Aside0.mk ((Z195 : gb324 ≠ gb325)); have n8_ := Aside0.mk ((Z196 : gb325 ≠ gb324)); have n9_ := Aside0.mk ((by rw [hg]; exact Nat.ne_of_lt (IsS76.lt (show IsS76 w0 _ g s0_0 s0_1 from by repeat (first | (with_reducible first | exact HI0.out | apply IsS76.alloc | apply IsS76.drewN | apply IsS76.drew | apply IsS76.set_1 | refine IsS76.far ?_ NB0_324.out _) | exact HI0.out))) : g ≠ gb325)); have n10_ := Aside0.mk ((by rw [hg]; exact Nat.ne_of_gt (IsS76.lt (show IsS76 w0 _ g s0_0 s0_1 from by repeat (first | (with_reducible first | exact HI0.out | apply IsS76.alloc | apply IsS76.drewN | apply IsS76.drew | apply IsS76.set_1 | refine IsS76.far ?_ NB0_324.out _) | exact HI0.out))) : gb325 ≠ g)); clear HI0; clear BK324; clear HK; clear HB; have HI0 := n0_; have BK324 := n1_; have HK := n2_; have HB := n3_; have BK325 := n4_; have GW325 := n5_; have GE325 := n6_; have NB324_325 := n7_; have NB325_324 := n8_; have NB0_325 := n9_; have NB325_0 := n10_; clear n0_ n1_ n2_ n3_ n4_ n5_ n6_ n7_ n8_ n9_ n10_; clear hb hbox hg; have hnb6 := NB325_324.out; have hnc6 := NB324_325.out; have hnb7 := NB325_0.out; have hnc7 := NB0_325.out; have hcz8_0 : w5.cell? ⟨gb325, 0, none⟩ = some (.slice none 0 0) := (blk_cell BK325.out 0).trans rfl; have hfz8_0 := blk_frozen BK325.out 0) | ((with_reducible refine gate_callee (f := 49) rfl ?_); refine goesL_ (some 11) rfl rfl Try.func49 (by kernel_rfl) rfl #[.pointer (some ⟨g, 0, none⟩), .int .i64 8] rfl Z75 ?_; (with_reducible refine (spec_l20Rd_pick.calls k g s0_0 s0_1 8 t326 t327 w0 _ ?side1 ?side2 A3.out).mono ?_); (case side1 => exact Z135); (case side2 => exact Z146); rintro e w9 ⟨rfl, hi, hb, hk⟩; refine ⟨_, rfl, ?_⟩; have n0_ := Aside0.mk (KeepBut.blk hk (g' := gb324) (o := .cells #[.slice none 0 0] 61 (0, 0)) (by (with_reducible repeat (first | refine blk_drewN ?_ _ | refine blk_drew ?_ | refine blk_alloc ?_ _)); refine blk_far ?_ NB324_325.out _; (with_reducible repeat (first | refine blk_drewN ?_ _ | refine blk_drew ?_ | refine blk_alloc ?_ _)); exact BK324.out) NB324_0.out (by simp)); have n1_ := Aside0.mk (KeepBut.blk hk (g' := gb325) (o := .cells #[.slice none 0 0] 61 (0, 0)) (by (with_reducible repeat (first | refine blk_drewN ?_ _ | refine blk_drew ?_ | refine blk_alloc ?_ _)); refine blk_put (cs := #[.slice none 0 0]) ?_ 0 _ rfl; (with_reducible repeat (first | refine blk_drewN ?_ _ | refine blk_drew ?_ | refine blk_alloc ?_ _)); exact BK325.out) NB325_0.out (by simp)); have n2_ := Aside0.mk (KeepBut.trans Z131 hk (.inl rfl)); have n3_ := Aside0.mk (hb); have n4_ := Aside0.mk (hi); clear BK324; clear BK325; clear HK; clear HB; clear HI0; have BK324 := n0_; have BK325 := n1_; have HK := n2_; have HB := n3_; have HI0 := n4_; clear n0_ n1_ n2_ n3_ n4_; (try clear hb); (try clear hk); (try clear hi)))
 go_loopg [6] k (fun kq v6 w' => ∃ (x6_1 : Int) (x1001_1 : Int) (x326000_1 : List (S80)) (u326000 : Value), v6 = .int .i64 x6_1 ∧ Aside0 (spec_l20Table.l0 kq a1 x6_1 s0_0 x1001_1 x326000_1 = some (r1, r2)) ∧ Aside0 (kq ≤ k) ∧ Aside0 (Kd.R k80 80 w' w.heap.size (fun _ => True) u326000 x326000_1) ∧ Aside0 (w'.heap[gb324]? = some (.cells #[(.slice none 0 0)] 61 (0, 0))) ∧ Aside0 (w'.heap[gb325]? = some (.cells #[u326000] 61 (0, 0))) ∧ Aside0 (IsS76 w0 w' g s0_0 x1001_1) ∧ Aside0 (KeepBut w w' g none) ∧ Aside0 (Below w0.heap.size w0 w'))
 case atStart => exact ⟨(t326), (t327), (([] : List (S80))), (.slice none 0 0), Z0, H', ⟨Nat.le_refl _⟩, ⟨by first | exact Kd.R_nil _ _ _ _ _ | exact Kd.N_nil _ _ _ _ _ | exact Kd.V_nil _ _ _ _ _ | exact Kd.Q_nil _ _ _ _ _ | exact Kd.S_nil _ _ _ _ _⟩, ⟨by (with_reducible repeat (first | refine blk_drewN ?_ _ | refine blk_drew ?_ | refine blk_alloc ?_ _)); exact BK324.out⟩, ⟨by (with_reducible repeat (first | refine blk_drewN ?_ _ | refine blk_drew ?_ | refine blk_alloc ?_ _)); exact BK325.out⟩, ⟨by repeat (first | (with_reducible first | exact HI0.out | apply IsS76.alloc | apply IsS76.drewN | apply IsS76.drew | apply IsS76.set_1 | refine IsS76.far ?_ NB0_324.out _ | refine IsS76.far ?_ NB0_325.out _) | exact HI0.out)⟩, ⟨by repeat (first | (with_reducible first | exact HK.out | apply KeepBut.set_ | apply keep_drewN | apply keep_drew | apply keep_alloc | refine keep_far ?_ GW324.out _ | refine keep_far ?_ GW325.out _) | exact HK.out)⟩, ⟨by repeat (first | (with_reducible first | exact HB.out | apply below_alloc | apply pw_below_drewN | apply below_drew1 | refine below_set ?_ (IsS76.ge HI0.out) | refine below_set ?_ GE324.out | refine below_set ?_ GE325.out) | exact HB.out)⟩⟩
 case round =>
  clear H'
  try clear p2
  try clear c4
  try clear c6
  try clear c7
  try clear hcz8_0
  try clear hfz8_0
  obtain ⟨x6_1, x1001_1, x326000_1, u326000, rfl, HA, HK1, HO_326000, BK324, BK325, HI0, HK, HB⟩ := hrel
  cases gk with
  | zero => exact absurd HA.out (by simp [spec_l20Table.l0])
  | succ k1 =>
   have H := HA.out
   clear HA
   simp only [spec_l20Table.l0] at H
   by_cases c10 : x6_1 > 0
   ·rw [if_pos c10] at H
    have c10b0 : decide (0 < x6_1) = true := decide_eq_true c10
    clear c10
    replace H := Option.bind_eq_some_iff.mp H
    obtain ⟨⟨t328, t329, t330⟩, A110, H⟩ := H
    replace H : ((spec_MapPut.f k1 x326000_1 t328 t329).bind fun bt331 => (spec_l20Table.l0 k1 a1 (wrap64 (x6_1 - 1)) s0_0 t330 bt331.1)) = some (r1, r2) := H
    have A11 := Aside0.mk A110
    clear A110
    replace H := Option.bind_eq_some_iff.mp H
    obtain ⟨⟨t331, t334⟩, A120, H⟩ := H
    replace H : (spec_l20Table.l0 k1 a1 (wrap64 (x6_1 - 1)) s0_0 t330 t331) = some (r1, r2) := H
    have A12 := Aside0.mk A120
    clear A120
    have H' := Aside0.mk H
    clear H
    obtain ⟨Ao13, co13, eo13⟩ := Kd.R_slice HO_326000.out
    subst eo13
    try go_wp2
    have n0_ := Aside0.mk (Kd.R_drew HO_326000.out)
    have n1_ := Aside0.mk (blk_drew BK324.out)
    have n2_ := Aside0.mk (blk_drew BK325.out)
    have n3_ := Aside0.mk (IsS76.drew HI0.out)
    have n4_ := Aside0.mk (keep_drew HK.out)
    have n5_ := Aside0.mk (below_drew1 HB.out)
    clear HO_326000
    clear BK324
    clear BK325
    clear HI0
    clear HK
    clear HB
    have HO_326000 := n0_
    have BK324 := n1_
    have BK325 := n2_
    have HI0 := n3_
    have HK := n4_
    have HB := n5_
    clear n0_ n1_ n2_ n3_ n4_ n5_
    refine start_ (n := 10) (S := fun w' => w'.cell? ⟨gb325, 0, none⟩ = some (.slice Ao13 x326000_1.length co13)) (ds := []) #[false, false, false, false, false, false, false, false, false, false] (by kernel_rfl) rfl rfl ((blk_cell BK325.out 0).trans rfl) (fun hHeld => ?_); refine with_tabW spec_l20Table.tab5 spec_l20Table.bits5 (fun HT_ HW_ => ?_)
    generalize wr.drew = w14 at HO_326000 BK324 BK325 HI0 HK HB hHeld ⊢
    refine pure_ (i := 1) (N := some 18) (v := ?_) (a' := ?_) #[false, true, false, false, false, false, false, false, false, false] rfl rfl (any_of HT_.out (by kernel_rfl)) (fun _ _ _ h => h) (Or.inl ⟨by rfl, ?_⟩) ?_ ?_
    rotate_left
    ·intro w'
     go_simp
     with_reducible rfl
    rotate_left
    ·simp only [Act.put, List.setIfInBounds_toArray, List.set_cons_zero, List.set_cons_succ, i64_w, i32_w]
     rfl
    refine take_ (i := 0) (N := some 17) (v := ?_) (a' := ?_) #[true, true, false, false, false, false, false, false, false, false] rfl rfl (take_ofW HT_.out HW_.out (by kernel_rfl)) (fun _ _ _ h => h) (Or.inl ⟨by rfl, ?_⟩) hHeld ?_ ?_
    rotate_left
    ·intro w' s0
     go_simp
     with_reducible rfl
    rotate_left
    ·simp only [Act.put, List.setIfInBounds_toArray, List.set_cons_zero, List.set_cons_succ, i64_w, i32_w]
     rfl
    refine join_ (σ := Value × Nat) 2 #[true, true, true, true, true, true, true, true, false, false] (fun s_ => [(19, .agg #[.int .i64 t328, .int .i64 t329]), (20, .tuple #[.agg #[s_.1], .int .i64 t334]), (7, .pointer (some ⟨s_.2, 0, none⟩)), (16, .tuple #[.agg #[s_.1], .int .i64 t334]), (21, .agg #[s_.1]), (22, .int .i64 t334)]) (fun s_ w' => (w'.cell? ⟨gb325, 0, none⟩ = some (.slice Ao13 x326000_1.length co13)) ∧ (Kd.R k80 80 w' w.heap.size (fun k_ => some k_ ≠ (.slice Ao13 x326000_1.length co13 : Value).ownBlock) s_.1 t331) ∧ (Kd.R k80 80 w' w.heap.size (fun k_ => some k_ ≠ (s_.1 : Value).ownBlock) (.slice Ao13 x326000_1.length co13) x326000_1) ∧ (w'.heap[gb324]? = some (.cells #[.slice none 0 0] 61 (0, 0))) ∧ (w'.heap[gb325]? = some (.cells #[.slice Ao13 x326000_1.length co13] 61 (0, 0))) ∧ (w'.heap[s_.2]? = some (.cells #[.slice none 0 0] 61 (0, 0))) ∧ (w.heap.size ≤ s_.2) ∧ (w0.heap.size ≤ s_.2) ∧ (g ≠ s_.2) ∧ (s_.2 ≠ g) ∧ (gb324 ≠ s_.2) ∧ (s_.2 ≠ gb324) ∧ (gb325 ≠ s_.2) ∧ (s_.2 ≠ gb325) ∧ (IsS76 w0 w' g s0_0 t330) ∧ (KeepBut w w' g none) ∧ (Below w0.heap.size w0 w')) ?_ ?_
    rotate_left
    ·intro hCont
     refine two_ (i := 2) (j := 7) (Ni := some 19) (Nj := some 7) #[true, true, true, false, false, false, false, false, false, false] #[true, true, false, false, false, false, false, true, false, false] rfl rfl rfl rfl (two_of HT_.out (by kernel_rfl)) (by decide) (by decide) (fun K hK => ?_) (fun K hK => ?_)
     ·skip
      refine goes_ Try.func66 (by kernel_rfl) rfl #[.pointer (some ⟨g, 0, none⟩)] (by rfl) rfl rfl Z75 ?_
      with_reducible refine (spec_l20In.calls k1 g s0_0 x1001_1 t328 t329 t330 w0 _ ?side1 ?side2 A11.out).mono ?_
      (case side1 => exact Z135)
      (case side2 => exact Z146)
      rintro e w15 ⟨rfl, hi, hb, hk⟩
      refine ⟨_, rfl, ?_⟩
      have n0_ := Aside0.mk (Kd.R_mono (Kd.R_keep (IsS76.apart (show IsS76 w0 _ g s0_0 x1001_1 from by repeat (first | (with_reducible first | exact HI0.out | apply IsS76.alloc | apply IsS76.drewN | apply IsS76.drew | apply IsS76.set_1 | refine IsS76.far ?_ NB0_324.out _ | refine IsS76.far ?_ NB0_325.out _) | exact HI0.out)) Z35 (by decide)) hk (fun _ h => h.2)) (fun _ h => h.1))
      have n1_ := Aside0.mk (KeepBut.blk hk (g' := gb324) (o := .cells #[.slice none 0 0] 61 (0, 0)) Z54 NB324_0.out (by simp))
      have n2_ := Aside0.mk (KeepBut.blk hk (g' := gb325) (o := .cells #[.slice Ao13 x326000_1.length co13] 61 (0, 0)) Z55 NB325_0.out (by simp))
      have n3_ := Aside0.mk (KeepBut.trans Z131 hk (.inl rfl))
      have n4_ := Aside0.mk (hb)
      have n5_ := Aside0.mk (hi)
      clear HO_326000
      clear BK324
      clear BK325
      clear HK
      clear HB
      clear HI0
      have HO_326000 := n0_
      have BK324 := n1_
      have BK325 := n2_
      have HK := n3_
      have HB := n4_
      have HI0 := n5_
      clear n0_ n1_ n2_ n3_ n4_ n5_
      (try clear hb)
      (try clear hb2)
      (try clear hk)
      (try clear hi)
      refine hK.out _ _ ((blk_cell BK325.out 0).trans rfl) (fun hHeld => ?_)
      clear hK K
      refine norm_ (a' := ?_) ?_ ?_
      rotate_left
      ·show Act.put _ (some 19) _ = _
       simp only [Act.put, List.setIfInBounds_toArray, List.set_cons_zero, List.set_cons_succ, i64_w, i32_w]
       rfl
      refine two_ (i := 3) (j := 7) (Ni := some 20) (Nj := some 7) #[true, true, true, true, false, false, false, false, false, false] #[true, true, true, false, false, false, false, true, false, false] rfl rfl rfl rfl (two_of HT_.out (by kernel_rfl)) (by decide) (by decide) (fun K hK => ?_) (fun K hK => ?_)
      ·skip
       refine goes_ Try.func65 (by kernel_rfl) rfl #[.agg #[.slice Ao13 x326000_1.length co13], .agg #[.int .i64 t328, .int .i64 t329]] (by rfl) rfl rfl Z75 ?_
       with_reducible refine (spec_MapPut.calls k1 _ _ x326000_1 t328 t329 t331 t334 _ ?side1 ?side2 A12.out).mono ?_
       (case side1 => exact Z109)
       (case side2 => exact (Kd.R_reads' HO_326000.out).2.1)
       rintro e w16 ⟨v332, rfl, ho0, hb⟩
       refine ⟨_, rfl, ?_⟩
       have n0_ := Aside0.mk (Kd.R_elder' Z35 (Kd.R_base ho0) hb)
       have n1_ := Aside0.mk (Kd.R_lower (Kd.R_new' ho0 (Kd.R_lt Z35)) (keep_size (w := w) (g := g) (row := none) Z131))
       have n2_ := Aside0.mk (blk_below (g := gb324) (o := .cells #[.slice none 0 0] 61 (0, 0)) Z54 hb)
       have n3_ := Aside0.mk (blk_below (g := gb325) (o := .cells #[.slice Ao13 x326000_1.length co13] 61 (0, 0)) Z55 hb)
       have n4_ := Aside0.mk (IsS76.below Z136 hb)
       have n5_ := Aside0.mk (KeepBut.trans Z131 (KeepBut.of_below hb g none) (.inl rfl))
       have n6_ := Aside0.mk (below_step Z147 hb)
       clear HO_326000
       clear BK324
       clear BK325
       clear HI0
       clear HK
       clear HB
       have HO_326000 := n0_
       have HO333 := n1_
       have BK324 := n2_
       have BK325 := n3_
       have HI0 := n4_
       have HK := n5_
       have HB := n6_
       clear n0_ n1_ n2_ n3_ n4_ n5_ n6_
       (try clear hb)
       (try clear hb2)
       (try clear hk)
       (try clear hi)
       (try clear ho0)
       refine hK.out _ _ ((blk_cell BK325.out 0).trans rfl) (fun hHeld => ?_)
       clear hK K
       refine norm_ (a' := ?_) ?_ ?_
       rotate_left
       ·show Act.put _ (some 20) _ = _
        simp only [Act.put, List.setIfInBounds_toArray, List.set_cons_zero, List.set_cons_succ, i64_w, i32_w]
        rfl
       refine pure_ (i := 4) (N := some 16) (v := ?_) (a' := ?_) #[true, true, true, true, true, false, false, false, false, false] rfl rfl (any_of HT_.out (by kernel_rfl)) (fun _ _ _ h => h) (Or.inl ⟨by rfl, ?_⟩) ?_ ?_
       rotate_left
       ·intro w'
        go_simp
        with_reducible rfl
       rotate_left
       ·simp only [Act.put, List.setIfInBounds_toArray, List.set_cons_zero, List.set_cons_succ, i64_w, i32_w]
        rfl
       refine pure_ (i := 5) (N := some 21) (v := ?_) (a' := ?_) #[true, true, true, true, true, true, false, false, false, false] rfl rfl (any_of HT_.out (by kernel_rfl)) (fun _ _ _ h => h) (Or.inl ⟨by rfl, ?_⟩) ?_ ?_
       rotate_left
       ·intro w'
        go_simp
        with_reducible rfl
       rotate_left
       ·simp only [Act.put, List.setIfInBounds_toArray, List.set_cons_zero, List.set_cons_succ, i64_w, i32_w]
        rfl
       refine pure_ (i := 6) (N := some 22) (v := ?_) (a' := ?_) #[true, true, true, true, true, true, true, false, false, false] rfl rfl (any_of HT_.out (by kernel_rfl)) (fun _ _ _ h => h) (Or.inl ⟨by rfl, ?_⟩) ?_ ?_
       rotate_left
       ·intro w'
        go_simp
        with_reducible rfl
       rotate_left
       ·simp only [Act.put, List.setIfInBounds_toArray, List.set_cons_zero, List.set_cons_succ, i64_w, i32_w]
        rfl
       refine one_ (i := 7) (N := some 7) #[true, true, true, true, true, true, true, true, false, false] rfl rfl (one_of HT_.out (by kernel_rfl)) (by decide) (fun K hK => ?_)
       refine box_step ?hg (N := 7) ?hd (cs := #[.slice none 0 0]) (t := 61) ?hr ?_; (case hd => rfl); (case hg => rfl); (case hr => first | (go_simp; done) | (go_simp; rfl))
       intro gb335 hg w17 hbox hb
       have n0_ := Aside0.mk (Kd.R_below Z35 hb)
       have n1_ := Aside0.mk (Kd.R_below (by (with_reducible repeat (first | apply Kd.R_alloc | apply Kd.R_drewN | apply Kd.R_drew)); exact HO333.out) hb)
       have n2_ := Aside0.mk (blk_below (g := gb324) (o := .cells #[.slice none 0 0] 61 (0, 0)) Z54 hb)
       have n3_ := Aside0.mk (blk_below (g := gb325) (o := .cells #[.slice Ao13 x326000_1.length co13] 61 (0, 0)) Z55 hb)
       have n4_ := Aside0.mk (IsS76.below Z136 hb)
       have n5_ := Aside0.mk (KeepBut.trans Z131 (KeepBut.of_below hb g none) (.inl rfl))
       have n6_ := Aside0.mk (below_step Z147 hb)
       have n7_ := Aside0.mk (hbox)
       have n8_ := Aside0.mk ((Z194 : w.heap.size ≤ gb335))
       have n9_ := Aside0.mk ((Nat.le_trans HW0.out (Z194 : w.heap.size ≤ gb335) : w0.heap.size ≤ gb335))
       have n10_ := Aside0.mk ((Z195 : gb324 ≠ gb335))
       have n11_ := Aside0.mk ((Z196 : gb335 ≠ gb324))
       have n12_ := Aside0.mk ((Z225 : gb325 ≠ gb335))
       have n13_ := Aside0.mk ((Z226 : gb335 ≠ gb325))
       have n14_ := Aside0.mk ((Z168 : g ≠ gb335))
       have n15_ := Aside0.mk ((Z169 : gb335 ≠ g))
       clear HO_326000
       clear HO333
       clear BK324
       clear BK325
       clear HI0
       clear HK
       clear HB
       have HO_326000 := n0_
       have HO333 := n1_
       have BK324 := n2_
       have BK325 := n3_
       have HI0 := n4_
       have HK := n5_
       have HB := n6_
       have BK335 := n7_
       have GW335 := n8_
       have GE335 := n9_
       have NB324_335 := n10_
       have NB335_324 := n11_
       have NB325_335 := n12_
       have NB335_325 := n13_
       have NB0_335 := n14_
       have NB335_0 := n15_
       clear n0_ n1_ n2_ n3_ n4_ n5_ n6_ n7_ n8_ n9_ n10_ n11_ n12_ n13_ n14_ n15_
       clear hb hbox hg
       refine hK.out _ _ ((blk_cell BK325.out 0).trans rfl) (fun hHeld => ?_)
       clear hK K
       refine norm_ (a' := ?_) ?_ ?_
       rotate_left
       ·show Act.put _ (some 7) _ = _
        simp only [Act.put, List.setIfInBounds_toArray, List.set_cons_zero, List.set_cons_succ, i64_w, i32_w]
        rfl
       exact norm_ Z18 (hCont (v332, gb335) _ ⟨hHeld, Z72, Z74, Z54, Z55, Z56, GW335.out, GE335.out, NB0_335.out, NB335_0.out, NB324_335.out, NB335_324.out, NB325_335.out, NB335_325.out, Z154, Z148, Z159⟩)
      ·skip
       refine box_step ?hg (N := 7) ?hd (cs := #[.slice none 0 0]) (t := 61) ?hr ?_; (case hd => rfl); (case hg => rfl); (case hr => first | (go_simp; done) | (go_simp; rfl))
       intro gb335 hg w16 hbox hb
       have n0_ := Aside0.mk (Kd.R_below Z35 hb)
       have n1_ := Aside0.mk (blk_below (g := gb324) (o := .cells #[.slice none 0 0] 61 (0, 0)) Z54 hb)
       have n2_ := Aside0.mk (blk_below (g := gb325) (o := .cells #[.slice Ao13 x326000_1.length co13] 61 (0, 0)) Z55 hb)
       have n3_ := Aside0.mk (IsS76.below Z136 hb)
       have n4_ := Aside0.mk (KeepBut.trans Z131 (KeepBut.of_below hb g none) (.inl rfl))
       have n5_ := Aside0.mk (below_step Z147 hb)
       have n6_ := Aside0.mk (hbox)
       have n7_ := Aside0.mk ((Z194 : w.heap.size ≤ gb335))
       have n8_ := Aside0.mk ((Nat.le_trans HW0.out (Z194 : w.heap.size ≤ gb335) : w0.heap.size ≤ gb335))
       have n9_ := Aside0.mk ((Z195 : gb324 ≠ gb335))
       have n10_ := Aside0.mk ((Z196 : gb335 ≠ gb324))
       have n11_ := Aside0.mk ((Z225 : gb325 ≠ gb335))
       have n12_ := Aside0.mk ((Z226 : gb335 ≠ gb325))
       have n13_ := Aside0.mk ((Z168 : g ≠ gb335))
       have n14_ := Aside0.mk ((Z169 : gb335 ≠ g))
       clear HO_326000
       clear BK324
       clear BK325
       clear HI0
       clear HK
       clear HB
       have HO_326000 := n0_
       have BK324 := n1_
       have BK325 := n2_
       have HI0 := n3_
       have HK := n4_
       have HB := n5_
       have BK335 := n6_
       have GW335 := n7_
       have GE335 := n8_
       have NB324_335 := n9_
       have NB335_324 := n10_
       have NB325_335 := n11_
       have NB335_325 := n12_
       have NB0_335 := n13_
       have NB335_0 := n14_
       clear n0_ n1_ n2_ n3_ n4_ n5_ n6_ n7_ n8_ n9_ n10_ n11_ n12_ n13_ n14_
       clear hb hbox hg
       refine hK.out _ _ ((blk_cell BK325.out 0).trans rfl) (fun hHeld => ?_)
       clear hK K
       refine norm_ (a' := ?_) ?_ ?_
       rotate_left
       ·show Act.put _ (some 7) _ = _
        simp only [Act.put, List.setIfInBounds_toArray, List.set_cons_zero, List.set_cons_succ, i64_w, i32_w]
        rfl
       refine one_ (i := 3) (N := some 20) #[true, true, true, true, false, false, false, true, false, false] rfl rfl (one_of HT_.out (by kernel_rfl)) (by decide) (fun K hK => ?_)
       refine goes_ Try.func65 (by kernel_rfl) rfl #[.agg #[.slice Ao13 x326000_1.length co13], .agg #[.int .i64 t328, .int .i64 t329]] (by rfl) rfl rfl Z75 ?_
       with_reducible refine (spec_MapPut.calls k1 _ _ x326000_1 t328 t329 t331 t334 _ ?side1 ?side2 A12.out).mono ?_
       (case side1 => exact Z109)
       (case side2 => exact (Kd.R_reads' HO_326000.out).2.1)
       rintro e w17 ⟨v332, rfl, ho0, hb⟩
       refine ⟨_, rfl, ?_⟩
       have n0_ := Aside0.mk (Kd.R_elder' Z35 (Kd.R_base ho0) hb)
       have n1_ := Aside0.mk (Kd.R_lower (Kd.R_new' ho0 (Kd.R_lt Z35)) (keep_size (w := w) (g := g) (row := none) Z148))
       have n2_ := Aside0.mk (blk_below (g := gb324) (o := .cells #[.slice none 0 0] 61 (0, 0)) Z54 hb)
       have n3_ := Aside0.mk (blk_below (g := gb325) (o := .cells #[.slice Ao13 x326000_1.length co13] 61 (0, 0)) Z55 hb)
       have n4_ := Aside0.mk (IsS76.below Z154 hb)
       have n5_ := Aside0.mk (blk_below (g := gb335) (o := .cells #[.slice none 0 0] 61 (0, 0)) Z56 hb)
       have n6_ := Aside0.mk (KeepBut.trans Z148 (KeepBut.of_below hb g none) (.inl rfl))
       have n7_ := Aside0.mk (below_step Z159 hb)
       clear HO_326000
       clear BK324
       clear BK325
       clear HI0
       clear BK335
       clear HK
       clear HB
       have HO_326000 := n0_
       have HO333 := n1_
       have BK324 := n2_
       have BK325 := n3_
       have HI0 := n4_
       have BK335 := n5_
       have HK := n6_
       have HB := n7_
       clear n0_ n1_ n2_ n3_ n4_ n5_ n6_ n7_
       (try clear hb)
       (try clear hb2)
       (try clear hk)
       (try clear hi)
       (try clear ho0)
       refine hK.out _ _ ((blk_cell BK325.out 0).trans rfl) (fun hHeld => ?_)
       clear hK K
       refine norm_ (a' := ?_) ?_ ?_
       rotate_left
       ·show Act.put _ (some 20) _ = _
        simp only [Act.put, List.setIfInBounds_toArray, List.set_cons_zero, List.set_cons_succ, i64_w, i32_w]
        rfl
       refine pure_ (i := 4) (N := some 16) (v := ?_) (a' := ?_) #[true, true, true, true, true, false, false, true, false, false] rfl rfl (any_of HT_.out (by kernel_rfl)) (fun _ _ _ h => h) (Or.inl ⟨by rfl, ?_⟩) ?_ ?_
       rotate_left
       ·intro w'
        go_simp
        with_reducible rfl
       rotate_left
       ·simp only [Act.put, List.setIfInBounds_toArray, List.set_cons_zero, List.set_cons_succ, i64_w, i32_w]
        rfl
       refine pure_ (i := 5) (N := some 21) (v := ?_) (a' := ?_) #[true, true, true, true, true, true, false, true, false, false] rfl rfl (any_of HT_.out (by kernel_rfl)) (fun _ _ _ h => h) (Or.inl ⟨by rfl, ?_⟩) ?_ ?_
       rotate_left
       ·intro w'
        go_simp
        with_reducible rfl
       rotate_left
       ·simp only [Act.put, List.setIfInBounds_toArray, List.set_cons_zero, List.set_cons_succ, i64_w, i32_w]
        rfl
       refine pure_ (i := 6) (N := some 22) (v := ?_) (a' := ?_) #[true, true, true, true, true, true, true, true, false, false] rfl rfl (any_of HT_.out (by kernel_rfl)) (fun _ _ _ h => h) (Or.inl ⟨by rfl, ?_⟩) ?_ ?_
       rotate_left
       ·intro w'
        go_simp
        with_reducible rfl
       rotate_left
       ·simp only [Act.put, List.setIfInBounds_toArray, List.set_cons_zero, List.set_cons_succ, i64_w, i32_w]
        rfl
       exact norm_ Z18 (hCont (v332, gb335) _ ⟨hHeld, Z72, Z74, Z54, Z55, Z56, GW335.out, GE335.out, NB0_335.out, NB335_0.out, NB324_335.out, NB335_324.out, NB325_335.out, NB335_325.out, Z154, Z148, Z159⟩)
     ·skip
      refine box_step ?hg (N := 7) ?hd (cs := #[.slice none 0 0]) (t := 61) ?hr ?_; (case hd => rfl); (case hg => rfl); (case hr => first | (go_simp; done) | (go_simp; rfl))
      intro gb335 hg w15 hbox hb
      have n0_ := Aside0.mk (Kd.R_below Z35 hb)
      have n1_ := Aside0.mk (blk_below (g := gb324) (o := .cells #[.slice none 0 0] 61 (0, 0)) Z54 hb)
      have n2_ := Aside0.mk (blk_below (g := gb325) (o := .cells #[.slice Ao13 x326000_1.length co13] 61 (0, 0)) Z55 hb)
      have n3_ := Aside0.mk (IsS76.below Z136 hb)
      have n4_ := Aside0.mk (KeepBut.trans Z131 (KeepBut.of_below hb g none) (.inl rfl))
      have n5_ := Aside0.mk (below_step Z147 hb)
      have n6_ := Aside0.mk (hbox)
      have n7_ := Aside0.mk ((Z194 : w.heap.size ≤ gb335))
      have n8_ := Aside0.mk ((Nat.le_trans HW0.out (Z194 : w.heap.size ≤ gb335) : w0.heap.size ≤ gb335))
      have n9_ := Aside0.mk ((Z195 : gb324 ≠ gb335))
      have n10_ := Aside0.mk ((Z196 : gb335 ≠ gb324))
      have n11_ := Aside0.mk ((Z225 : gb325 ≠ gb335))
      have n12_ := Aside0.mk ((Z226 : gb335 ≠ gb325))
      have n13_ := Aside0.mk ((by rw [hg]; exact Nat.ne_of_lt (IsS76.lt (show IsS76 w0 _ g s0_0 x1001_1 from by repeat (first | (with_reducible first | exact HI0.out | apply IsS76.alloc | apply IsS76.drewN | apply IsS76.drew | apply IsS76.set_1 | refine IsS76.far ?_ NB0_324.out _ | refine IsS76.far ?_ NB0_325.out _) | exact HI0.out))) : g ≠ gb335))
      have n14_ := Aside0.mk ((by rw [hg]; exact Nat.ne_of_gt (IsS76.lt (show IsS76 w0 _ g s0_0 x1001_1 from by repeat (first | (with_reducible first | exact HI0.out | apply IsS76.alloc | apply IsS76.drewN | apply IsS76.drew | apply IsS76.set_1 | refine IsS76.far ?_ NB0_324.out _ | refine IsS76.far ?_ NB0_325.out _) | exact HI0.out))) : gb335 ≠ g))
      clear HO_326000
      clear BK324
      clear BK325
      clear HI0
      clear HK
      clear HB
      have HO_326000 := n0_
      have BK324 := n1_
      have BK325 := n2_
      have HI0 := n3_
      have HK := n4_
      have HB := n5_
      have BK335 := n6_
      have GW335 := n7_
      have GE335 := n8_
      have NB324_335 := n9_
      have NB335_324 := n10_
      have NB325_335 := n11_
      have NB335_325 := n12_
      have NB0_335 := n13_
      have NB335_0 := n14_
      clear n0_ n1_ n2_ n3_ n4_ n5_ n6_ n7_ n8_ n9_ n10_ n11_ n12_ n13_ n14_
      clear hb hbox hg
      refine hK.out _ _ ((blk_cell BK325.out 0).trans rfl) (fun hHeld => ?_)
      clear hK K
      refine norm_ (a' := ?_) ?_ ?_
      rotate_left
      ·show Act.put _ (some 7) _ = _
       simp only [Act.put, List.setIfInBounds_toArray, List.set_cons_zero, List.set_cons_succ, i64_w, i32_w]
       rfl
      refine one_ (i := 2) (N := some 19) #[true, true, true, false, false, false, false, true, false, false] rfl rfl (one_of HT_.out (by kernel_rfl)) (by decide) (fun K hK => ?_)
      refine goes_ Try.func66 (by kernel_rfl) rfl #[.pointer (some ⟨g, 0, none⟩)] (by rfl) rfl rfl Z75 ?_
      with_reducible refine (spec_l20In.calls k1 g s0_0 x1001_1 t328 t329 t330 w0 _ ?side1 ?side2 A11.out).mono ?_
      (case side1 => repeat (first | (with_reducible first | exact HI0.out | apply IsS76.alloc | apply IsS76.drewN | apply IsS76.drew | apply IsS76.set_1 | refine IsS76.far ?_ NB0_324.out _ | refine IsS76.far ?_ NB0_325.out _ | refine IsS76.far ?_ NB0_335.out _) | exact HI0.out))
      (case side2 => repeat (first | (with_reducible first | exact HB.out | apply below_alloc | apply pw_below_drewN | apply below_drew1 | refine below_set ?_ (IsS76.ge HI0.out) | refine below_set ?_ GE324.out | refine below_set ?_ GE325.out | refine below_set ?_ GE335.out) | exact HB.out))
      rintro e w16 ⟨rfl, hi, hb, hk⟩
      refine ⟨_, rfl, ?_⟩
      have n0_ := Aside0.mk (Kd.R_mono (Kd.R_keep (IsS76.apart (show IsS76 w0 _ g s0_0 x1001_1 from by repeat (first | (with_reducible first | exact HI0.out | apply IsS76.alloc | apply IsS76.drewN | apply IsS76.drew | apply IsS76.set_1 | refine IsS76.far ?_ NB0_324.out _ | refine IsS76.far ?_ NB0_325.out _ | refine IsS76.far ?_ NB0_335.out _) | exact HI0.out)) Z35 (by decide)) hk (fun _ h => h.2)) (fun _ h => h.1))
      have n1_ := Aside0.mk (KeepBut.blk hk (g' := gb324) (o := .cells #[.slice none 0 0] 61 (0, 0)) Z54 NB324_0.out (by simp))
      have n2_ := Aside0.mk (KeepBut.blk hk (g' := gb325) (o := .cells #[.slice Ao13 x326000_1.length co13] 61 (0, 0)) Z55 NB325_0.out (by simp))
      have n3_ := Aside0.mk (KeepBut.blk hk (g' := gb335) (o := .cells #[.slice none 0 0] 61 (0, 0)) Z56 NB335_0.out (by simp))
      have n4_ := Aside0.mk (KeepBut.trans Z148 hk (.inl rfl))
      have n5_ := Aside0.mk (hb)
      have n6_ := Aside0.mk (hi)
      clear HO_326000
      clear BK324
      clear BK325
      clear BK335
      clear HK
      clear HB
      clear HI0
      have HO_326000 := n0_
      have BK324 := n1_
      have BK325 := n2_
      have BK335 := n3_
      have HK := n4_
      have HB := n5_
      have HI0 := n6_
      clear n0_ n1_ n2_ n3_ n4_ n5_ n6_
      (try clear hb)
      (try clear hb2)
      (try clear hk)
      (try clear hi)
      refine hK.out _ _ ((blk_cell BK325.out 0).trans rfl) (fun hHeld => ?_)
      clear hK K
      refine norm_ (a' := ?_) ?_ ?_
      rotate_left
      ·show Act.put _ (some 19) _ = _
       simp only [Act.put, List.setIfInBounds_toArray, List.set_cons_zero, List.set_cons_succ, i64_w, i32_w]
       rfl
      refine one_ (i := 3) (N := some 20) #[true, true, true, true, false, false, false, true, false, false] rfl rfl (one_of HT_.out (by kernel_rfl)) (by decide) (fun K hK => ?_)
      refine goes_ Try.func65 (by kernel_rfl) rfl #[.agg #[.slice Ao13 x326000_1.length co13], .agg #[.int .i64 t328, .int .i64 t329]] (by rfl) rfl rfl Z75 ?_
      with_reducible refine (spec_MapPut.calls k1 _ _ x326000_1 t328 t329 t331 t334 _ ?side1 ?side2 A12.out).mono ?_
      (case side1 => exact Z109)
      (case side2 => exact (Kd.R_reads' HO_326000.out).2.1)
      rintro e w17 ⟨v332, rfl, ho0, hb⟩
      refine ⟨_, rfl, ?_⟩
      have n0_ := Aside0.mk (Kd.R_elder' Z35 (Kd.R_base ho0) hb)
      have n1_ := Aside0.mk (Kd.R_lower (Kd.R_new' ho0 (Kd.R_lt Z35)) (keep_size (w := w) (g := g) (row := none) Z148))
      have n2_ := Aside0.mk (blk_below (g := gb324) (o := .cells #[.slice none 0 0] 61 (0, 0)) Z54 hb)
      have n3_ := Aside0.mk (blk_below (g := gb325) (o := .cells #[.slice Ao13 x326000_1.length co13] 61 (0, 0)) Z55 hb)
      have n4_ := Aside0.mk (IsS76.below Z154 hb)
      have n5_ := Aside0.mk (blk_below (g := gb335) (o := .cells #[.slice none 0 0] 61 (0, 0)) Z56 hb)
      have n6_ := Aside0.mk (KeepBut.trans Z148 (KeepBut.of_below hb g none) (.inl rfl))
      have n7_ := Aside0.mk (below_step Z159 hb)
      clear HO_326000
      clear BK324
      clear BK325
      clear HI0
      clear BK335
      clear HK
      clear HB
      have HO_326000 := n0_
      have HO333 := n1_
      have BK324 := n2_
      have BK325 := n3_
      have HI0 := n4_
      have BK335 := n5_
      have HK := n6_
      have HB := n7_
      clear n0_ n1_ n2_ n3_ n4_ n5_ n6_ n7_
      (try clear hb)
      (try clear hb2)
      (try clear hk)
      (try clear hi)
      (try clear ho0)
      refine hK.out _ _ ((blk_cell BK325.out 0).trans rfl) (fun hHeld => ?_)
      clear hK K
      refine norm_ (a' := ?_) ?_ ?_
      rotate_left
      ·show Act.put _ (some 20) _ = _
       simp only [Act.put, List.setIfInBounds_toArray, List.set_cons_zero, List.set_cons_succ, i64_w, i32_w]
       rfl
      refine pure_ (i := 4) (N := some 16) (v := ?_) (a' := ?_) #[true, true, true, true, true, false, false, true, false, false] rfl rfl (any_of HT_.out (by kernel_rfl)) (fun _ _ _ h => h) (Or.inl ⟨by rfl, ?_⟩) ?_ ?_
      rotate_left
      ·intro w'
       go_simp
       with_reducible rfl
      rotate_left
      ·simp only [Act.put, List.setIfInBounds_toArray, List.set_cons_zero, List.set_cons_succ, i64_w, i32_w]
       rfl
      refine pure_ (i := 5) (N := some 21) (v := ?_) (a' := ?_) #[true, true, true, true, true, true, false, true, false, false] rfl rfl (any_of HT_.out (by kernel_rfl)) (fun _ _ _ h => h) (Or.inl ⟨by rfl, ?_⟩) ?_ ?_
      rotate_left
      ·intro w'
       go_simp
       with_reducible rfl
      rotate_left
      ·simp only [Act.put, List.setIfInBounds_toArray, List.set_cons_zero, List.set_cons_succ, i64_w, i32_w]
       rfl
      refine pure_ (i := 6) (N := some 22) (v := ?_) (a' := ?_) #[true, true, true, true, true, true, true, true, false, false] rfl rfl (any_of HT_.out (by kernel_rfl)) (fun _ _ _ h => h) (Or.inl ⟨by rfl, ?_⟩) ?_ ?_
      rotate_left
      ·intro w'
       go_simp
       with_reducible rfl
      rotate_left
      ·simp only [Act.put, List.setIfInBounds_toArray, List.set_cons_zero, List.set_cons_succ, i64_w, i32_w]
       rfl
      exact norm_ Z18 (hCont (v332, gb335) _ ⟨hHeld, Z72, Z74, Z54, Z55, Z56, GW335.out, GE335.out, NB0_335.out, NB335_0.out, NB324_335.out, NB335_324.out, NB325_335.out, NB335_325.out, Z154, Z148, Z159⟩)
    rintro ⟨v332, gb335⟩ w18 ⟨hS_, h0_, h1_, h2_, h3_, h4_, h5_, h6_, h7_, h8_, h9_, h10_, h11_, h12_, h13_, h14_, h15_⟩
    have n0_ : Aside0 (Kd.R k80 80 w18 w.heap.size (fun k_ => some k_ ≠ (.slice Ao13 x326000_1.length co13 : Value).ownBlock) v332 t331) := ⟨h0_⟩
    have n1_ : Aside0 (Kd.R k80 80 w18 w.heap.size (fun k_ => some k_ ≠ (v332 : Value).ownBlock) (.slice Ao13 x326000_1.length co13) x326000_1) := ⟨h1_⟩
    have n2_ : Aside0 (w18.heap[gb324]? = some (.cells #[.slice none 0 0] 61 (0, 0))) := ⟨h2_⟩
    have n3_ : Aside0 (w18.heap[gb325]? = some (.cells #[.slice Ao13 x326000_1.length co13] 61 (0, 0))) := ⟨h3_⟩
    have n4_ : Aside0 (w18.heap[gb335]? = some (.cells #[.slice none 0 0] 61 (0, 0))) := ⟨h4_⟩
    have n5_ : Aside0 (w.heap.size ≤ gb335) := ⟨h5_⟩
    have n6_ : Aside0 (w0.heap.size ≤ gb335) := ⟨h6_⟩
    have n7_ : Aside0 (g ≠ gb335) := ⟨h7_⟩
    have n8_ : Aside0 (gb335 ≠ g) := ⟨h8_⟩
    have n9_ : Aside0 (gb324 ≠ gb335) := ⟨h9_⟩
    have n10_ : Aside0 (gb335 ≠ gb324) := ⟨h10_⟩
    have n11_ : Aside0 (gb325 ≠ gb335) := ⟨h11_⟩
    have n12_ : Aside0 (gb335 ≠ gb325) := ⟨h12_⟩
    have n13_ : Aside0 (IsS76 w0 w18 g s0_0 t330) := ⟨h13_⟩
    have n14_ : Aside0 (KeepBut w w18 g none) := ⟨h14_⟩
    have n15_ : Aside0 (Below w0.heap.size w0 w18) := ⟨h15_⟩
    clear HO_326000
    clear BK324
    clear BK325
    clear HI0
    clear HK
    clear HB
    clear h0_ h1_ h2_ h3_ h4_ h5_ h6_ h7_ h8_ h9_ h10_ h11_ h12_ h13_ h14_ h15_
    have HO333 := n0_
    have HO_326000 := n1_
    have BK324 := n2_
    have BK325 := n3_
    have BK335 := n4_
    have GW335 := n5_
    have GE335 := n6_
    have NB0_335 := n7_
    have NB335_0 := n8_
    have NB324_335 := n9_
    have NB335_324 := n10_
    have NB325_335 := n11_
    have NB335_325 := n12_
    have HI0 := n13_
    have HK := n14_
    have HB := n15_
    clear n0_ n1_ n2_ n3_ n4_ n5_ n6_ n7_ n8_ n9_ n10_ n11_ n12_ n13_ n14_ n15_
    have hHeld : w18.cell? ⟨gb325, 0, none⟩ = some (.slice Ao13 x326000_1.length co13) := hS_
    obtain ⟨Ao19, co19, eo19⟩ := Kd.R_slice HO333.out
    (first | subst eo19 | (injection eo19 with f1_ f2_ f3_; have f4_ := f1_.symm; have f5_ := f3_.symm; clear f1_ f2_ f3_; subst f4_; subst f5_))
    refine norm_ (a' := ?_) ?_ ?_
    rotate_left
    ·simp only [putAll, Act.put, List.setIfInBounds_toArray, List.set_cons_zero, List.set_cons_succ]
     rfl
    refine one_ (i := 8) (N := none) #[true, true, true, true, true, true, true, true, true, false] rfl rfl (one_of HT_.out (by kernel_rfl)) (by decide) (fun K hK => ?_)
    have hs20 : w18.cell? ⟨gb335, 0, none⟩ = some (.slice none 0 0) := (blk_cell BK335.out 0).trans rfl
    have hfs20 := blk_frozen BK335.out 0
    have hns20_0 := NB324_335.out
    have hns20_1 := NB325_335.out
    have hms20_0 := NB335_324.out
    have hms20_1 := NB335_325.out
    refine skip_ (w1 := ?_) (by rfl) rfl ?_ ?_
    rotate_left
    ·go_simp
     rfl
    refine hK.out _ _ (((cell_far (p := ⟨gb335, _, none⟩) NB325_335.out _).trans (hHeld))) (fun hHeld => ?_)
    clear hK K
    refine pure_ (i := 9) (N := some 8) (v := ?_) (a' := ?_) #[true, true, true, true, true, true, true, true, true, true] rfl rfl (any_of HT_.out (by kernel_rfl)) (fun _ _ _ h => h) (Or.inl ⟨by rfl, ?_⟩) ?_ ?_
    rotate_left
    ·intro w'
     go_simp
     with_reducible rfl
    rotate_left
    ·simp only [Act.put, List.setIfInBounds_toArray, List.set_cons_zero, List.set_cons_succ, i64_w, i32_w]
     rfl
    refine done_ (done_of HT_.out (by kernel_rfl)) ?_
    have hnb21 := NB335_324.out
    have hnc21 := NB324_335.out
    have hnb22 := NB335_325.out
    have hnc22 := NB325_335.out
    have hnb23 := NB335_0.out
    have hnc23 := NB0_335.out
    have hcz24_0 : w18.cell? ⟨gb335, 0, none⟩ = some (.slice none 0 0) := (blk_cell BK335.out 0).trans rfl
    have hfz24_0 := blk_frozen BK335.out 0
    have hnb25 := NB325_324.out
    have hnc25 := NB324_325.out
    have hnb26 := NB325_0.out
    have hnc26 := NB0_325.out
    have hcz27_0 : w18.cell? ⟨gb325, 0, none⟩ = some (.slice Ao13 x326000_1.length co13) := (blk_cell BK325.out 0).trans rfl
    have hfz27_0 := blk_frozen BK325.out 0
    try go_wp2
    go_roundg k1
    case measure => have := HK1.out; omega
    case rel => exact ⟨(wrap64 (x6_1 - 1)), (t330), (t331), (.slice Ao19 t331.length co19), Z0, H', ⟨by have := HK1.out; omega⟩, ⟨by (with_reducible repeat (first | apply Kd.R_alloc | apply Kd.R_drewN | apply Kd.R_drew)); exact Kd.R_mono (Kd.R_far (p := ⟨gb325, 0, none⟩) (Kd.R_far (p := ⟨gb335, 0, none⟩) (Kd.R_types (Kd.R_types HO333.out BK335.out (by decide)) BK325.out (by decide)) (fun _ hk => hk.1.2) (.slice Ao19 t331.length co19)) (fun _ hk => hk.2) (.slice Ao19 t331.length co19)) (fun _ hk => trivial)⟩, ⟨by (with_reducible repeat (first | refine blk_drewN ?_ _ | refine blk_drew ?_ | refine blk_alloc ?_ _)); refine blk_far ?_ NB324_325.out _; (with_reducible repeat (first | refine blk_drewN ?_ _ | refine blk_drew ?_ | refine blk_alloc ?_ _)); refine blk_far ?_ NB324_335.out _; (with_reducible repeat (first | refine blk_drewN ?_ _ | refine blk_drew ?_ | refine blk_alloc ?_ _)); exact BK324.out⟩, ⟨by (with_reducible repeat (first | refine blk_drewN ?_ _ | refine blk_drew ?_ | refine blk_alloc ?_ _)); refine blk_put (cs := #[.slice Ao13 x326000_1.length co13]) ?_ 0 _ rfl; (with_reducible repeat (first | refine blk_drewN ?_ _ | refine blk_drew ?_ | refine blk_alloc ?_ _)); refine blk_far ?_ NB325_335.out _; (with_reducible repeat (first | refine blk_drewN ?_ _ | refine blk_drew ?_ | refine blk_alloc ?_ _)); exact BK325.out⟩, ⟨by repeat (first | (with_reducible first | exact HI0.out | apply IsS76.alloc | apply IsS76.drewN | apply IsS76.drew | apply IsS76.set_1 | refine IsS76.far ?_ NB0_324.out _ | refine IsS76.far ?_ NB0_325.out _ | refine IsS76.far ?_ NB0_335.out _) | exact HI0.out)⟩, ⟨by repeat (first | (with_reducible first | exact HK.out | apply KeepBut.set_ | apply keep_drewN | apply keep_drew | apply keep_alloc | refine keep_far ?_ GW324.out _ | refine keep_far ?_ GW325.out _ | refine keep_far ?_ GW335.out _) | exact HK.out)⟩, ⟨by repeat (first | (with_reducible first | exact HB.out | apply below_alloc | apply pw_below_drewN | apply below_drew1 | refine below_set ?_ (IsS76.ge HI0.out) | refine below_set ?_ GE324.out | refine below_set ?_ GE325.out | refine below_set ?_ GE335.out) | exact HB.out)⟩⟩
   ·rw [if_neg c10] at H
    have c10b0 : decide (0 < x6_1) = false := decide_eq_false c10
    clear c10
    replace H := Option.bind_eq_some_iff.mp H
    obtain ⟨⟨t336, t337⟩, A280, H⟩ := H
    replace H : (if t336 = true then ((spec_l20Rd_pick.f k1 s0_0 t337 3).bind fun bt338 => (if bt338.1 = 0 then ((spec_l20Out.f k1 s0_0 bt338.2).bind fun bt340 => (if x326000_1.length < 8796093022208 then (some ((x326000_1 ++ [(⟨bt340.1, bt340.2.1⟩ : S80)]), bt340.2.2)) else (none))) else (if bt338.1 = 1 then (if x326000_1.length < 8796093022208 then ((some (x326000_1 ++ [(⟨9, 9⟩ : S80)] : List (S80))).bind fun y346 => (if y346.length < 8796093022208 then (some ((y346 ++ [(⟨9, 9⟩ : S80)]), bt338.2)) else (none))) else (none)) else (spec_l20Table.l1 k1 s0_0 bt338.2 x326000_1)))) else (some (x326000_1, t337))) = some (r1, r2) := H
    have A28 := Aside0.mk A280
    clear A280
    by_cases c29 : t336 = true
    ·subst c29
     have H1 : ((spec_l20Rd_pick.f k1 s0_0 t337 3).bind fun bt338 => (if bt338.1 = 0 then ((spec_l20Out.f k1 s0_0 bt338.2).bind fun bt340 => (if x326000_1.length < 8796093022208 then (some ((x326000_1 ++ [(⟨bt340.1, bt340.2.1⟩ : S80)]), bt340.2.2)) else (none))) else (if bt338.1 = 1 then (if x326000_1.length < 8796093022208 then ((some (x326000_1 ++ [(⟨9, 9⟩ : S80)] : List (S80))).bind fun y346 => (if y346.length < 8796093022208 then (some ((y346 ++ [(⟨9, 9⟩ : S80)]), bt338.2)) else (none))) else (none)) else (spec_l20Table.l1 k1 s0_0 bt338.2 x326000_1)))) = some (r1, r2) := by rw [if_pos rfl] at H; exact H
     clear H
     have H := H1
     clear H1
     replace H := Option.bind_eq_some_iff.mp H
     obtain ⟨⟨t338, t339⟩, A300, H⟩ := H
     replace H : (if t338 = 0 then ((spec_l20Out.f k1 s0_0 t339).bind fun bt340 => (if x326000_1.length < 8796093022208 then (some ((x326000_1 ++ [(⟨bt340.1, bt340.2.1⟩ : S80)]), bt340.2.2)) else (none))) else (if t338 = 1 then (if x326000_1.length < 8796093022208 then ((some (x326000_1 ++ [(⟨9, 9⟩ : S80)] : List (S80))).bind fun y346 => (if y346.length < 8796093022208 then (some ((y346 ++ [(⟨9, 9⟩ : S80)]), t339)) else (none))) else (none)) else (spec_l20Table.l1 k1 s0_0 t339 x326000_1))) = some (r1, r2) := H
     have A30 := Aside0.mk A300
     clear A300
     by_cases c31 : t338 = 0
     ·rw [if_pos c31] at H
      have c31b0 : (t338 == 0) = true := beq_iff_eq.mpr c31
      have c31b1 : (t338 != 0) = false := bne_eq_false_iff_eq.mpr c31
      clear c31
      replace H := Option.bind_eq_some_iff.mp H
      obtain ⟨⟨t340, t341, t342⟩, A320, H⟩ := H
      replace H : (if x326000_1.length < 8796093022208 then (some ((x326000_1 ++ [(⟨t340, t341⟩ : S80)]), t342)) else (none)) = some (r1, r2) := H
      have A32 := Aside0.mk A320
      clear A320
      by_cases c33 : x326000_1.length < 8796093022208
      ·rw [if_pos c33] at H
       have LMc33 := Aside0.mk c33
       clear c33
       obtain ⟨y343, hy343⟩ : ∃ y_ : List (S80), y_ = (x326000_1 ++ [(⟨t340, t341⟩ : S80)]) := ⟨_, rfl⟩
       replace H : (some (y343, t342)) = some (r1, r2) := by first | (rw [hy343]; with_reducible exact H) | (have H2_ := (Option.bind_some _ _).symm.trans H; rw [hy343]; with_reducible exact H2_) | (have H2_ := (Option.bind_some _ _).symm.trans H; with_reducible exact H2_) | with_reducible exact H | (rw [hy343]; exact H) | exact H
       have Ny343 := Aside0.mk hy343
       clear hy343
       simp only [Option.some.injEq, Prod.mk.injEq] at H
       obtain ⟨rfl, rfl⟩ := H
       try go_wp2_with (first | ((with_reducible refine gate_callee (f := 63) rfl ?_); refine goesL_ (some 26) rfl rfl Try.func63 (by kernel_rfl) rfl #[.pointer (some ⟨g, 0, none⟩), .int .i64 a1] rfl Z75 ?_; (with_reducible refine (spec_l20Rd_odd.calls k1 g s0_0 x1001_1 a1 true t337 w0 _ ?side1 ?side2 A28.out).mono ?_); (case side1 => exact Z135); (case side2 => exact Z146); rintro e w34 ⟨rfl, hi, hb, hk⟩; refine ⟨_, rfl, ?_⟩; have n0_ := Aside0.mk (Kd.R_mono (Kd.R_keep (IsS76.apart (show IsS76 w0 _ g s0_0 x1001_1 from by repeat (first | (with_reducible first | exact HI0.out | apply IsS76.alloc | apply IsS76.drewN | apply IsS76.drew | apply IsS76.set_1 | refine IsS76.far ?_ NB0_324.out _ | refine IsS76.far ?_ NB0_325.out _) | exact HI0.out)) Z35 (by decide)) hk (fun _ h => h.2)) (fun _ h => h.1)); have n1_ := Aside0.mk (KeepBut.blk hk (g' := gb324) (o := .cells #[.slice none 0 0] 61 (0, 0)) Z54 NB324_0.out (by simp)); have n2_ := Aside0.mk (KeepBut.blk hk (g' := gb325) (o := .cells #[u326000] 61 (0, 0)) Z55 NB325_0.out (by simp)); have n3_ := Aside0.mk (KeepBut.trans Z131 hk (.inl rfl)); have n4_ := Aside0.mk (hb); have n5_ := Aside0.mk (hi); clear HO_326000; clear BK324; clear BK325; clear HK; clear HB; clear HI0; have HO_326000 := n0_; have BK324 := n1_; have BK325 := n2_; have HK := n3_; have HB := n4_; have HI0 := n5_; clear n0_ n1_ n2_ n3_ n4_ n5_; (try clear hb); (try clear hk); (try clear hi)) | ((with_reducible refine gate_callee (f := 49) rfl ?_); refine goesL_ (some 28) rfl rfl Try.func49 (by kernel_rfl) rfl #[.pointer (some ⟨g, 0, none⟩), .int .i64 3] rfl Z75 ?_; (with_reducible refine (spec_l20Rd_pick.calls k1 g s0_0 t337 3 t338 t339 w0 _ ?side1 ?side2 A30.out).mono ?_); (case side1 => exact Z135); (case side2 => exact Z146); rintro e w35 ⟨rfl, hi, hb, hk⟩; refine ⟨_, rfl, ?_⟩; have n0_ := Aside0.mk (Kd.R_mono (Kd.R_keep (IsS76.apart (show IsS76 w0 _ g s0_0 t337 from by repeat (first | (with_reducible first | exact HI0.out | apply IsS76.alloc | apply IsS76.drewN | apply IsS76.drew | apply IsS76.set_1 | refine IsS76.far ?_ NB0_324.out _ | refine IsS76.far ?_ NB0_325.out _) | exact HI0.out)) Z35 (by decide)) hk (fun _ h => h.2)) (fun _ h => h.1)); have n1_ := Aside0.mk (KeepBut.blk hk (g' := gb324) (o := .cells #[.slice none 0 0] 61 (0, 0)) Z54 NB324_0.out (by simp)); have n2_ := Aside0.mk (KeepBut.blk hk (g' := gb325) (o := .cells #[u326000] 61 (0, 0)) Z55 NB325_0.out (by simp)); have n3_ := Aside0.mk (KeepBut.trans Z131 hk (.inl rfl)); have n4_ := Aside0.mk (hb); have n5_ := Aside0.mk (hi); clear HO_326000; clear BK324; clear BK325; clear HK; clear HB; clear HI0; have HO_326000 := n0_; have BK324 := n1_; have BK325 := n2_; have HK := n3_; have HB := n4_; have HI0 := n5_; clear n0_ n1_ n2_ n3_ n4_ n5_; (try clear hb); (try clear hk); (try clear hi)))
       have n0_ := Aside0.mk (Kd.R_drew HO_326000.out)
       have n1_ := Aside0.mk (blk_drew BK324.out)
       have n2_ := Aside0.mk (blk_drew BK325.out)
       have n3_ := Aside0.mk (IsS76.drew HI0.out)
       have n4_ := Aside0.mk (keep_drew HK.out)
       have n5_ := Aside0.mk (below_drew1 HB.out)
       clear HO_326000
       clear BK324
       clear BK325
       clear HI0
       clear HK
       clear HB
       have HO_326000 := n0_
       have BK324 := n1_
       have BK325 := n2_
       have HI0 := n3_
       have HK := n4_
       have HB := n5_
       clear n0_ n1_ n2_ n3_ n4_ n5_
       refine start_ (n := 8) (S := fun w' => w'.cell? ⟨gb325, 0, none⟩ = some (u326000)) (ds := [7]) #[false, false, false, false, false, false, false, false] (by kernel_rfl) rfl rfl ((blk_cell BK325.out 0).trans rfl) (fun hHeld => ?_); refine with_tabW spec_l20Table.tab12 spec_l20Table.bits12 (fun HT_ HW_ => ?_)
       generalize w35.drew = w36 at HO_326000 BK324 BK325 HI0 HK HB hHeld ⊢
       refine pure_ (i := 0) (N := some 45) (v := ?_) (a' := ?_) #[true, false, false, false, false, false, false, false] rfl rfl (any_of HT_.out (by kernel_rfl)) (fun _ _ _ h => h) (Or.inl ⟨by rfl, ?_⟩) ?_ ?_
       rotate_left
       ·intro w'
        go_simp
        with_reducible rfl
       rotate_left
       ·simp only [Act.put, List.setIfInBounds_toArray, List.set_cons_zero, List.set_cons_succ, i64_w, i32_w]
        rfl
       refine pure_ (i := 2) (N := some 47) (v := ?_) (a' := ?_) #[true, false, true, false, false, false, false, false] rfl rfl (any_of HT_.out (by kernel_rfl)) (fun _ _ _ h => h) (Or.inl ⟨by rfl, ?_⟩) ?_ ?_
       rotate_left
       ·intro w'
        go_simp
        with_reducible rfl
       rotate_left
       ·simp only [Act.put, List.setIfInBounds_toArray, List.set_cons_zero, List.set_cons_succ, i64_w, i32_w]
        rfl
       refine take_ (i := 1) (N := some 46) (v := ?_) (a' := ?_) #[true, true, true, false, false, false, false, false] rfl rfl (take_ofW HT_.out HW_.out (by kernel_rfl)) (fun _ _ _ h => h) (Or.inl ⟨by rfl, ?_⟩) hHeld ?_ ?_
       rotate_left
       ·intro w' s0
        go_simp
        with_reducible rfl
       rotate_left
       ·simp only [Act.put, List.setIfInBounds_toArray, List.set_cons_zero, List.set_cons_succ, i64_w, i32_w]
        rfl
       refine one_ (i := 3) (N := some 48) #[true, true, true, true, false, false, false, false] rfl rfl (one_of HT_.out (by kernel_rfl)) (by decide) (fun K hK => ?_)
       refine goes_ Try.func67 (by kernel_rfl) rfl #[.pointer (some ⟨g, 0, none⟩)] (by rfl) rfl rfl Z75 ?_
       with_reducible refine (spec_l20Out.calls k1 g s0_0 t339 t340 t341 t342 w0 _ ?side1 ?side2 A32.out).mono ?_
       (case side1 => exact Z135)
       (case side2 => exact Z146)
       rintro e w37 ⟨rfl, hi, hb, hk⟩
       refine ⟨_, rfl, ?_⟩
       have n0_ := Aside0.mk (Kd.R_mono (Kd.R_keep (IsS76.apart (show IsS76 w0 _ g s0_0 t339 from by repeat (first | (with_reducible first | exact HI0.out | apply IsS76.alloc | apply IsS76.drewN | apply IsS76.drew | apply IsS76.set_1 | refine IsS76.far ?_ NB0_324.out _ | refine IsS76.far ?_ NB0_325.out _) | exact HI0.out)) Z35 (by decide)) hk (fun _ h => h.2)) (fun _ h => h.1))
       have n1_ := Aside0.mk (KeepBut.blk hk (g' := gb324) (o := .cells #[.slice none 0 0] 61 (0, 0)) Z54 NB324_0.out (by simp))
       have n2_ := Aside0.mk (KeepBut.blk hk (g' := gb325) (o := .cells #[u326000] 61 (0, 0)) Z55 NB325_0.out (by simp))
       have n3_ := Aside0.mk (KeepBut.trans Z131 hk (.inl rfl))
       have n4_ := Aside0.mk (hb)
       have n5_ := Aside0.mk (hi)
       clear HO_326000
       clear BK324
       clear BK325
       clear HK
       clear HB
       clear HI0
       have HO_326000 := n0_
       have BK324 := n1_
       have BK325 := n2_
       have HK := n3_
       have HB := n4_
       have HI0 := n5_
       clear n0_ n1_ n2_ n3_ n4_ n5_
       (try clear hb)
       (try clear hb2)
       (try clear hk)
       (try clear hi)
       refine hK.out _ _ ((blk_cell BK325.out 0).trans rfl) (fun hHeld => ?_)
       clear hK K
       refine norm_ (a' := ?_) ?_ ?_
       rotate_left
       ·show Act.put _ (some 48) _ = _
        simp only [Act.put, List.setIfInBounds_toArray, List.set_cons_zero, List.set_cons_succ, i64_w, i32_w]
        rfl
       refine one_ (i := 4) (N := some 49) #[true, true, true, true, true, false, false, false] rfl rfl (one_of HT_.out (by kernel_rfl)) (by decide) (fun K hK => ?_)
       refine value_ (w1 := ?_) (v := ?_) (by rfl) rfl ?_ ?_
       rotate_left 2
       ·go_simp
        constructor
        ·rfl
        ·rfl
       refine hK.out _ _ ((blk_cell (blk_alloc BK325.out _) 0).trans rfl) (fun hHeld => ?_)
       clear hK K
       refine norm_ (a' := ?_) ?_ ?_
       rotate_left
       ·show Act.put _ (some 49) _ = _
        simp only [Act.put, List.setIfInBounds_toArray, List.set_cons_zero, List.set_cons_succ, i64_w, i32_w]
        rfl
       refine one_ (i := 5) (N := some 50) #[true, true, true, true, true, true, false, false] rfl rfl (one_of HT_.out (by kernel_rfl)) (by decide) (fun K hK => ?_)
       refine Kd.R_append_step k80 w.heap.size (by rfl) (.tmp 46) (.tmp 49) 59 80 (.agg #[(.int .i64 0), (.int .i64 0)]) 16 rfl Try.underlying59 info80 rfl (by decide) (by omega) u326000 x326000_1 (⟨t340, t341⟩ : S80) [.int .i64 t340, .int .i64 t341] (fun _ => True) (fun _ => False) rfl rfl ?aP (fun _ hk => hk.elim) ?aF ?aO (Below.refl _ _) ?aS ?aL ?_
       (case aP => exact k80_mkM _ _ _ (⟨t340, t341⟩ : S80))
       (case aF => exact (fun _ _ => trivial))
       (case aO => exact Z35)
       (case aS => exact (keep_size (w := w) (g := g) (row := none) Z131))
       (case aL => have := LMc33.out; omega)
       intro v344 w38 ho hb hg hat
       rw [← Ny343.out] at ho
       have n0_ := Aside0.mk (blk_grown (g := gb324) (o := .cells #[.slice none 0 0] 61 (0, 0)) Z54 hg (Kd.R_ne HO_326000.out BK324.out (by decide)))
       have n1_ := Aside0.mk (blk_grown (g := gb325) (o := .cells #[u326000] 61 (0, 0)) Z55 hg (Kd.R_ne HO_326000.out BK325.out (by decide)))
       have n2_ := Aside0.mk (IsS76.grown Z136 hg (IsS76.own_ne HI0.out HO_326000.out (by decide)))
       have n3_ := Aside0.mk (below_weaken Z147 HL.out hb)
       have n4_ := Aside0.mk (KeepBut.trans Z131 (KeepBut.of_grown hg g) (Kd.R_base2 HO_326000.out))
       have n5_ := Aside0.mk (ho)
       clear BK324
       clear BK325
       clear HI0
       clear HB
       clear HK
       clear HO_326000
       have BK324 := n0_
       have BK325 := n1_
       have HI0 := n2_
       have HB := n3_
       have HK := n4_
       have HO345 := n5_
       clear n0_ n1_ n2_ n3_ n4_ n5_
       clear ho hb hg hat
       obtain ⟨Ao39, co39, eo39⟩ := Kd.R_slice HO345.out
       (first | subst eo39 | (injection eo39 with f1_ f2_ f3_; have f4_ := f1_.symm; have f5_ := f3_.symm; clear f1_ f2_ f3_; subst f4_; subst f5_))
       refine hK.out _ _ ((blk_cell BK325.out 0).trans rfl) (fun hHeld => ?_)
       clear hK K
       refine norm_ (a' := ?_) ?_ ?_
       rotate_left
       ·show Act.put _ (some 50) _ = _
        simp only [Act.put, List.setIfInBounds_toArray, List.set_cons_zero, List.set_cons_succ, i64_w, i32_w]
        rfl
       refine pure_ (i := 6) (N := some 51) (v := ?_) (a' := ?_) #[true, true, true, true, true, true, true, false] rfl rfl (any_of HT_.out (by kernel_rfl)) (fun _ _ _ h => h) (Or.inl ⟨by rfl, ?_⟩) ?_ ?_
       rotate_left
       ·intro w'
        go_simp
        with_reducible rfl
       rotate_left
       ·simp only [Act.put, List.setIfInBounds_toArray, List.set_cons_zero, List.set_cons_succ, i64_w, i32_w]
        rfl
       refine last_ (i := 7) (N := none) #[true, true, true, true, true, true, true, true] rfl rfl (one_of HT_.out (by kernel_rfl)) (by decide) (fun K hK => ?_)
       have hs40 : w38.cell? ⟨gb325, 0, none⟩ = some (u326000) := (blk_cell BK325.out 0).trans rfl
       have hfs40 := blk_frozen BK325.out 0
       have hns40_0 := NB324_325.out
       have hms40_0 := NB325_324.out
       refine skip_ (w1 := ?_) (by rfl) rfl ?_ ?_
       rotate_left
       ·go_simp
        rfl
       refine hK.out _ _ ?_
       clear hK K
       refine done_ (done_of HT_.out (by kernel_rfl)) ?_
       have hnb41 := NB325_324.out
       have hnc41 := NB324_325.out
       have hnb42 := NB325_0.out
       have hnc42 := NB0_325.out
       have hcz43_0 : w38.cell? ⟨gb325, 0, none⟩ = some (u326000) := (blk_cell BK325.out 0).trans rfl
       have hfz43_0 := blk_frozen BK325.out 0
       have hnb44 := NB324_0.out
       have hnc44 := NB0_324.out
       have hcz45_0 : w38.cell? ⟨gb324, 0, none⟩ = some (.slice none 0 0) := (blk_cell BK324.out 0).trans rfl
       have hfz45_0 := blk_frozen BK324.out 0
       try go_wp2
       refine bodyPost_ret (results_cell_row rfl _ _ gb324 61 #[.slice Ao39 y343.length co39] (0, 0) _ rfl Z182 Try.underlying61 rfl (by kernel_rfl)) rfl ?_
       exact ⟨_, by first | rfl | (simp [errW_none, errW_some] <;> rfl) | (simp [*, errW_none, errW_some] <;> rfl), by (with_reducible repeat (first | apply Kd.R_alloc | apply Kd.R_drewN | apply Kd.R_drew)); exact Kd.R_mono (Kd.R_far (p := ⟨gb324, 0, none⟩) (Kd.R_far (p := ⟨gb325, 0, none⟩) (Kd.R_types (Kd.R_types HO345.out BK325.out (by decide)) BK324.out (by decide)) (fun _ hk => hk.1.2) (.slice Ao39 y343.length co39)) (fun _ hk => hk.2) (.slice Ao39 y343.length co39)) (fun _ hk => trivial), by repeat (first | (with_reducible first | exact HI0.out | apply IsS76.alloc | apply IsS76.drewN | apply IsS76.drew | apply IsS76.set_1 | refine IsS76.far ?_ NB0_324.out _ | refine IsS76.far ?_ NB0_325.out _) | exact HI0.out), by repeat (first | (with_reducible first | exact HB.out | apply below_alloc | apply pw_below_drewN | apply below_drew1 | refine below_set ?_ (IsS76.ge HI0.out) | refine below_set ?_ GE324.out | refine below_set ?_ GE325.out) | exact HB.out), by repeat (first | (with_reducible first | exact HK.out | apply KeepBut.set_ | apply keep_drewN | apply keep_drew | apply keep_alloc | refine keep_far ?_ GW324.out _ | refine keep_far ?_ GW325.out _) | exact HK.out)⟩
      ·rw [if_neg c33] at H
       exact absurd H (by simp)
     ·rw [if_neg c31] at H
      have c31b0 : (t338 == 0) = false := beq_eq_false_iff_ne.mpr c31
      have c31b1 : (t338 != 0) = true := bne_iff_ne.mpr c31
      by_cases c46 : t338 = 1
      ·rw [if_pos c46] at H
       have c46b0 : (t338 == 1) = true := beq_iff_eq.mpr c46
       have c46b1 : (t338 != 1) = false := bne_eq_false_iff_eq.mpr c46
       clear c46
       by_cases c47 : x326000_1.length < 8796093022208
       ·rw [if_pos c47] at H
        have LMc47 := Aside0.mk c47
        clear c47
        obtain ⟨y346, hy346⟩ : ∃ y_ : List (S80), y_ = (x326000_1 ++ [(⟨9, 9⟩ : S80)]) := ⟨_, rfl⟩
        replace H : (if y346.length < 8796093022208 then (some ((y346 ++ [(⟨9, 9⟩ : S80)]), t339)) else (none)) = some (r1, r2) := by first | (rw [hy346]; with_reducible exact H) | (have H2_ := (Option.bind_some _ _).symm.trans H; rw [hy346]; with_reducible exact H2_) | (have H2_ := (Option.bind_some _ _).symm.trans H; with_reducible exact H2_) | with_reducible exact H | (rw [hy346]; exact H) | exact H
        have Ny346 := Aside0.mk hy346
        clear hy346
        by_cases c48 : y346.length < 8796093022208
        ·rw [if_pos c48] at H
         have LMc48 := Aside0.mk c48
         clear c48
         obtain ⟨y349, hy349⟩ : ∃ y_ : List (S80), y_ = (y346 ++ [(⟨9, 9⟩ : S80)]) := ⟨_, rfl⟩
         replace H : (some (y349, t339)) = some (r1, r2) := by first | (rw [hy349]; with_reducible exact H) | (have H2_ := (Option.bind_some _ _).symm.trans H; rw [hy349]; with_reducible exact H2_) | (have H2_ := (Option.bind_some _ _).symm.trans H; with_reducible exact H2_) | with_reducible exact H | (rw [hy349]; exact H) | exact H
         have Ny349 := Aside0.mk hy349
         clear hy349
         simp only [Option.some.injEq, Prod.mk.injEq] at H
         obtain ⟨rfl, rfl⟩ := H
         go_wp2_with (first | ((with_reducible refine gate_callee (f := 63) rfl ?_); refine goesL_ (some 26) rfl rfl Try.func63 (by kernel_rfl) rfl #[.pointer (some ⟨g, 0, none⟩), .int .i64 a1] rfl Z75 ?_; (with_reducible refine (spec_l20Rd_odd.calls k1 g s0_0 x1001_1 a1 true t337 w0 _ ?side1 ?side2 A28.out).mono ?_); (case side1 => exact Z135); (case side2 => exact Z146); rintro e w49 ⟨rfl, hi, hb, hk⟩; refine ⟨_, rfl, ?_⟩; have n0_ := Aside0.mk (Kd.R_mono (Kd.R_keep (IsS76.apart (show IsS76 w0 _ g s0_0 x1001_1 from by repeat (first | (with_reducible first | exact HI0.out | apply IsS76.alloc | apply IsS76.drewN | apply IsS76.drew | apply IsS76.set_1 | refine IsS76.far ?_ NB0_324.out _ | refine IsS76.far ?_ NB0_325.out _) | exact HI0.out)) Z35 (by decide)) hk (fun _ h => h.2)) (fun _ h => h.1)); have n1_ := Aside0.mk (KeepBut.blk hk (g' := gb324) (o := .cells #[.slice none 0 0] 61 (0, 0)) Z54 NB324_0.out (by simp)); have n2_ := Aside0.mk (KeepBut.blk hk (g' := gb325) (o := .cells #[u326000] 61 (0, 0)) Z55 NB325_0.out (by simp)); have n3_ := Aside0.mk (KeepBut.trans Z131 hk (.inl rfl)); have n4_ := Aside0.mk (hb); have n5_ := Aside0.mk (hi); clear HO_326000; clear BK324; clear BK325; clear HK; clear HB; clear HI0; have HO_326000 := n0_; have BK324 := n1_; have BK325 := n2_; have HK := n3_; have HB := n4_; have HI0 := n5_; clear n0_ n1_ n2_ n3_ n4_ n5_; (try clear hb); (try clear hk); (try clear hi)) | ((with_reducible refine gate_callee (f := 49) rfl ?_); refine goesL_ (some 28) rfl rfl Try.func49 (by kernel_rfl) rfl #[.pointer (some ⟨g, 0, none⟩), .int .i64 3] rfl Z75 ?_; (with_reducible refine (spec_l20Rd_pick.calls k1 g s0_0 t337 3 t338 t339 w0 _ ?side1 ?side2 A30.out).mono ?_); (case side1 => exact Z135); (case side2 => exact Z146); rintro e w50 ⟨rfl, hi, hb, hk⟩; refine ⟨_, rfl, ?_⟩; have n0_ := Aside0.mk (Kd.R_mono (Kd.R_keep (IsS76.apart (show IsS76 w0 _ g s0_0 t337 from by repeat (first | (with_reducible first | exact HI0.out | apply IsS76.alloc | apply IsS76.drewN | apply IsS76.drew | apply IsS76.set_1 | refine IsS76.far ?_ NB0_324.out _ | refine IsS76.far ?_ NB0_325.out _) | exact HI0.out)) Z35 (by decide)) hk (fun _ h => h.2)) (fun _ h => h.1)); have n1_ := Aside0.mk (KeepBut.blk hk (g' := gb324) (o := .cells #[.slice none 0 0] 61 (0, 0)) Z54 NB324_0.out (by simp)); have n2_ := Aside0.mk (KeepBut.blk hk (g' := gb325) (o := .cells #[u326000] 61 (0, 0)) Z55 NB325_0.out (by simp)); have n3_ := Aside0.mk (KeepBut.trans Z131 hk (.inl rfl)); have n4_ := Aside0.mk (hb); have n5_ := Aside0.mk (hi); clear HO_326000; clear BK324; clear BK325; clear HK; clear HB; clear HI0; have HO_326000 := n0_; have BK324 := n1_; have BK325 := n2_; have HK := n3_; have HB := n4_; have HI0 := n5_; clear n0_ n1_ n2_ n3_ n4_ n5_; (try clear hb); (try clear hk); (try clear hi); have hnb51 := NB325_324.out; have hnc51 := NB324_325.out; have hnb52 := NB325_0.out; have hnc52 := NB0_325.out; have hcz53_0 : w50.cell? ⟨gb325, 0, none⟩ = some (u326000) := (blk_cell BK325.out 0).trans rfl; have hfz53_0 := blk_frozen BK325.out 0) | ((with_reducible refine gate_builtin (b := .append) (xs := #[.tmp 55, .tmp 57]) rfl ?_); at_builtin; refine Kd.R_append k80 w.heap.size rfl (.tmp 55) (.tmp 57) 59 80 (.agg #[(.int .i64 0), (.int .i64 0)]) 16 rfl Try.underlying59 info80 rfl (by decide) (by omega) u326000 x326000_1 (⟨9, 9⟩ : S80) [.int .i64 9, .int .i64 9] (fun _ => True) (fun _ => False) rfl rfl ?aP (fun _ hk => hk.elim) ?aF ?aO (Below.refl _ _) ?aS ?aL ?_; (case aP => exact k80_mkM _ _ _ (⟨9, 9⟩ : S80)); (case aF => exact (fun _ _ => trivial)); (case aO => exact Z35); (case aS => exact (keep_size (w := w) (g := g) (row := none) Z131)); (case aL => have := LMc47.out; omega); intro v347 w54 ho hb hg hat; rw [← Ny346.out] at ho; have n0_ := Aside0.mk (blk_grown (g := gb324) (o := .cells #[.slice none 0 0] 61 (0, 0)) Z54 hg (Kd.R_ne HO_326000.out BK324.out (by decide))); have n1_ := Aside0.mk (blk_grown (g := gb325) (o := .cells #[u326000] 61 (0, 0)) Z55 hg (Kd.R_ne HO_326000.out BK325.out (by decide))); have n2_ := Aside0.mk (IsS76.grown Z136 hg (IsS76.own_ne HI0.out HO_326000.out (by decide))); have n3_ := Aside0.mk (below_weaken Z147 HL.out hb); have n4_ := Aside0.mk (KeepBut.trans Z131 (KeepBut.of_grown hg g) (Kd.R_base2 HO_326000.out)); have n5_ := Aside0.mk (ho); clear BK324; clear BK325; clear HI0; clear HB; clear HK; clear HO_326000; have BK324 := n0_; have BK325 := n1_; have HI0 := n2_; have HB := n3_; have HK := n4_; have HO348 := n5_; clear n0_ n1_ n2_ n3_ n4_ n5_; clear ho hb hg hat) | ((with_reducible refine gate_builtin (b := .append) (xs := #[.tmp 58, .tmp 60]) rfl ?_); at_builtin; refine Kd.R_append k80 w.heap.size rfl (.tmp 58) (.tmp 60) 59 80 (.agg #[(.int .i64 0), (.int .i64 0)]) 16 rfl Try.underlying59 info80 rfl (by decide) (by omega) v347 y346 (⟨9, 9⟩ : S80) [.int .i64 9, .int .i64 9] (fun _ => True) (fun _ => False) rfl rfl ?aP (fun _ hk => hk.elim) ?aF ?aO (Below.refl _ _) ?aS ?aL ?_; (case aP => exact k80_mkM _ _ _ (⟨9, 9⟩ : S80)); (case aF => exact (fun _ _ => trivial)); (case aO => exact (by (with_reducible repeat (first | apply Kd.R_alloc | apply Kd.R_drewN | apply Kd.R_drew)); exact HO348.out)); (case aS => exact (keep_size (w := w) (g := g) (row := none) Z131)); (case aL => have := LMc48.out; omega); intro v350 w55 ho hb hg hat; rw [← Ny349.out] at ho; have n0_ := Aside0.mk (blk_grown (g := gb324) (o := .cells #[.slice none 0 0] 61 (0, 0)) Z54 hg (Kd.R_ne HO348.out BK324.out (by decide))); have n1_ := Aside0.mk (blk_grown (g := gb325) (o := .cells #[u326000] 61 (0, 0)) Z55 hg (Kd.R_ne HO348.out BK325.out (by decide))); have n2_ := Aside0.mk (IsS76.grown Z136 hg (IsS76.own_ne HI0.out HO348.out (by decide))); have n3_ := Aside0.mk (below_weaken Z147 HL.out hb); have n4_ := Aside0.mk (KeepBut.trans Z131 (KeepBut.of_grown hg g) (Kd.R_base2 HO348.out)); have n5_ := Aside0.mk (ho); clear BK324; clear BK325; clear HI0; clear HB; clear HK; clear HO348; have BK324 := n0_; have BK325 := n1_; have HI0 := n2_; have HB := n3_; have HK := n4_; have HO351 := n5_; clear n0_ n1_ n2_ n3_ n4_ n5_; clear ho hb hg hat; obtain ⟨Ao56, co56, eo56⟩ := Kd.R_slice HO351.out; subst eo56; have hcz57_0 : w55.cell? ⟨gb325, 0, none⟩ = some (u326000) := (blk_cell BK325.out 0).trans rfl; have hfz57_0 := blk_frozen BK325.out 0; have hnb58 := NB324_0.out; have hnc58 := NB0_324.out; have hcz59_0 : w55.cell? ⟨gb324, 0, none⟩ = some (.slice none 0 0) := (blk_cell BK324.out 0).trans rfl; have hfz59_0 := blk_frozen BK324.out 0))
         refine bodyPost_ret (results_cell_row rfl _ _ gb324 61 #[.slice Ao56 y349.length co56] (0, 0) _ rfl Z182 Try.underlying61 rfl (by kernel_rfl)) rfl ?_
         exact ⟨_, by first | rfl | (simp [errW_none, errW_some] <;> rfl) | (simp [*, errW_none, errW_some] <;> rfl), by (with_reducible repeat (first | apply Kd.R_alloc | apply Kd.R_drewN | apply Kd.R_drew)); exact Kd.R_mono (Kd.R_far (p := ⟨gb324, 0, none⟩) (Kd.R_far (p := ⟨gb325, 0, none⟩) (Kd.R_types (Kd.R_types HO351.out BK325.out (by decide)) BK324.out (by decide)) (fun _ hk => hk.1.2) (.slice Ao56 y349.length co56)) (fun _ hk => hk.2) (.slice Ao56 y349.length co56)) (fun _ hk => trivial), by repeat (first | (with_reducible first | exact HI0.out | apply IsS76.alloc | apply IsS76.drewN | apply IsS76.drew | apply IsS76.set_1 | refine IsS76.far ?_ NB0_324.out _ | refine IsS76.far ?_ NB0_325.out _) | exact HI0.out), by repeat (first | (with_reducible first | exact HB.out | apply below_alloc | apply pw_below_drewN | apply below_drew1 | refine below_set ?_ (IsS76.ge HI0.out) | refine below_set ?_ GE324.out | refine below_set ?_ GE325.out) | exact HB.out), by repeat (first | (with_reducible first | exact HK.out | apply KeepBut.set_ | apply keep_drewN | apply keep_drew | apply keep_alloc | refine keep_far ?_ GW324.out _ | refine keep_far ?_ GW325.out _) | exact HK.out)⟩
        ·rw [if_neg c48] at H
         exact absurd H (by simp)
       ·rw [if_neg c47] at H
        exact absurd H (by simp)
      ·rw [if_neg c46] at H
       have c46b0 : (t338 == 1) = false := beq_eq_false_iff_ne.mpr c46
       have c46b1 : (t338 != 1) = true := bne_iff_ne.mpr c46
       have H' := Aside0.mk H
       clear H
       go_wp2_with (first | ((with_reducible refine gate_callee (f := 63) rfl ?_); refine goesL_ (some 26) rfl rfl Try.func63 (by kernel_rfl) rfl #[.pointer (some ⟨g, 0, none⟩), .int .i64 a1] rfl Z75 ?_; (with_reducible refine (spec_l20Rd_odd.calls k1 g s0_0 x1001_1 a1 true t337 w0 _ ?side1 ?side2 A28.out).mono ?_); (case side1 => exact Z135); (case side2 => exact Z146); rintro e w60 ⟨rfl, hi, hb, hk⟩; refine ⟨_, rfl, ?_⟩; have n0_ := Aside0.mk (Kd.R_mono (Kd.R_keep (IsS76.apart (show IsS76 w0 _ g s0_0 x1001_1 from by repeat (first | (with_reducible first | exact HI0.out | apply IsS76.alloc | apply IsS76.drewN | apply IsS76.drew | apply IsS76.set_1 | refine IsS76.far ?_ NB0_324.out _ | refine IsS76.far ?_ NB0_325.out _) | exact HI0.out)) Z35 (by decide)) hk (fun _ h => h.2)) (fun _ h => h.1)); have n1_ := Aside0.mk (KeepBut.blk hk (g' := gb324) (o := .cells #[.slice none 0 0] 61 (0, 0)) Z54 NB324_0.out (by simp)); have n2_ := Aside0.mk (KeepBut.blk hk (g' := gb325) (o := .cells #[u326000] 61 (0, 0)) Z55 NB325_0.out (by simp)); have n3_ := Aside0.mk (KeepBut.trans Z131 hk (.inl rfl)); have n4_ := Aside0.mk (hb); have n5_ := Aside0.mk (hi); clear HO_326000; clear BK324; clear BK325; clear HK; clear HB; clear HI0; have HO_326000 := n0_; have BK324 := n1_; have BK325 := n2_; have HK := n3_; have HB := n4_; have HI0 := n5_; clear n0_ n1_ n2_ n3_ n4_ n5_; (try clear hb); (try clear hk); (try clear hi)) | ((with_reducible refine gate_callee (f := 49) rfl ?_); refine goesL_ (some 28) rfl rfl Try.func49 (by kernel_rfl) rfl #[.pointer (some ⟨g, 0, none⟩), .int .i64 3] rfl Z75 ?_; (with_reducible refine (spec_l20Rd_pick.calls k1 g s0_0 t337 3 t338 t339 w0 _ ?side1 ?side2 A30.out).mono ?_); (case side1 => exact Z135); (case side2 => exact Z146); rintro e w61 ⟨rfl, hi, hb, hk⟩; refine ⟨_, rfl, ?_⟩; have n0_ := Aside0.mk (Kd.R_mono (Kd.R_keep (IsS76.apart (show IsS76 w0 _ g s0_0 t337 from by repeat (first | (with_reducible first | exact HI0.out | apply IsS76.alloc | apply IsS76.drewN | apply IsS76.drew | apply IsS76.set_1 | refine IsS76.far ?_ NB0_324.out _ | refine IsS76.far ?_ NB0_325.out _) | exact HI0.out)) Z35 (by decide)) hk (fun _ h => h.2)) (fun _ h => h.1)); have n1_ := Aside0.mk (KeepBut.blk hk (g' := gb324) (o := .cells #[.slice none 0 0] 61 (0, 0)) Z54 NB324_0.out (by simp)); have n2_ := Aside0.mk (KeepBut.blk hk (g' := gb325) (o := .cells #[u326000] 61 (0, 0)) Z55 NB325_0.out (by simp)); have n3_ := Aside0.mk (KeepBut.trans Z131 hk (.inl rfl)); have n4_ := Aside0.mk (hb); have n5_ := Aside0.mk (hi); clear HO_326000; clear BK324; clear BK325; clear HK; clear HB; clear HI0; have HO_326000 := n0_; have BK324 := n1_; have BK325 := n2_; have HK := n3_; have HB := n4_; have HI0 := n5_; clear n0_ n1_ n2_ n3_ n4_ n5_; (try clear hb); (try clear hk); (try clear hi)))
       go_loopg [] k1 (fun kq w' => ∃ (x326000_2 : List (S80)) (u326000 : Value), Aside0 (spec_l20Table.l1 kq s0_0 t339 x326000_2 = some (r1, r2)) ∧ Aside0 (kq ≤ k1) ∧ Aside0 (Kd.R k80 80 w' w.heap.size (fun _ => True) u326000 x326000_2) ∧ Aside0 (w'.heap[gb324]? = some (.cells #[(.slice none 0 0)] 61 (0, 0))) ∧ Aside0 (w'.heap[gb325]? = some (.cells #[u326000] 61 (0, 0))) ∧ Aside0 (IsS76 w0 w' g s0_0 t339) ∧ Aside0 (KeepBut w w' g none) ∧ Aside0 (Below w0.heap.size w0 w'))
       case atStart => exact ⟨(x326000_1), (u326000), H', ⟨Nat.le_refl _⟩, ⟨by (with_reducible repeat (first | apply Kd.R_alloc | apply Kd.R_drewN | apply Kd.R_drew)); exact HO_326000.out⟩, ⟨by (with_reducible repeat (first | refine blk_drewN ?_ _ | refine blk_drew ?_ | refine blk_alloc ?_ _)); exact BK324.out⟩, ⟨by (with_reducible repeat (first | refine blk_drewN ?_ _ | refine blk_drew ?_ | refine blk_alloc ?_ _)); exact BK325.out⟩, ⟨by repeat (first | (with_reducible first | exact HI0.out | apply IsS76.alloc | apply IsS76.drewN | apply IsS76.drew | apply IsS76.set_1 | refine IsS76.far ?_ NB0_324.out _ | refine IsS76.far ?_ NB0_325.out _) | exact HI0.out)⟩, ⟨by repeat (first | (with_reducible first | exact HK.out | apply KeepBut.set_ | apply keep_drewN | apply keep_drew | apply keep_alloc | refine keep_far ?_ GW324.out _ | refine keep_far ?_ GW325.out _) | exact HK.out)⟩, ⟨by repeat (first | (with_reducible first | exact HB.out | apply below_alloc | apply pw_below_drewN | apply below_drew1 | refine below_set ?_ (IsS76.ge HI0.out) | refine below_set ?_ GE324.out | refine below_set ?_ GE325.out) | exact HB.out)⟩⟩
       case round =>
        clear H'
        try clear c1
        try clear c2
        try clear p2
        try clear c3
        try clear c4
        try clear c5
        try clear c6
        try clear p6
        try clear c10
        try clear c10b0
        try clear c21
        try clear c22
        try clear c23
        try clear c25
        try clear c26
        try clear c29
        try clear c31
        try clear c31b0
        try clear c31b1
        try clear c33
        try clear c41
        try clear c42
        try clear c44
        try clear c46
        try clear c46b0
        try clear c46b1
        try clear c47
        try clear c48
        try clear c49
        try clear c51
        try clear c52
        try clear c58
        try clear hcz24_0
        try clear hcz27_0
        try clear hcz43_0
        try clear hcz45_0
        try clear hcz53_0
        try clear hcz57_0
        try clear hcz59_0
        try clear hfz24_0
        try clear hfz27_0
        try clear hfz43_0
        try clear hfz45_0
        try clear hfz53_0
        try clear hfz57_0
        try clear hfz59_0
        obtain ⟨x326000_2, u326000, HA, HK2, HO_326000, BK324, BK325, HI0, HK, HB⟩ := hrel
        cases gk with
        | zero => exact absurd HA.out (by simp [spec_l20Table.l1])
        | succ k2 =>
         have H := HA.out
         clear HA
         simp only [spec_l20Table.l1] at H
         by_cases c62 : (x326000_2.length : Int) ≤ 6
         ·rw [if_pos c62] at H
          have c62b0 : decide ((x326000_2.length : Int) ≤ 6) = true := decide_eq_true c62
          have c62b1 : decide (x326000_2.length ≤ 6) = true := decide_eq_true (by omega)
          clear c62
          by_cases c63 : x326000_2.length < 8796093022208
          ·rw [if_pos c63] at H
           have LMc63 := Aside0.mk c63
           clear c63
           obtain ⟨y352, hy352⟩ : ∃ y_ : List (S80), y_ = (x326000_2 ++ [(⟨8, wrap64 (1 + (x326000_2.length : Int))⟩ : S80)]) := ⟨_, rfl⟩
           replace H : (spec_l20Table.l1 k2 s0_0 t339 y352) = some (r1, r2) := by first | (rw [hy352]; with_reducible exact H) | (have H2_ := (Option.bind_some _ _).symm.trans H; rw [hy352]; with_reducible exact H2_) | (have H2_ := (Option.bind_some _ _).symm.trans H; with_reducible exact H2_) | with_reducible exact H | (rw [hy352]; exact H) | exact H
           have Ny352 := Aside0.mk hy352
           clear hy352
           have H' := Aside0.mk H
           clear H
           have hnb64 := NB325_324.out
           have hnc64 := NB324_325.out
           have hnb65 := NB325_0.out
           have hnc65 := NB0_325.out
           have hcz66_0 : wr.cell? ⟨gb325, 0, none⟩ = some (u326000) := (blk_cell BK325.out 0).trans rfl
           have hfz66_0 := blk_frozen BK325.out 0
           obtain ⟨Ao67, co67, eo67⟩ := Kd.R_slice HO_326000.out
           subst eo67
           go_wp2_with (first | ((with_reducible refine gate_builtin (b := .append) (xs := #[.tmp 34, .tmp 40]) rfl ?_); at_builtin; refine Kd.R_append k80 w.heap.size rfl (.tmp 34) (.tmp 40) 59 80 (.agg #[(.int .i64 0), (.int .i64 0)]) 16 rfl Try.underlying59 info80 rfl (by decide) (by omega) (.slice Ao67 x326000_2.length co67) x326000_2 (⟨8, wrap64 (1 + (x326000_2.length : Int))⟩ : S80) [.int .i64 8, .int .i64 (wrap64 (1 + (x326000_2.length : Int)))] (fun _ => True) (fun _ => False) rfl rfl ?aP (fun _ hk => hk.elim) ?aF ?aO (Below.refl _ _) ?aS ?aL ?_; (case aP => exact k80_mkM _ _ _ (⟨8, wrap64 (1 + (x326000_2.length : Int))⟩ : S80)); (case aF => exact (fun _ _ => trivial)); (case aO => exact Z35); (case aS => exact (keep_size (w := w) (g := g) (row := none) Z131)); (case aL => have := LMc63.out; omega); intro v353 w68 ho hb hg hat; rw [← Ny352.out] at ho; have n0_ := Aside0.mk (blk_grown (g := gb324) (o := .cells #[.slice none 0 0] 61 (0, 0)) Z54 hg (Kd.R_ne HO_326000.out BK324.out (by decide))); have n1_ := Aside0.mk (blk_grown (g := gb325) (o := .cells #[.slice Ao67 x326000_2.length co67] 61 (0, 0)) Z55 hg (Kd.R_ne HO_326000.out BK325.out (by decide))); have n2_ := Aside0.mk (IsS76.grown Z136 hg (IsS76.own_ne HI0.out HO_326000.out (by decide))); have n3_ := Aside0.mk (below_weaken Z147 HL.out hb); have n4_ := Aside0.mk (KeepBut.trans Z131 (KeepBut.of_grown hg g) (Kd.R_base2 HO_326000.out)); have n5_ := Aside0.mk (ho); clear BK324; clear BK325; clear HI0; clear HB; clear HK; clear HO_326000; have BK324 := n0_; have BK325 := n1_; have HI0 := n2_; have HB := n3_; have HK := n4_; have HO354 := n5_; clear n0_ n1_ n2_ n3_ n4_ n5_; clear ho hb hg hat; obtain ⟨Ao69, co69, eo69⟩ := Kd.R_slice HO354.out; subst eo69; have hcz70_0 : w68.cell? ⟨gb325, 0, none⟩ = some (.slice Ao67 x326000_2.length co67) := (blk_cell BK325.out 0).trans rfl; have hfz70_0 := blk_frozen BK325.out 0))
           go_roundg k2
           case measure => have := HK1.out; have := HK2.out; omega
           case rel => exact ⟨(y352), (.slice Ao69 y352.length co69), H', ⟨by have := HK1.out; have := HK2.out; omega⟩, ⟨by (with_reducible repeat (first | apply Kd.R_alloc | apply Kd.R_drewN | apply Kd.R_drew)); exact Kd.R_mono (Kd.R_far (p := ⟨gb325, 0, none⟩) (Kd.R_types HO354.out BK325.out (by decide)) (fun _ hk => hk.2) (.slice Ao69 y352.length co69)) (fun _ hk => trivial)⟩, ⟨by (with_reducible repeat (first | refine blk_drewN ?_ _ | refine blk_drew ?_ | refine blk_alloc ?_ _)); refine blk_far ?_ NB324_325.out _; (with_reducible repeat (first | refine blk_drewN ?_ _ | refine blk_drew ?_ | refine blk_alloc ?_ _)); exact BK324.out⟩, ⟨by (with_reducible repeat (first | refine blk_drewN ?_ _ | refine blk_drew ?_ | refine blk_alloc ?_ _)); refine blk_put (cs := #[.slice Ao67 x326000_2.length co67]) ?_ 0 _ rfl; (with_reducible repeat (first | refine blk_drewN ?_ _ | refine blk_drew ?_ | refine blk_alloc ?_ _)); exact BK325.out⟩, ⟨by repeat (first | (with_reducible first | exact HI0.out | apply IsS76.alloc | apply IsS76.drewN | apply IsS76.drew | apply IsS76.set_1 | refine IsS76.far ?_ NB0_324.out _ | refine IsS76.far ?_ NB0_325.out _) | exact HI0.out)⟩, ⟨by repeat (first | (with_reducible first | exact HK.out | apply KeepBut.set_ | apply keep_drewN | apply keep_drew | apply keep_alloc | refine keep_far ?_ GW324.out _ | refine keep_far ?_ GW325.out _) | exact HK.out)⟩, ⟨by repeat (first | (with_reducible first | exact HB.out | apply below_alloc | apply pw_below_drewN | apply below_drew1 | refine below_set ?_ (IsS76.ge HI0.out) | refine below_set ?_ GE324.out | refine below_set ?_ GE325.out) | exact HB.out)⟩⟩
          ·rw [if_neg c63] at H
           exact absurd H (by simp)
         ·rw [if_neg c62] at H
          have c62b0 : decide ((x326000_2.length : Int) ≤ 6) = false := decide_eq_false c62
          have c62b1 : decide (x326000_2.length ≤ 6) = false := decide_eq_false (by omega)
          clear c62
          simp only [Option.some.injEq, Prod.mk.injEq] at H
          obtain ⟨rfl, rfl⟩ := H
          have hnb71 := NB325_324.out
          have hnc71 := NB324_325.out
          have hnb72 := NB325_0.out
          have hnc72 := NB0_325.out
          have hcz73_0 : wr.cell? ⟨gb325, 0, none⟩ = some (u326000) := (blk_cell BK325.out 0).trans rfl
          have hfz73_0 := blk_frozen BK325.out 0
          obtain ⟨Ao74, co74, eo74⟩ := Kd.R_slice HO_326000.out
          subst eo74
          have hnb75 := NB324_0.out
          have hnc75 := NB0_324.out
          have hcz76_0 : wr.cell? ⟨gb324, 0, none⟩ = some (.slice none 0 0) := (blk_cell BK324.out 0).trans rfl
          have hfz76_0 := blk_frozen BK324.out 0
          go_wp2
          refine bodyPost_ret (results_cell_row rfl _ _ gb324 61 #[.slice Ao74 x326000_2.length co74] (0, 0) _ rfl Z162 Try.underlying61 rfl (by kernel_rfl)) rfl ?_
          exact ⟨_, by first | rfl | (simp [errW_none, errW_some] <;> rfl) | (simp [*, errW_none, errW_some] <;> rfl), by (with_reducible repeat (first | apply Kd.R_alloc | apply Kd.R_drewN | apply Kd.R_drew)); exact Kd.R_mono (Kd.R_far (p := ⟨gb324, 0, none⟩) (Kd.R_types HO_326000.out BK324.out (by decide)) (fun _ hk => hk.2) (.slice Ao74 x326000_2.length co74)) (fun _ hk => trivial), by repeat (first | (with_reducible first | exact HI0.out | apply IsS76.alloc | apply IsS76.drewN | apply IsS76.drew | apply IsS76.set_1 | refine IsS76.far ?_ NB0_324.out _ | refine IsS76.far ?_ NB0_325.out _) | exact HI0.out), by repeat (first | (with_reducible first | exact HB.out | apply below_alloc | apply pw_below_drewN | apply below_drew1 | refine below_set ?_ (IsS76.ge HI0.out) | refine below_set ?_ GE324.out | refine below_set ?_ GE325.out) | exact HB.out), by repeat (first | (with_reducible first | exact HK.out | apply KeepBut.set_ | apply keep_drewN | apply keep_drew | apply keep_alloc | refine keep_far ?_ GW324.out _ | refine keep_far ?_ GW325.out _) | exact HK.out)⟩
    ·replace c29 := Bool.eq_false_iff.mpr c29
     subst c29
     have H1 : (some (x326000_1, t337)) = some (r1, r2) := by rw [if_neg (show ¬ (false = true) by decide)] at H; exact H
     clear H
     have H := H1
     clear H1
     simp only [Option.some.injEq, Prod.mk.injEq] at H
     obtain ⟨rfl, rfl⟩ := H
     go_wp2_with (first | ((with_reducible refine gate_callee (f := 63) rfl ?_); refine goesL_ (some 26) rfl rfl Try.func63 (by kernel_rfl) rfl #[.pointer (some ⟨g, 0, none⟩), .int .i64 a1] rfl Z75 ?_; (with_reducible refine (spec_l20Rd_odd.calls k1 g s0_0 x1001_1 a1 false t337 w0 _ ?side1 ?side2 A28.out).mono ?_); (case side1 => exact Z135); (case side2 => exact Z146); rintro e w77 ⟨rfl, hi, hb, hk⟩; refine ⟨_, rfl, ?_⟩; have n0_ := Aside0.mk (Kd.R_mono (Kd.R_keep (IsS76.apart (show IsS76 w0 _ g s0_0 x1001_1 from by repeat (first | (with_reducible first | exact HI0.out | apply IsS76.alloc | apply IsS76.drewN | apply IsS76.drew | apply IsS76.set_1 | refine IsS76.far ?_ NB0_324.out _ | refine IsS76.far ?_ NB0_325.out _) | exact HI0.out)) Z35 (by decide)) hk (fun _ h => h.2)) (fun _ h => h.1)); have n1_ := Aside0.mk (KeepBut.blk hk (g' := gb324) (o := .cells #[.slice none 0 0] 61 (0, 0)) Z54 NB324_0.out (by simp)); have n2_ := Aside0.mk (KeepBut.blk hk (g' := gb325) (o := .cells #[u326000] 61 (0, 0)) Z55 NB325_0.out (by simp)); have n3_ := Aside0.mk (KeepBut.trans Z131 hk (.inl rfl)); have n4_ := Aside0.mk (hb); have n5_ := Aside0.mk (hi); clear HO_326000; clear BK324; clear BK325; clear HK; clear HB; clear HI0; have HO_326000 := n0_; have BK324 := n1_; have BK325 := n2_; have HK := n3_; have HB := n4_; have HI0 := n5_; clear n0_ n1_ n2_ n3_ n4_ n5_; (try clear hb); (try clear hk); (try clear hi); have hnb78 := NB325_324.out; have hnc78 := NB324_325.out; have hnb79 := NB325_0.out; have hnc79 := NB0_325.out; have hcz80_0 : w77.cell? ⟨gb325, 0, none⟩ = some (u326000) := (blk_cell BK325.out 0).trans rfl; have hfz80_0 := blk_frozen BK325.out 0; obtain ⟨Ao81, co81, eo81⟩ := Kd.R_slice HO_326000.out; subst eo81; have hnb82 := NB324_0.out; have hnc82 := NB0_324.out; have hcz83_0 : w77.cell? ⟨gb324, 0, none⟩ = some (.slice none 0 0) := (blk_cell BK324.out 0).trans rfl; have hfz83_0 := blk_frozen BK324.out 0))
     refine bodyPost_ret (results_cell_row rfl _ _ gb324 61 #[.slice Ao81 x326000_1.length co81] (0, 0) _ rfl Z162 Try.underlying61 rfl (by kernel_rfl)) rfl ?_
     exact ⟨_, by first | rfl | (simp [errW_none, errW_some] <;> rfl) | (simp [*, errW_none, errW_some] <;> rfl), by (with_reducible repeat (first | apply Kd.R_alloc | apply Kd.R_drewN | apply Kd.R_drew)); exact Kd.R_mono (Kd.R_far (p := ⟨gb324, 0, none⟩) (Kd.R_types HO_326000.out BK324.out (by decide)) (fun _ hk => hk.2) (.slice Ao81 x326000_1.length co81)) (fun _ hk => trivial), by repeat (first | (with_reducible first | exact HI0.out | apply IsS76.alloc | apply IsS76.drewN | apply IsS76.drew | apply IsS76.set_1 | refine IsS76.far ?_ NB0_324.out _ | refine IsS76.far ?_ NB0_325.out _) | exact HI0.out), by repeat (first | (with_reducible first | exact HB.out | apply below_alloc | apply pw_below_drewN | apply below_drew1 | refine below_set ?_ (IsS76.ge HI0.out) | refine below_set ?_ GE324.out | refine below_set ?_ GE325.out) | exact HB.out), by repeat (first | (with_reducible first | exact HK.out | apply KeepBut.set_ | apply keep_drewN | apply keep_drew | apply keep_alloc | refine keep_far ?_ GW324.out _ | refine keep_far ?_ GW325.out _) | exact HK.out)⟩

end Go.Proofs.Ytmahgffkkdggcaa.QFnPosThere
