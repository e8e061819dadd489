-- Laid by a program of this repo (wip/tools/sprint.py): print.py's functions and walks; the contracts named 'BY HAND' are proved by hand.
import Derived.Test.YtmahgffkkdggcaaQFnPosPairsx0
import Derived.Test.YtmahgffkkdggcaaQFnPosPairsx5
import Derived.Test.YtmahgffkkdggcaaQFnPosPairsx6
import Derived.Test.YtmahgffkkdggcaaQFnPosPairsx10
namespace Go.Proofs.Ytmahgffkkdggcaa.QFnPosPairs
open Go.RowKit Go.Proofs.YtmahgffkkdggcaaW.PrintWords Go.Proofs.YtmahgffkkdggcaaW.PrintLast Go.Proofs.YtmahgffkkdggcaaW.PrintMore
attribute [local go_sem] max2_int min2_int max_two min_two max_three min_three max_four min_four   -- for this text's walks alone
set_option linter.unusedVariables false
set_option linter.unusedSimpArgs false

/-! ### spec_l20Table: function 48 -/
mutual
def spec_l20Table.l0 : Nat → Int → Int → List Int → Int → List (S80) → Option ((List (S80)) × Int)
 | 0, _, _, _, _, _ => none
 | k + 1, x1, x6, x1000, x1001, x319000 => if x6 > 0 then ((spec_l20In.f k x1000 x1001).bind fun bt321 => ((spec_MapPut.f k x319000 bt321.1 bt321.2.1).bind fun bt324 => (spec_l20Table.l0 k x1 (wrap64 (x6 - 1)) x1000 bt321.2.2 bt324.1))) else ((spec_l20Rd_odd.f k x1000 x1001 x1).bind fun bt329 => (if bt329.1 = true then ((spec_l20Rd_pick.f k x1000 bt329.2 3).bind fun bt331 => (if bt331.1 = 0 then ((spec_l20Out.f k x1000 bt331.2).bind fun bt333 => (if x319000.length < 8796093022208 then (some ((x319000 ++ [(⟨bt333.1, bt333.2.1⟩ : S80)]), bt333.2.2)) else (none))) else (if bt331.1 = 1 then (if x319000.length < 8796093022208 then ((some (x319000 ++ [(⟨9, 9⟩ : S80)] : List (S80))).bind fun y339 => (if y339.length < 8796093022208 then (some ((y339 ++ [(⟨9, 9⟩ : S80)]), bt331.2)) else (none))) else (none)) else (spec_l20Table.l1 k x1000 bt331.2 x319000)))) else (some (x319000, bt329.2))))
def spec_l20Table.l1 : Nat → List Int → Int → List (S80) → Option ((List (S80)) × Int)
 | 0, _, _, _ => none
 | k + 1, x1000, x1001, x319000 => if (x319000.length : Int) ≤ 6 then (if x319000.length < 8796093022208 then (spec_l20Table.l1 k x1000 x1001 (x319000 ++ [(⟨8, wrap64 (1 + (x319000.length : Int))⟩ : S80)])) else (none)) else (some (x319000, x1001))
end
def spec_l20Table.f (k : Nat) (s0_0 : List Int) (s0_1 : Int) (a1 : Int) : Option ((List (S80)) × Int) := (spec_l20Rd_pick.f k s0_0 s0_1 8).bind fun bt319 => (spec_l20Table.l0 k a1 bt319.1 s0_0 bt319.2 ([] : List (S80)))
theorem spec_l20Table.mono_l : ∀ k, (∀ y0 y1 y2 y3 y4, LeO (spec_l20Table.l0 k y0 y1 y2 y3 y4) (spec_l20Table.l0 (k + 1) y0 y1 y2 y3 y4)) ∧ (∀ y0 y1 y2, LeO (spec_l20Table.l1 k y0 y1 y2) (spec_l20Table.l1 (k + 1) y0 y1 y2))
 | 0 => ⟨fun _ _ _ _ _ r h => by simp [spec_l20Table.l0] at h, fun _ _ _ r h => by simp [spec_l20Table.l1] at h⟩
 | k + 1 => by
  obtain ⟨ih0, ih1⟩ := spec_l20Table.mono_l k
  refine ⟨?_, ?_⟩
  ·intro y0 y1 y2 y3 y4
   unfold spec_l20Table.l0
   repeat' first
   | (with_reducible exact ih0 _ _ _ _ _)
   | (with_reducible exact ih1 _ _ _)
   | (with_reducible exact spec_MapPut.mono _ _ _ _)
   | (with_reducible exact spec_l20In.mono _ _ _)
   | (with_reducible exact spec_l20Out.mono _ _ _)
   | (with_reducible exact spec_l20Rd_odd.mono _ _ _ _)
   | (with_reducible exact spec_l20Rd_pick.mono _ _ _ _)
   | (with_reducible exact LeO.refl _)
   | (with_reducible exact LeO.none _)
   | (with_reducible refine LeO.ite ?_ ?_)
   | (with_reducible refine LeO.bind ?_ (fun _ => ?_))
   | exact ih0 _ _ _ _ _
   | exact ih1 _ _ _
   | exact spec_MapPut.mono _ _ _ _
   | exact spec_l20In.mono _ _ _
   | exact spec_l20Out.mono _ _ _
   | exact spec_l20Rd_odd.mono _ _ _ _
   | exact spec_l20Rd_pick.mono _ _ _ _
   | exact LeO.none _
   | refine LeO.ite ?_ ?_
   | refine LeO.bind ?_ (fun _ => ?_)
  ·intro y0 y1 y2
   unfold spec_l20Table.l1
   repeat' first
   | (with_reducible exact ih0 _ _ _ _ _)
   | (with_reducible exact ih1 _ _ _)
   | (with_reducible exact spec_MapPut.mono _ _ _ _)
   | (with_reducible exact spec_l20In.mono _ _ _)
   | (with_reducible exact spec_l20Out.mono _ _ _)
   | (with_reducible exact spec_l20Rd_odd.mono _ _ _ _)
   | (with_reducible exact spec_l20Rd_pick.mono _ _ _ _)
   | (with_reducible exact LeO.refl _)
   | (with_reducible exact LeO.none _)
   | (with_reducible refine LeO.ite ?_ ?_)
   | (with_reducible refine LeO.bind ?_ (fun _ => ?_))
   | exact ih0 _ _ _ _ _
   | exact ih1 _ _ _
   | exact spec_MapPut.mono _ _ _ _
   | exact spec_l20In.mono _ _ _
   | exact spec_l20Out.mono _ _ _
   | exact spec_l20Rd_odd.mono _ _ _ _
   | exact spec_l20Rd_pick.mono _ _ _ _
   | exact LeO.none _
   | refine LeO.ite ?_ ?_
   | refine LeO.bind ?_ (fun _ => ?_)
theorem spec_l20Table.mono : ∀ a0 a1 a2 k, LeO (spec_l20Table.f k a0 a1 a2) (spec_l20Table.f (k + 1) a0 a1 a2) := by
 intro a0 a1 a2 k
 obtain ⟨ih0, ih1⟩ := spec_l20Table.mono_l k
 unfold spec_l20Table.f
 repeat' first
   | (with_reducible exact ih0 _ _ _ _ _)
   | (with_reducible exact ih1 _ _ _)
   | (with_reducible exact spec_MapPut.mono _ _ _ _)
   | (with_reducible exact spec_l20In.mono _ _ _)
   | (with_reducible exact spec_l20Out.mono _ _ _)
   | (with_reducible exact spec_l20Rd_odd.mono _ _ _ _)
   | (with_reducible exact spec_l20Rd_pick.mono _ _ _ _)
   | (with_reducible exact LeO.refl _)
   | (with_reducible exact LeO.none _)
   | (with_reducible refine LeO.ite ?_ ?_)
   | (with_reducible refine LeO.bind ?_ (fun _ => ?_))
   | exact ih0 _ _ _ _ _
   | exact ih1 _ _ _
   | exact spec_MapPut.mono _ _ _ _
   | exact spec_l20In.mono _ _ _
   | exact spec_l20Out.mono _ _ _
   | exact spec_l20Rd_odd.mono _ _ _ _
   | exact spec_l20Rd_pick.mono _ _ _ _
   | exact LeO.none _
   | refine LeO.ite ?_ ?_
   | refine LeO.bind ?_ (fun _ => ?_)
def spec_l20Table.T5 : Bool × List (List Nat × List Nat) := (true, [([], []), ([], []), ([1], [1]), ([0, 2, 2], [0, 2]), ([3], [3]), ([4], [4]), ([4], [4]), ([], []), ([7, 5, 3, 0, 1, 2, 3, 4, 5, 7], [5, 7]), ([6, 8, 0, 1, 2, 3, 4, 5, 6, 7, 8], [6])])
def spec_l20Table.B5 : List Nat := [0, 0, 2, 7, 15, 31, 31, 0, 191, 511]
theorem spec_l20Table.tab5 : rtab .any (opsOf Try.f48 5) = spec_l20Table.T5 := by kernel_rfl
theorem spec_l20Table.bits5 : waitsOk spec_l20Table.T5.2 spec_l20Table.B5 = true := by kernel_rfl
def spec_l20Table.T12 : Bool × List (List Nat × List Nat) := (true, [([], []), ([0], [0]), ([], []), ([2], [2]), ([3], [3]), ([1, 4, 3], [1, 4]), ([0, 1, 2, 3, 4, 5], []), ([6, 5, 5, 0, 1, 2, 3, 4, 5], [5, 6])])
def spec_l20Table.B12 : List Nat := [0, 1, 0, 4, 12, 31, 63, 127]
theorem spec_l20Table.tab12 : rtab .any (opsOf Try.f48 12) = spec_l20Table.T12 := by kernel_rfl
theorem spec_l20Table.bits12 : waitsOk spec_l20Table.T12.2 spec_l20Table.B12 = true := by kernel_rfl
set_option maxHeartbeats 8000000 in
set_option maxRecDepth 100000 in
theorem spec_l20Table.calls (k : Nat) (g : Nat) (s0_0 : List Int) (s0_1 : Int) (a1 : Int) (r1 : List (S80)) (r2 : Int) (w0 w : World) (hI : IsS76 w0 w g s0_0 s0_1) (hB : Below w0.heap.size w0 w) (h : spec_l20Table.f k s0_0 s0_1 a1 = some (r1, r2)) :
  Calls Try.prog 48 #[.pointer (some ⟨g, 0, none⟩), .int .i64 a1] w fun e w' => ∃ v0_ : Value, e = .returned (.agg #[v0_]) ∧ Kd.R k80 80 w' w.heap.size (fun _ => True) v0_ r1 ∧ IsS76 w0 w' g s0_0 r2 ∧ Below w0.heap.size w0 w' ∧ KeepBut w w' g none := by
 have hu61 := Try.underlying61
 have hu80 := Try.underlying80
 have HI0 := Aside0.mk hI
 have HK := Aside0.mk (KeepBut.refl w g none)
 have HL := Aside0.mk hB.size
 clear hI
 have HW0 := Aside0.mk hB.size
 have HB := Aside0.mk hB
 clear hB
 have H : ((spec_l20Rd_pick.f k s0_0 s0_1 8).bind fun bt319 => (spec_l20Table.l0 k a1 bt319.1 s0_0 bt319.2 ([] : List (S80)))) = some (r1, r2) := h
 clear h
 replace H := Option.bind_eq_some_iff.mp H
 obtain ⟨⟨t319, t320⟩, A30, H⟩ := H
 replace H : (spec_l20Table.l0 k a1 t319 s0_0 t320 ([] : List (S80))) = some (r1, r2) := H
 have A3 := Aside0.mk A30
 clear A30
 have H' := Aside0.mk H
 clear H
 go_enter Try.func48, Try.ntmps48
 go_wp2_with (first | ((with_reducible refine gate_dst (N := 4) rfl ?_); refine box_event ?hg (N := 4) ?hd (cs := #[.slice none 0 0]) (t := 61) ?hr ?_; (case hd => rfl); (case hg => rfl); (case hr => first | (go_simp; done) | (go_simp; rfl)); intro gb317 hg w4 hbox hb; have n0_ := Aside0.mk (IsS76.below Z88 hb); have n1_ := Aside0.mk (KeepBut.trans Z86 (KeepBut.of_below hb g none) (.inl rfl)); have n2_ := Aside0.mk (below_step Z115 hb); have n3_ := Aside0.mk (hbox); have n4_ := Aside0.mk ((Z200 : w.heap.size ≤ gb317)); have n5_ := Aside0.mk ((Nat.le_trans HW0.out (Z200 : w.heap.size ≤ gb317) : w0.heap.size ≤ gb317)); have n6_ := Aside0.mk ((Z149 : g ≠ gb317)); have n7_ := Aside0.mk ((Z150 : gb317 ≠ g)); clear HI0; clear HK; clear HB; have HI0 := n0_; have HK := n1_; have HB := n2_; have BK317 := n3_; have GW317 := n4_; have GE317 := n5_; have NB0_317 := n6_; have NB317_0 := n7_; clear n0_ n1_ n2_ n3_ n4_ n5_ n6_ n7_; clear hb hbox hg) | ((with_reducible refine gate_dst (N := 5) rfl ?_); refine box_event ?hg (N := 5) ?hd (cs := #[.slice none 0 0]) (t := 61) ?hr ?_; (case hd => rfl); (case hg => rfl); (case hr => first | (go_simp; done) | (go_simp; rfl)); intro gb318 hg w5 hbox hb; have n0_ := Aside0.mk (IsS76.below (by repeat (first | (with_reducible first | exact HI0.out | apply IsS76.alloc | apply IsS76.drewN | apply IsS76.drew | apply IsS76.set_1 | refine IsS76.far ?_ NB0_317.out _) | exact HI0.out)) hb); have n1_ := Aside0.mk (blk_below (g := gb317) (o := .cells #[.slice none 0 0] 61 (0, 0)) Z43 hb); have n2_ := Aside0.mk (KeepBut.trans Z123 (KeepBut.of_below hb g none) (.inl rfl)); have n3_ := Aside0.mk (below_step (by repeat (first | (with_reducible first | exact HB.out | apply below_alloc | apply pw_below_drewN | apply below_drew1 | refine below_set ?_ (IsS76.ge HI0.out) | refine below_set ?_ GE317.out) | exact HB.out)) hb); have n4_ := Aside0.mk (hbox); have n5_ := Aside0.mk ((by rw [hg]; exact (keep_size (w := w) (g := g) (row := none) Z123) : w.heap.size ≤ gb318)); have n6_ := Aside0.mk ((Nat.le_trans HW0.out (by rw [hg]; exact (keep_size (w := w) (g := g) (row := none) Z123) : w.heap.size ≤ gb318) : w0.heap.size ≤ gb318)); have n7_ := Aside0.mk ((Z202 : gb317 ≠ gb318)); have n8_ := Aside0.mk ((Z203 : gb318 ≠ gb317)); have n9_ := Aside0.mk ((by rw [hg]; exact Nat.ne_of_lt (IsS76.lt (show IsS76 w0 _ g s0_0 s0_1 from by repeat (first | (with_reducible first | exact HI0.out | apply IsS76.alloc | apply IsS76.drewN | apply IsS76.drew | apply IsS76.set_1 | refine IsS76.far ?_ NB0_317.out _) | exact HI0.out))) : g ≠ gb318)); have n10_ := Aside0.mk ((by rw [hg]; exact Nat.ne_of_gt (IsS76.lt (show IsS76 w0 _ g s0_0 s0_1 from by repeat (first | (with_reducible first | exact HI0.out | apply IsS76.alloc | apply IsS76.drewN | apply IsS76.drew | apply IsS76.set_1 | refine IsS76.far ?_ NB0_317.out _) | exact HI0.out))) : gb318 ≠ g)); clear HI0; clear BK317; clear HK; clear HB; have HI0 := n0_; have BK317 := n1_; have HK := n2_; have HB := n3_; have BK318 := n4_; have GW318 := n5_; have GE318 := n6_; have NB317_318 := n7_; have NB318_317 := n8_; have NB0_318 := n9_; have NB318_0 := n10_; clear n0_ n1_ n2_ n3_ n4_ n5_ n6_ n7_ n8_ n9_ n10_; clear hb hbox hg; have hnb6 := NB318_317.out; have hnc6 := NB317_318.out; have hnb7 := NB318_0.out; have hnc7 := NB0_318.out; have hcz8_0 : w5.cell? ⟨gb318, 0, none⟩ = some (.slice none 0 0) := (blk_cell BK318.out 0).trans rfl; have hfz8_0 := blk_frozen BK318.out 0) | ((with_reducible refine gate_callee (f := 49) rfl ?_); refine goesL_ (some 11) rfl rfl Try.func49 (by kernel_rfl) rfl #[.pointer (some ⟨g, 0, none⟩), .int .i64 8] rfl Z84 ?_; (with_reducible refine (spec_l20Rd_pick.calls k g s0_0 s0_1 8 t319 t320 w0 _ ?side1 ?side2 A3.out).mono ?_); (case side1 => exact Z146); (case side2 => exact Z157); rintro e w9 ⟨rfl, hi, hb, hk⟩; refine ⟨_, rfl, ?_⟩; have n0_ := Aside0.mk (KeepBut.blk hk (g' := gb317) (o := .cells #[.slice none 0 0] 61 (0, 0)) (by (with_reducible repeat (first | refine blk_drewN ?_ _ | refine blk_drew ?_ | refine blk_alloc ?_ _)); refine blk_far ?_ NB317_318.out _; (with_reducible repeat (first | refine blk_drewN ?_ _ | refine blk_drew ?_ | refine blk_alloc ?_ _)); exact BK317.out) NB317_0.out (by simp)); have n1_ := Aside0.mk (KeepBut.blk hk (g' := gb318) (o := .cells #[.slice none 0 0] 61 (0, 0)) (by (with_reducible repeat (first | refine blk_drewN ?_ _ | refine blk_drew ?_ | refine blk_alloc ?_ _)); refine blk_put (cs := #[.slice none 0 0]) ?_ 0 _ rfl; (with_reducible repeat (first | refine blk_drewN ?_ _ | refine blk_drew ?_ | refine blk_alloc ?_ _)); exact BK318.out) NB318_0.out (by simp)); have n2_ := Aside0.mk (KeepBut.trans Z142 hk (.inl rfl)); have n3_ := Aside0.mk (hb); have n4_ := Aside0.mk (hi); clear BK317; clear BK318; clear HK; clear HB; clear HI0; have BK317 := n0_; have BK318 := n1_; have HK := n2_; have HB := n3_; have HI0 := n4_; clear n0_ n1_ n2_ n3_ n4_; (try clear hb); (try clear hk); (try clear hi)))
 go_loopg [6] k (fun kq v6 w' => ∃ (x6_1 : Int) (x1001_1 : Int) (x319000_1 : List (S80)) (u319000 : Value), v6 = .int .i64 x6_1 ∧ Aside0 (spec_l20Table.l0 kq a1 x6_1 s0_0 x1001_1 x319000_1 = some (r1, r2)) ∧ Aside0 (kq ≤ k) ∧ Aside0 (Kd.R k80 80 w' w.heap.size (fun _ => True) u319000 x319000_1) ∧ Aside0 (w'.heap[gb317]? = some (.cells #[(.slice none 0 0)] 61 (0, 0))) ∧ Aside0 (w'.heap[gb318]? = some (.cells #[u319000] 61 (0, 0))) ∧ Aside0 (IsS76 w0 w' g s0_0 x1001_1) ∧ Aside0 (KeepBut w w' g none) ∧ Aside0 (Below w0.heap.size w0 w'))
 case atStart => exact ⟨(t319), (t320), (([] : List (S80))), (.slice none 0 0), Z1, H', ⟨Nat.le_refl _⟩, ⟨by first | exact Kd.R_nil _ _ _ _ _ | exact Kd.N_nil _ _ _ _ _ | exact Kd.V_nil _ _ _ _ _ | exact Kd.Q_nil _ _ _ _ _ | exact Kd.S_nil _ _ _ _ _⟩, ⟨by (with_reducible repeat (first | refine blk_drewN ?_ _ | refine blk_drew ?_ | refine blk_alloc ?_ _)); exact BK317.out⟩, ⟨by (with_reducible repeat (first | refine blk_drewN ?_ _ | refine blk_drew ?_ | refine blk_alloc ?_ _)); exact BK318.out⟩, ⟨by repeat (first | (with_reducible first | exact HI0.out | apply IsS76.alloc | apply IsS76.drewN | apply IsS76.drew | apply IsS76.set_1 | refine IsS76.far ?_ NB0_317.out _ | refine IsS76.far ?_ NB0_318.out _) | exact HI0.out)⟩, ⟨by repeat (first | (with_reducible first | exact HK.out | apply KeepBut.set_ | apply keep_drewN | apply keep_drew | apply keep_alloc | refine keep_far ?_ GW317.out _ | refine keep_far ?_ GW318.out _) | exact HK.out)⟩, ⟨by repeat (first | (with_reducible first | exact HB.out | apply below_alloc | apply pw_below_drewN | apply below_drew1 | refine below_set ?_ (IsS76.ge HI0.out) | refine below_set ?_ GE317.out | refine below_set ?_ GE318.out) | exact HB.out)⟩⟩
 case round =>
  clear H'
  try clear p2
  try clear c4
  try clear c6
  try clear c7
  try clear hcz8_0
  try clear hfz8_0
  obtain ⟨x6_1, x1001_1, x319000_1, u319000, rfl, HA, HK1, HO_319000, BK317, BK318, HI0, HK, HB⟩ := hrel
  cases gk with
  | zero => exact absurd HA.out (by simp [spec_l20Table.l0])
  | succ k1 =>
   have H := HA.out
   clear HA
   simp only [spec_l20Table.l0] at H
   by_cases c10 : x6_1 > 0
   ·rw [if_pos c10] at H
    have c10b0 : decide (0 < x6_1) = true := decide_eq_true c10
    clear c10
    replace H := Option.bind_eq_some_iff.mp H
    obtain ⟨⟨t321, t322, t323⟩, A110, H⟩ := H
    replace H : ((spec_MapPut.f k1 x319000_1 t321 t322).bind fun bt324 => (spec_l20Table.l0 k1 a1 (wrap64 (x6_1 - 1)) s0_0 t323 bt324.1)) = some (r1, r2) := H
    have A11 := Aside0.mk A110
    clear A110
    replace H := Option.bind_eq_some_iff.mp H
    obtain ⟨⟨t324, t327⟩, A120, H⟩ := H
    replace H : (spec_l20Table.l0 k1 a1 (wrap64 (x6_1 - 1)) s0_0 t323 t324) = some (r1, r2) := H
    have A12 := Aside0.mk A120
    clear A120
    have H' := Aside0.mk H
    clear H
    obtain ⟨Ao13, co13, eo13⟩ := Kd.R_slice HO_319000.out
    subst eo13
    try go_wp2
    have n0_ := Aside0.mk (Kd.R_drew HO_319000.out)
    have n1_ := Aside0.mk (blk_drew BK317.out)
    have n2_ := Aside0.mk (blk_drew BK318.out)
    have n3_ := Aside0.mk (IsS76.drew HI0.out)
    have n4_ := Aside0.mk (keep_drew HK.out)
    have n5_ := Aside0.mk (below_drew1 HB.out)
    clear HO_319000
    clear BK317
    clear BK318
    clear HI0
    clear HK
    clear HB
    have HO_319000 := n0_
    have BK317 := n1_
    have BK318 := n2_
    have HI0 := n3_
    have HK := n4_
    have HB := n5_
    clear n0_ n1_ n2_ n3_ n4_ n5_
    refine start_ (n := 10) (S := fun w' => w'.cell? ⟨gb318, 0, none⟩ = some (.slice Ao13 x319000_1.length co13)) (ds := []) #[false, false, false, false, false, false, false, false, false, false] (by kernel_rfl) rfl rfl ((blk_cell BK318.out 0).trans rfl) (fun hHeld => ?_); refine with_tabW spec_l20Table.tab5 spec_l20Table.bits5 (fun HT_ HW_ => ?_)
    generalize wr.drew = w14 at HO_319000 BK317 BK318 HI0 HK HB hHeld ⊢
    refine pure_ (i := 1) (N := some 18) (v := ?_) (a' := ?_) #[false, true, false, false, false, false, false, false, false, false] rfl rfl (any_of HT_.out (by kernel_rfl)) (fun _ _ _ h => h) (Or.inl ⟨by rfl, ?_⟩) ?_ ?_
    rotate_left
    ·intro w'
     go_simp
     with_reducible rfl
    rotate_left
    ·simp only [Act.put, List.setIfInBounds_toArray, List.set_cons_zero, List.set_cons_succ, i64_w, i32_w]
     rfl
    refine take_ (i := 0) (N := some 17) (v := ?_) (a' := ?_) #[true, true, false, false, false, false, false, false, false, false] rfl rfl (take_ofW HT_.out HW_.out (by kernel_rfl)) (fun _ _ _ h => h) (Or.inl ⟨by rfl, ?_⟩) hHeld ?_ ?_
    rotate_left
    ·intro w' s0
     go_simp
     with_reducible rfl
    rotate_left
    ·simp only [Act.put, List.setIfInBounds_toArray, List.set_cons_zero, List.set_cons_succ, i64_w, i32_w]
     rfl
    refine join_ (σ := Value × Nat) 2 #[true, true, true, true, true, true, true, true, false, false] (fun s_ => [(19, .agg #[.int .i64 t321, .int .i64 t322]), (20, .tuple #[.agg #[s_.1], .int .i64 t327]), (7, .pointer (some ⟨s_.2, 0, none⟩)), (16, .tuple #[.agg #[s_.1], .int .i64 t327]), (21, .agg #[s_.1]), (22, .int .i64 t327)]) (fun s_ w' => (w'.cell? ⟨gb318, 0, none⟩ = some (.slice Ao13 x319000_1.length co13)) ∧ (Kd.R k80 80 w' w.heap.size (fun k_ => some k_ ≠ (.slice Ao13 x319000_1.length co13 : Value).ownBlock) s_.1 t324) ∧ (Kd.R k80 80 w' w.heap.size (fun k_ => some k_ ≠ (s_.1 : Value).ownBlock) (.slice Ao13 x319000_1.length co13) x319000_1) ∧ (w'.heap[gb317]? = some (.cells #[.slice none 0 0] 61 (0, 0))) ∧ (w'.heap[gb318]? = some (.cells #[.slice Ao13 x319000_1.length co13] 61 (0, 0))) ∧ (w'.heap[s_.2]? = some (.cells #[.slice none 0 0] 61 (0, 0))) ∧ (w.heap.size ≤ s_.2) ∧ (w0.heap.size ≤ s_.2) ∧ (g ≠ s_.2) ∧ (s_.2 ≠ g) ∧ (gb317 ≠ s_.2) ∧ (s_.2 ≠ gb317) ∧ (gb318 ≠ s_.2) ∧ (s_.2 ≠ gb318) ∧ (IsS76 w0 w' g s0_0 t323) ∧ (KeepBut w w' g none) ∧ (Below w0.heap.size w0 w')) ?_ ?_
    rotate_left
    ·intro hCont
     refine two_ (i := 2) (j := 7) (Ni := some 19) (Nj := some 7) #[true, true, true, false, false, false, false, false, false, false] #[true, true, false, false, false, false, false, true, false, false] rfl rfl rfl rfl (two_of HT_.out (by kernel_rfl)) (by decide) (by decide) (fun K hK => ?_) (fun K hK => ?_)
     ·skip
      refine goes_ Try.func66 (by kernel_rfl) rfl #[.pointer (some ⟨g, 0, none⟩)] (by rfl) rfl rfl Z84 ?_
      with_reducible refine (spec_l20In.calls k1 g s0_0 x1001_1 t321 t322 t323 w0 _ ?side1 ?side2 A11.out).mono ?_
      (case side1 => exact Z146)
      (case side2 => exact Z157)
      rintro e w15 ⟨rfl, hi, hb, hk⟩
      refine ⟨_, rfl, ?_⟩
      have n0_ := Aside0.mk (Kd.R_mono (Kd.R_keep (IsS76.apart (show IsS76 w0 _ g s0_0 x1001_1 from by repeat (first | (with_reducible first | exact HI0.out | apply IsS76.alloc | apply IsS76.drewN | apply IsS76.drew | apply IsS76.set_1 | refine IsS76.far ?_ NB0_317.out _ | refine IsS76.far ?_ NB0_318.out _) | exact HI0.out)) Z24 (by decide)) hk (fun _ h => h.2)) (fun _ h => h.1))
      have n1_ := Aside0.mk (KeepBut.blk hk (g' := gb317) (o := .cells #[.slice none 0 0] 61 (0, 0)) Z43 NB317_0.out (by simp))
      have n2_ := Aside0.mk (KeepBut.blk hk (g' := gb318) (o := .cells #[.slice Ao13 x319000_1.length co13] 61 (0, 0)) Z44 NB318_0.out (by simp))
      have n3_ := Aside0.mk (KeepBut.trans Z142 hk (.inl rfl))
      have n4_ := Aside0.mk (hb)
      have n5_ := Aside0.mk (hi)
      clear HO_319000
      clear BK317
      clear BK318
      clear HK
      clear HB
      clear HI0
      have HO_319000 := n0_
      have BK317 := n1_
      have BK318 := n2_
      have HK := n3_
      have HB := n4_
      have HI0 := n5_
      clear n0_ n1_ n2_ n3_ n4_ n5_
      (try clear hb)
      (try clear hb2)
      (try clear hk)
      (try clear hi)
      refine hK.out _ _ ((blk_cell BK318.out 0).trans rfl) (fun hHeld => ?_)
      clear hK K
      refine norm_ (a' := ?_) ?_ ?_
      rotate_left
      ·show Act.put _ (some 19) _ = _
       simp only [Act.put, List.setIfInBounds_toArray, List.set_cons_zero, List.set_cons_succ, i64_w, i32_w]
       rfl
      refine two_ (i := 3) (j := 7) (Ni := some 20) (Nj := some 7) #[true, true, true, true, false, false, false, false, false, false] #[true, true, true, false, false, false, false, true, false, false] rfl rfl rfl rfl (two_of HT_.out (by kernel_rfl)) (by decide) (by decide) (fun K hK => ?_) (fun K hK => ?_)
      ·skip
       refine goes_ Try.func65 (by kernel_rfl) rfl #[.agg #[.slice Ao13 x319000_1.length co13], .agg #[.int .i64 t321, .int .i64 t322]] (by rfl) rfl rfl Z84 ?_
       with_reducible refine (spec_MapPut.calls k1 _ _ x319000_1 t321 t322 t324 t327 _ ?side1 ?side2 A12.out).mono ?_
       (case side1 => exact Z120)
       (case side2 => exact (Kd.R_reads' HO_319000.out).2.1)
       rintro e w16 ⟨v325, rfl, ho0, hb⟩
       refine ⟨_, rfl, ?_⟩
       have n0_ := Aside0.mk (Kd.R_elder' Z24 (Kd.R_base ho0) hb)
       have n1_ := Aside0.mk (Kd.R_lower (Kd.R_new' ho0 (Kd.R_lt Z24)) (keep_size (w := w) (g := g) (row := none) Z142))
       have n2_ := Aside0.mk (blk_below (g := gb317) (o := .cells #[.slice none 0 0] 61 (0, 0)) Z43 hb)
       have n3_ := Aside0.mk (blk_below (g := gb318) (o := .cells #[.slice Ao13 x319000_1.length co13] 61 (0, 0)) Z44 hb)
       have n4_ := Aside0.mk (IsS76.below Z147 hb)
       have n5_ := Aside0.mk (KeepBut.trans Z142 (KeepBut.of_below hb g none) (.inl rfl))
       have n6_ := Aside0.mk (below_step Z158 hb)
       clear HO_319000
       clear BK317
       clear BK318
       clear HI0
       clear HK
       clear HB
       have HO_319000 := n0_
       have HO326 := n1_
       have BK317 := n2_
       have BK318 := n3_
       have HI0 := n4_
       have HK := n5_
       have HB := n6_
       clear n0_ n1_ n2_ n3_ n4_ n5_ n6_
       (try clear hb)
       (try clear hb2)
       (try clear hk)
       (try clear hi)
       (try clear ho0)
       refine hK.out _ _ ((blk_cell BK318.out 0).trans rfl) (fun hHeld => ?_)
       clear hK K
       refine norm_ (a' := ?_) ?_ ?_
       rotate_left
       ·show Act.put _ (some 20) _ = _
        simp only [Act.put, List.setIfInBounds_toArray, List.set_cons_zero, List.set_cons_succ, i64_w, i32_w]
        rfl
       refine pure_ (i := 4) (N := some 16) (v := ?_) (a' := ?_) #[true, true, true, true, true, false, false, false, false, false] rfl rfl (any_of HT_.out (by kernel_rfl)) (fun _ _ _ h => h) (Or.inl ⟨by rfl, ?_⟩) ?_ ?_
       rotate_left
       ·intro w'
        go_simp
        with_reducible rfl
       rotate_left
       ·simp only [Act.put, List.setIfInBounds_toArray, List.set_cons_zero, List.set_cons_succ, i64_w, i32_w]
        rfl
       refine pure_ (i := 5) (N := some 21) (v := ?_) (a' := ?_) #[true, true, true, true, true, true, false, false, false, false] rfl rfl (any_of HT_.out (by kernel_rfl)) (fun _ _ _ h => h) (Or.inl ⟨by rfl, ?_⟩) ?_ ?_
       rotate_left
       ·intro w'
        go_simp
        with_reducible rfl
       rotate_left
       ·simp only [Act.put, List.setIfInBounds_toArray, List.set_cons_zero, List.set_cons_succ, i64_w, i32_w]
        rfl
       refine pure_ (i := 6) (N := some 22) (v := ?_) (a' := ?_) #[true, true, true, true, true, true, true, false, false, false] rfl rfl (any_of HT_.out (by kernel_rfl)) (fun _ _ _ h => h) (Or.inl ⟨by rfl, ?_⟩) ?_ ?_
       rotate_left
       ·intro w'
        go_simp
        with_reducible rfl
       rotate_left
       ·simp only [Act.put, List.setIfInBounds_toArray, List.set_cons_zero, List.set_cons_succ, i64_w, i32_w]
        rfl
       refine one_ (i := 7) (N := some 7) #[true, true, true, true, true, true, true, true, false, false] rfl rfl (one_of HT_.out (by kernel_rfl)) (by decide) (fun K hK => ?_)
       refine box_step ?hg (N := 7) ?hd (cs := #[.slice none 0 0]) (t := 61) ?hr ?_; (case hd => rfl); (case hg => rfl); (case hr => first | (go_simp; done) | (go_simp; rfl))
       intro gb328 hg w17 hbox hb
       have n0_ := Aside0.mk (Kd.R_below Z24 hb)
       have n1_ := Aside0.mk (Kd.R_below (by (with_reducible repeat (first | apply Kd.R_alloc | apply Kd.R_drewN | apply Kd.R_drew)); exact HO326.out) hb)
       have n2_ := Aside0.mk (blk_below (g := gb317) (o := .cells #[.slice none 0 0] 61 (0, 0)) Z43 hb)
       have n3_ := Aside0.mk (blk_below (g := gb318) (o := .cells #[.slice Ao13 x319000_1.length co13] 61 (0, 0)) Z44 hb)
       have n4_ := Aside0.mk (IsS76.below Z147 hb)
       have n5_ := Aside0.mk (KeepBut.trans Z142 (KeepBut.of_below hb g none) (.inl rfl))
       have n6_ := Aside0.mk (below_step Z158 hb)
       have n7_ := Aside0.mk (hbox)
       have n8_ := Aside0.mk ((Z201 : w.heap.size ≤ gb328))
       have n9_ := Aside0.mk ((Nat.le_trans HW0.out (Z201 : w.heap.size ≤ gb328) : w0.heap.size ≤ gb328))
       have n10_ := Aside0.mk ((Z202 : gb317 ≠ gb328))
       have n11_ := Aside0.mk ((Z203 : gb328 ≠ gb317))
       have n12_ := Aside0.mk ((Z232 : gb318 ≠ gb328))
       have n13_ := Aside0.mk ((Z233 : gb328 ≠ gb318))
       have n14_ := Aside0.mk ((Z175 : g ≠ gb328))
       have n15_ := Aside0.mk ((Z176 : gb328 ≠ g))
       clear HO_319000
       clear HO326
       clear BK317
       clear BK318
       clear HI0
       clear HK
       clear HB
       have HO_319000 := n0_
       have HO326 := n1_
       have BK317 := n2_
       have BK318 := n3_
       have HI0 := n4_
       have HK := n5_
       have HB := n6_
       have BK328 := n7_
       have GW328 := n8_
       have GE328 := n9_
       have NB317_328 := n10_
       have NB328_317 := n11_
       have NB318_328 := n12_
       have NB328_318 := n13_
       have NB0_328 := n14_
       have NB328_0 := n15_
       clear n0_ n1_ n2_ n3_ n4_ n5_ n6_ n7_ n8_ n9_ n10_ n11_ n12_ n13_ n14_ n15_
       clear hb hbox hg
       refine hK.out _ _ ((blk_cell BK318.out 0).trans rfl) (fun hHeld => ?_)
       clear hK K
       refine norm_ (a' := ?_) ?_ ?_
       rotate_left
       ·show Act.put _ (some 7) _ = _
        simp only [Act.put, List.setIfInBounds_toArray, List.set_cons_zero, List.set_cons_succ, i64_w, i32_w]
        rfl
       exact norm_ Z3 (hCont (v325, gb328) _ ⟨hHeld, Z81, Z83, Z43, Z44, Z45, GW328.out, GE328.out, NB0_328.out, NB328_0.out, NB317_328.out, NB328_317.out, NB318_328.out, NB328_318.out, Z165, Z159, Z166⟩)
      ·skip
       refine box_step ?hg (N := 7) ?hd (cs := #[.slice none 0 0]) (t := 61) ?hr ?_; (case hd => rfl); (case hg => rfl); (case hr => first | (go_simp; done) | (go_simp; rfl))
       intro gb328 hg w16 hbox hb
       have n0_ := Aside0.mk (Kd.R_below Z24 hb)
       have n1_ := Aside0.mk (blk_below (g := gb317) (o := .cells #[.slice none 0 0] 61 (0, 0)) Z43 hb)
       have n2_ := Aside0.mk (blk_below (g := gb318) (o := .cells #[.slice Ao13 x319000_1.length co13] 61 (0, 0)) Z44 hb)
       have n3_ := Aside0.mk (IsS76.below Z147 hb)
       have n4_ := Aside0.mk (KeepBut.trans Z142 (KeepBut.of_below hb g none) (.inl rfl))
       have n5_ := Aside0.mk (below_step Z158 hb)
       have n6_ := Aside0.mk (hbox)
       have n7_ := Aside0.mk ((Z201 : w.heap.size ≤ gb328))
       have n8_ := Aside0.mk ((Nat.le_trans HW0.out (Z201 : w.heap.size ≤ gb328) : w0.heap.size ≤ gb328))
       have n9_ := Aside0.mk ((Z202 : gb317 ≠ gb328))
       have n10_ := Aside0.mk ((Z203 : gb328 ≠ gb317))
       have n11_ := Aside0.mk ((Z232 : gb318 ≠ gb328))
       have n12_ := Aside0.mk ((Z233 : gb328 ≠ gb318))
       have n13_ := Aside0.mk ((Z175 : g ≠ gb328))
       have n14_ := Aside0.mk ((Z176 : gb328 ≠ g))
       clear HO_319000
       clear BK317
       clear BK318
       clear HI0
       clear HK
       clear HB
       have HO_319000 := n0_
       have BK317 := n1_
       have BK318 := n2_
       have HI0 := n3_
       have HK := n4_
       have HB := n5_
       have BK328 := n6_
       have GW328 := n7_
       have GE328 := n8_
       have NB317_328 := n9_
       have NB328_317 := n10_
       have NB318_328 := n11_
       have NB328_318 := n12_
       have NB0_328 := n13_
       have NB328_0 := n14_
       clear n0_ n1_ n2_ n3_ n4_ n5_ n6_ n7_ n8_ n9_ n10_ n11_ n12_ n13_ n14_
       clear hb hbox hg
       refine hK.out _ _ ((blk_cell BK318.out 0).trans rfl) (fun hHeld => ?_)
       clear hK K
       refine norm_ (a' := ?_) ?_ ?_
       rotate_left
       ·show Act.put _ (some 7) _ = _
        simp only [Act.put, List.setIfInBounds_toArray, List.set_cons_zero, List.set_cons_succ, i64_w, i32_w]
        rfl
       refine one_ (i := 3) (N := some 20) #[true, true, true, true, false, false, false, true, false, false] rfl rfl (one_of HT_.out (by kernel_rfl)) (by decide) (fun K hK => ?_)
       refine goes_ Try.func65 (by kernel_rfl) rfl #[.agg #[.slice Ao13 x319000_1.length co13], .agg #[.int .i64 t321, .int .i64 t322]] (by rfl) rfl rfl Z84 ?_
       with_reducible refine (spec_MapPut.calls k1 _ _ x319000_1 t321 t322 t324 t327 _ ?side1 ?side2 A12.out).mono ?_
       (case side1 => exact Z120)
       (case side2 => exact (Kd.R_reads' HO_319000.out).2.1)
       rintro e w17 ⟨v325, rfl, ho0, hb⟩
       refine ⟨_, rfl, ?_⟩
       have n0_ := Aside0.mk (Kd.R_elder' Z24 (Kd.R_base ho0) hb)
       have n1_ := Aside0.mk (Kd.R_lower (Kd.R_new' ho0 (Kd.R_lt Z24)) (keep_size (w := w) (g := g) (row := none) Z159))
       have n2_ := Aside0.mk (blk_below (g := gb317) (o := .cells #[.slice none 0 0] 61 (0, 0)) Z43 hb)
       have n3_ := Aside0.mk (blk_below (g := gb318) (o := .cells #[.slice Ao13 x319000_1.length co13] 61 (0, 0)) Z44 hb)
       have n4_ := Aside0.mk (IsS76.below Z165 hb)
       have n5_ := Aside0.mk (blk_below (g := gb328) (o := .cells #[.slice none 0 0] 61 (0, 0)) Z45 hb)
       have n6_ := Aside0.mk (KeepBut.trans Z159 (KeepBut.of_below hb g none) (.inl rfl))
       have n7_ := Aside0.mk (below_step Z166 hb)
       clear HO_319000
       clear BK317
       clear BK318
       clear HI0
       clear BK328
       clear HK
       clear HB
       have HO_319000 := n0_
       have HO326 := n1_
       have BK317 := n2_
       have BK318 := n3_
       have HI0 := n4_
       have BK328 := n5_
       have HK := n6_
       have HB := n7_
       clear n0_ n1_ n2_ n3_ n4_ n5_ n6_ n7_
       (try clear hb)
       (try clear hb2)
       (try clear hk)
       (try clear hi)
       (try clear ho0)
       refine hK.out _ _ ((blk_cell BK318.out 0).trans rfl) (fun hHeld => ?_)
       clear hK K
       refine norm_ (a' := ?_) ?_ ?_
       rotate_left
       ·show Act.put _ (some 20) _ = _
        simp only [Act.put, List.setIfInBounds_toArray, List.set_cons_zero, List.set_cons_succ, i64_w, i32_w]
        rfl
       refine pure_ (i := 4) (N := some 16) (v := ?_) (a' := ?_) #[true, true, true, true, true, false, false, true, false, false] rfl rfl (any_of HT_.out (by kernel_rfl)) (fun _ _ _ h => h) (Or.inl ⟨by rfl, ?_⟩) ?_ ?_
       rotate_left
       ·intro w'
        go_simp
        with_reducible rfl
       rotate_left
       ·simp only [Act.put, List.setIfInBounds_toArray, List.set_cons_zero, List.set_cons_succ, i64_w, i32_w]
        rfl
       refine pure_ (i := 5) (N := some 21) (v := ?_) (a' := ?_) #[true, true, true, true, true, true, false, true, false, false] rfl rfl (any_of HT_.out (by kernel_rfl)) (fun _ _ _ h => h) (Or.inl ⟨by rfl, ?_⟩) ?_ ?_
       rotate_left
       ·intro w'
        go_simp
        with_reducible rfl
       rotate_left
       ·simp only [Act.put, List.setIfInBounds_toArray, List.set_cons_zero, List.set_cons_succ, i64_w, i32_w]
        rfl
       refine pure_ (i := 6) (N := some 22) (v := ?_) (a' := ?_) #[true, true, true, true, true, true, true, true, false, false] rfl rfl (any_of HT_.out (by kernel_rfl)) (fun _ _ _ h => h) (Or.inl ⟨by rfl, ?_⟩) ?_ ?_
       rotate_left
       ·intro w'
        go_simp
        with_reducible rfl
       rotate_left
       ·simp only [Act.put, List.setIfInBounds_toArray, List.set_cons_zero, List.set_cons_succ, i64_w, i32_w]
        rfl
       exact norm_ Z3 (hCont (v325, gb328) _ ⟨hHeld, Z81, Z83, Z43, Z44, Z45, GW328.out, GE328.out, NB0_328.out, NB328_0.out, NB317_328.out, NB328_317.out, NB318_328.out, NB328_318.out, Z165, Z159, Z166⟩)
     ·skip
      refine box_step ?hg (N := 7) ?hd (cs := #[.slice none 0 0]) (t := 61) ?hr ?_; (case hd => rfl); (case hg => rfl); (case hr => first | (go_simp; done) | (go_simp; rfl))
      intro gb328 hg w15 hbox hb
      have n0_ := Aside0.mk (Kd.R_below Z24 hb)
      have n1_ := Aside0.mk (blk_below (g := gb317) (o := .cells #[.slice none 0 0] 61 (0, 0)) Z43 hb)
      have n2_ := Aside0.mk (blk_below (g := gb318) (o := .cells #[.slice Ao13 x319000_1.length co13] 61 (0, 0)) Z44 hb)
      have n3_ := Aside0.mk (IsS76.below Z147 hb)
      have n4_ := Aside0.mk (KeepBut.trans Z142 (KeepBut.of_below hb g none) (.inl rfl))
      have n5_ := Aside0.mk (below_step Z158 hb)
      have n6_ := Aside0.mk (hbox)
      have n7_ := Aside0.mk ((Z201 : w.heap.size ≤ gb328))
      have n8_ := Aside0.mk ((Nat.le_trans HW0.out (Z201 : w.heap.size ≤ gb328) : w0.heap.size ≤ gb328))
      have n9_ := Aside0.mk ((Z202 : gb317 ≠ gb328))
      have n10_ := Aside0.mk ((Z203 : gb328 ≠ gb317))
      have n11_ := Aside0.mk ((Z232 : gb318 ≠ gb328))
      have n12_ := Aside0.mk ((Z233 : gb328 ≠ gb318))
      have n13_ := Aside0.mk ((by rw [hg]; exact Nat.ne_of_lt (IsS76.lt (show IsS76 w0 _ g s0_0 x1001_1 from by repeat (first | (with_reducible first | exact HI0.out | apply IsS76.alloc | apply IsS76.drewN | apply IsS76.drew | apply IsS76.set_1 | refine IsS76.far ?_ NB0_317.out _ | refine IsS76.far ?_ NB0_318.out _) | exact HI0.out))) : g ≠ gb328))
      have n14_ := Aside0.mk ((by rw [hg]; exact Nat.ne_of_gt (IsS76.lt (show IsS76 w0 _ g s0_0 x1001_1 from by repeat (first | (with_reducible first | exact HI0.out | apply IsS76.alloc | apply IsS76.drewN | apply IsS76.drew | apply IsS76.set_1 | refine IsS76.far ?_ NB0_317.out _ | refine IsS76.far ?_ NB0_318.out _) | exact HI0.out))) : gb328 ≠ g))
      clear HO_319000
      clear BK317
      clear BK318
      clear HI0
      clear HK
      clear HB
      have HO_319000 := n0_
      have BK317 := n1_
      have BK318 := n2_
      have HI0 := n3_
      have HK := n4_
      have HB := n5_
      have BK328 := n6_
      have GW328 := n7_
      have GE328 := n8_
      have NB317_328 := n9_
      have NB328_317 := n10_
      have NB318_328 := n11_
      have NB328_318 := n12_
      have NB0_328 := n13_
      have NB328_0 := n14_
      clear n0_ n1_ n2_ n3_ n4_ n5_ n6_ n7_ n8_ n9_ n10_ n11_ n12_ n13_ n14_
      clear hb hbox hg
      refine hK.out _ _ ((blk_cell BK318.out 0).trans rfl) (fun hHeld => ?_)
      clear hK K
      refine norm_ (a' := ?_) ?_ ?_
      rotate_left
      ·show Act.put _ (some 7) _ = _
       simp only [Act.put, List.setIfInBounds_toArray, List.set_cons_zero, List.set_cons_succ, i64_w, i32_w]
       rfl
      refine one_ (i := 2) (N := some 19) #[true, true, true, false, false, false, false, true, false, false] rfl rfl (one_of HT_.out (by kernel_rfl)) (by decide) (fun K hK => ?_)
      refine goes_ Try.func66 (by kernel_rfl) rfl #[.pointer (some ⟨g, 0, none⟩)] (by rfl) rfl rfl Z84 ?_
      with_reducible refine (spec_l20In.calls k1 g s0_0 x1001_1 t321 t322 t323 w0 _ ?side1 ?side2 A11.out).mono ?_
      (case side1 => repeat (first | (with_reducible first | exact HI0.out | apply IsS76.alloc | apply IsS76.drewN | apply IsS76.drew | apply IsS76.set_1 | refine IsS76.far ?_ NB0_317.out _ | refine IsS76.far ?_ NB0_318.out _ | refine IsS76.far ?_ NB0_328.out _) | exact HI0.out))
      (case side2 => repeat (first | (with_reducible first | exact HB.out | apply below_alloc | apply pw_below_drewN | apply below_drew1 | refine below_set ?_ (IsS76.ge HI0.out) | refine below_set ?_ GE317.out | refine below_set ?_ GE318.out | refine below_set ?_ GE328.out) | exact HB.out))
      rintro e w16 ⟨rfl, hi, hb, hk⟩
      refine ⟨_, rfl, ?_⟩
      have n0_ := Aside0.mk (Kd.R_mono (Kd.R_keep (IsS76.apart (show IsS76 w0 _ g s0_0 x1001_1 from by repeat (first | (with_reducible first | exact HI0.out | apply IsS76.alloc | apply IsS76.drewN | apply IsS76.drew | apply IsS76.set_1 | refine IsS76.far ?_ NB0_317.out _ | refine IsS76.far ?_ NB0_318.out _ | refine IsS76.far ?_ NB0_328.out _) | exact HI0.out)) Z24 (by decide)) hk (fun _ h => h.2)) (fun _ h => h.1))
      have n1_ := Aside0.mk (KeepBut.blk hk (g' := gb317) (o := .cells #[.slice none 0 0] 61 (0, 0)) Z43 NB317_0.out (by simp))
      have n2_ := Aside0.mk (KeepBut.blk hk (g' := gb318) (o := .cells #[.slice Ao13 x319000_1.length co13] 61 (0, 0)) Z44 NB318_0.out (by simp))
      have n3_ := Aside0.mk (KeepBut.blk hk (g' := gb328) (o := .cells #[.slice none 0 0] 61 (0, 0)) Z45 NB328_0.out (by simp))
      have n4_ := Aside0.mk (KeepBut.trans Z159 hk (.inl rfl))
      have n5_ := Aside0.mk (hb)
      have n6_ := Aside0.mk (hi)
      clear HO_319000
      clear BK317
      clear BK318
      clear BK328
      clear HK
      clear HB
      clear HI0
      have HO_319000 := n0_
      have BK317 := n1_
      have BK318 := n2_
      have BK328 := n3_
      have HK := n4_
      have HB := n5_
      have HI0 := n6_
      clear n0_ n1_ n2_ n3_ n4_ n5_ n6_
      (try clear hb)
      (try clear hb2)
      (try clear hk)
      (try clear hi)
      refine hK.out _ _ ((blk_cell BK318.out 0).trans rfl) (fun hHeld => ?_)
      clear hK K
      refine norm_ (a' := ?_) ?_ ?_
      rotate_left
      ·show Act.put _ (some 19) _ = _
       simp only [Act.put, List.setIfInBounds_toArray, List.set_cons_zero, List.set_cons_succ, i64_w, i32_w]
       rfl
      refine one_ (i := 3) (N := some 20) #[true, true, true, true, false, false, false, true, false, false] rfl rfl (one_of HT_.out (by kernel_rfl)) (by decide) (fun K hK => ?_)
      refine goes_ Try.func65 (by kernel_rfl) rfl #[.agg #[.slice Ao13 x319000_1.length co13], .agg #[.int .i64 t321, .int .i64 t322]] (by rfl) rfl rfl Z84 ?_
      with_reducible refine (spec_MapPut.calls k1 _ _ x319000_1 t321 t322 t324 t327 _ ?side1 ?side2 A12.out).mono ?_
      (case side1 => exact Z120)
      (case side2 => exact (Kd.R_reads' HO_319000.out).2.1)
      rintro e w17 ⟨v325, rfl, ho0, hb⟩
      refine ⟨_, rfl, ?_⟩
      have n0_ := Aside0.mk (Kd.R_elder' Z24 (Kd.R_base ho0) hb)
      have n1_ := Aside0.mk (Kd.R_lower (Kd.R_new' ho0 (Kd.R_lt Z24)) (keep_size (w := w) (g := g) (row := none) Z159))
      have n2_ := Aside0.mk (blk_below (g := gb317) (o := .cells #[.slice none 0 0] 61 (0, 0)) Z43 hb)
      have n3_ := Aside0.mk (blk_below (g := gb318) (o := .cells #[.slice Ao13 x319000_1.length co13] 61 (0, 0)) Z44 hb)
      have n4_ := Aside0.mk (IsS76.below Z165 hb)
      have n5_ := Aside0.mk (blk_below (g := gb328) (o := .cells #[.slice none 0 0] 61 (0, 0)) Z45 hb)
      have n6_ := Aside0.mk (KeepBut.trans Z159 (KeepBut.of_below hb g none) (.inl rfl))
      have n7_ := Aside0.mk (below_step Z166 hb)
      clear HO_319000
      clear BK317
      clear BK318
      clear HI0
      clear BK328
      clear HK
      clear HB
      have HO_319000 := n0_
      have HO326 := n1_
      have BK317 := n2_
      have BK318 := n3_
      have HI0 := n4_
      have BK328 := n5_
      have HK := n6_
      have HB := n7_
      clear n0_ n1_ n2_ n3_ n4_ n5_ n6_ n7_
      (try clear hb)
      (try clear hb2)
      (try clear hk)
      (try clear hi)
      (try clear ho0)
      refine hK.out _ _ ((blk_cell BK318.out 0).trans rfl) (fun hHeld => ?_)
      clear hK K
      refine norm_ (a' := ?_) ?_ ?_
      rotate_left
      ·show Act.put _ (some 20) _ = _
       simp only [Act.put, List.setIfInBounds_toArray, List.set_cons_zero, List.set_cons_succ, i64_w, i32_w]
       rfl
      refine pure_ (i := 4) (N := some 16) (v := ?_) (a' := ?_) #[true, true, true, true, true, false, false, true, false, false] rfl rfl (any_of HT_.out (by kernel_rfl)) (fun _ _ _ h => h) (Or.inl ⟨by rfl, ?_⟩) ?_ ?_
      rotate_left
      ·intro w'
       go_simp
       with_reducible rfl
      rotate_left
      ·simp only [Act.put, List.setIfInBounds_toArray, List.set_cons_zero, List.set_cons_succ, i64_w, i32_w]
       rfl
      refine pure_ (i := 5) (N := some 21) (v := ?_) (a' := ?_) #[true, true, true, true, true, true, false, true, false, false] rfl rfl (any_of HT_.out (by kernel_rfl)) (fun _ _ _ h => h) (Or.inl ⟨by rfl, ?_⟩) ?_ ?_
      rotate_left
      ·intro w'
       go_simp
       with_reducible rfl
      rotate_left
      ·simp only [Act.put, List.setIfInBounds_toArray, List.set_cons_zero, List.set_cons_succ, i64_w, i32_w]
       rfl
      refine pure_ (i := 6) (N := some 22) (v := ?_) (a' := ?_) #[true, true, true, true, true, true, true, true, false, false] rfl rfl (any_of HT_.out (by kernel_rfl)) (fun _ _ _ h => h) (Or.inl ⟨by rfl, ?_⟩) ?_ ?_
      rotate_left
      ·intro w'
       go_simp
       with_reducible rfl
      rotate_left
      ·simp only [Act.put, List.setIfInBounds_toArray, List.set_cons_zero, List.set_cons_succ, i64_w, i32_w]
       rfl
      exact norm_ Z3 (hCont (v325, gb328) _ ⟨hHeld, Z81, Z83, Z43, Z44, Z45, GW328.out, GE328.out, NB0_328.out, NB328_0.out, NB317_328.out, NB328_317.out, NB318_328.out, NB328_318.out, Z165, Z159, Z166⟩)
    rintro ⟨v325, gb328⟩ w18 ⟨hS_, h0_, h1_, h2_, h3_, h4_, h5_, h6_, h7_, h8_, h9_, h10_, h11_, h12_, h13_, h14_, h15_⟩
    have n0_ : Aside0 (Kd.R k80 80 w18 w.heap.size (fun k_ => some k_ ≠ (.slice Ao13 x319000_1.length co13 : Value).ownBlock) v325 t324) := ⟨h0_⟩
    have n1_ : Aside0 (Kd.R k80 80 w18 w.heap.size (fun k_ => some k_ ≠ (v325 : Value).ownBlock) (.slice Ao13 x319000_1.length co13) x319000_1) := ⟨h1_⟩
    have n2_ : Aside0 (w18.heap[gb317]? = some (.cells #[.slice none 0 0] 61 (0, 0))) := ⟨h2_⟩
    have n3_ : Aside0 (w18.heap[gb318]? = some (.cells #[.slice Ao13 x319000_1.length co13] 61 (0, 0))) := ⟨h3_⟩
    have n4_ : Aside0 (w18.heap[gb328]? = some (.cells #[.slice none 0 0] 61 (0, 0))) := ⟨h4_⟩
    have n5_ : Aside0 (w.heap.size ≤ gb328) := ⟨h5_⟩
    have n6_ : Aside0 (w0.heap.size ≤ gb328) := ⟨h6_⟩
    have n7_ : Aside0 (g ≠ gb328) := ⟨h7_⟩
    have n8_ : Aside0 (gb328 ≠ g) := ⟨h8_⟩
    have n9_ : Aside0 (gb317 ≠ gb328) := ⟨h9_⟩
    have n10_ : Aside0 (gb328 ≠ gb317) := ⟨h10_⟩
    have n11_ : Aside0 (gb318 ≠ gb328) := ⟨h11_⟩
    have n12_ : Aside0 (gb328 ≠ gb318) := ⟨h12_⟩
    have n13_ : Aside0 (IsS76 w0 w18 g s0_0 t323) := ⟨h13_⟩
    have n14_ : Aside0 (KeepBut w w18 g none) := ⟨h14_⟩
    have n15_ : Aside0 (Below w0.heap.size w0 w18) := ⟨h15_⟩
    clear HO_319000
    clear BK317
    clear BK318
    clear HI0
    clear HK
    clear HB
    clear h0_ h1_ h2_ h3_ h4_ h5_ h6_ h7_ h8_ h9_ h10_ h11_ h12_ h13_ h14_ h15_
    have HO326 := n0_
    have HO_319000 := n1_
    have BK317 := n2_
    have BK318 := n3_
    have BK328 := n4_
    have GW328 := n5_
    have GE328 := n6_
    have NB0_328 := n7_
    have NB328_0 := n8_
    have NB317_328 := n9_
    have NB328_317 := n10_
    have NB318_328 := n11_
    have NB328_318 := n12_
    have HI0 := n13_
    have HK := n14_
    have HB := n15_
    clear n0_ n1_ n2_ n3_ n4_ n5_ n6_ n7_ n8_ n9_ n10_ n11_ n12_ n13_ n14_ n15_
    have hHeld : w18.cell? ⟨gb318, 0, none⟩ = some (.slice Ao13 x319000_1.length co13) := hS_
    obtain ⟨Ao19, co19, eo19⟩ := Kd.R_slice HO326.out
    (first | subst eo19 | (injection eo19 with f1_ f2_ f3_; have f4_ := f1_.symm; have f5_ := f3_.symm; clear f1_ f2_ f3_; subst f4_; subst f5_))
    refine norm_ (a' := ?_) ?_ ?_
    rotate_left
    ·simp only [putAll, Act.put, List.setIfInBounds_toArray, List.set_cons_zero, List.set_cons_succ]
     rfl
    refine one_ (i := 8) (N := none) #[true, true, true, true, true, true, true, true, true, false] rfl rfl (one_of HT_.out (by kernel_rfl)) (by decide) (fun K hK => ?_)
    have hs20 : w18.cell? ⟨gb328, 0, none⟩ = some (.slice none 0 0) := (blk_cell BK328.out 0).trans rfl
    have hfs20 := blk_frozen BK328.out 0
    have hns20_0 := NB317_328.out
    have hns20_1 := NB318_328.out
    have hms20_0 := NB328_317.out
    have hms20_1 := NB328_318.out
    refine skip_ (w1 := ?_) (by rfl) rfl ?_ ?_
    rotate_left
    ·go_simp
     rfl
    refine hK.out _ _ (((cell_far (p := ⟨gb328, _, none⟩) NB318_328.out _).trans (hHeld))) (fun hHeld => ?_)
    clear hK K
    refine pure_ (i := 9) (N := some 8) (v := ?_) (a' := ?_) #[true, true, true, true, true, true, true, true, true, true] rfl rfl (any_of HT_.out (by kernel_rfl)) (fun _ _ _ h => h) (Or.inl ⟨by rfl, ?_⟩) ?_ ?_
    rotate_left
    ·intro w'
     go_simp
     with_reducible rfl
    rotate_left
    ·simp only [Act.put, List.setIfInBounds_toArray, List.set_cons_zero, List.set_cons_succ, i64_w, i32_w]
     rfl
    refine done_ (done_of HT_.out (by kernel_rfl)) ?_
    have hnb21 := NB328_317.out
    have hnc21 := NB317_328.out
    have hnb22 := NB328_318.out
    have hnc22 := NB318_328.out
    have hnb23 := NB328_0.out
    have hnc23 := NB0_328.out
    have hcz24_0 : w18.cell? ⟨gb328, 0, none⟩ = some (.slice none 0 0) := (blk_cell BK328.out 0).trans rfl
    have hfz24_0 := blk_frozen BK328.out 0
    have hnb25 := NB318_317.out
    have hnc25 := NB317_318.out
    have hnb26 := NB318_0.out
    have hnc26 := NB0_318.out
    have hcz27_0 : w18.cell? ⟨gb318, 0, none⟩ = some (.slice Ao13 x319000_1.length co13) := (blk_cell BK318.out 0).trans rfl
    have hfz27_0 := blk_frozen BK318.out 0
    try go_wp2
    go_roundg k1
    case measure => have := HK1.out; omega
    case rel => exact ⟨(wrap64 (x6_1 - 1)), (t323), (t324), (.slice Ao19 t324.length co19), Z1, H', ⟨by have := HK1.out; omega⟩, ⟨by (with_reducible repeat (first | apply Kd.R_alloc | apply Kd.R_drewN | apply Kd.R_drew)); exact Kd.R_mono (Kd.R_far (p := ⟨gb318, 0, none⟩) (Kd.R_far (p := ⟨gb328, 0, none⟩) (Kd.R_types (Kd.R_types HO326.out BK328.out (by decide)) BK318.out (by decide)) (fun _ hk => hk.1.2) (.slice Ao19 t324.length co19)) (fun _ hk => hk.2) (.slice Ao19 t324.length co19)) (fun _ hk => trivial)⟩, ⟨by (with_reducible repeat (first | refine blk_drewN ?_ _ | refine blk_drew ?_ | refine blk_alloc ?_ _)); refine blk_far ?_ NB317_318.out _; (with_reducible repeat (first | refine blk_drewN ?_ _ | refine blk_drew ?_ | refine blk_alloc ?_ _)); refine blk_far ?_ NB317_328.out _; (with_reducible repeat (first | refine blk_drewN ?_ _ | refine blk_drew ?_ | refine blk_alloc ?_ _)); exact BK317.out⟩, ⟨by (with_reducible repeat (first | refine blk_drewN ?_ _ | refine blk_drew ?_ | refine blk_alloc ?_ _)); refine blk_put (cs := #[.slice Ao13 x319000_1.length co13]) ?_ 0 _ rfl; (with_reducible repeat (first | refine blk_drewN ?_ _ | refine blk_drew ?_ | refine blk_alloc ?_ _)); refine blk_far ?_ NB318_328.out _; (with_reducible repeat (first | refine blk_drewN ?_ _ | refine blk_drew ?_ | refine blk_alloc ?_ _)); exact BK318.out⟩, ⟨by repeat (first | (with_reducible first | exact HI0.out | apply IsS76.alloc | apply IsS76.drewN | apply IsS76.drew | apply IsS76.set_1 | refine IsS76.far ?_ NB0_317.out _ | refine IsS76.far ?_ NB0_318.out _ | refine IsS76.far ?_ NB0_328.out _) | exact HI0.out)⟩, ⟨by repeat (first | (with_reducible first | exact HK.out | apply KeepBut.set_ | apply keep_drewN | apply keep_drew | apply keep_alloc | refine keep_far ?_ GW317.out _ | refine keep_far ?_ GW318.out _ | refine keep_far ?_ GW328.out _) | exact HK.out)⟩, ⟨by repeat (first | (with_reducible first | exact HB.out | apply below_alloc | apply pw_below_drewN | apply below_drew1 | refine below_set ?_ (IsS76.ge HI0.out) | refine below_set ?_ GE317.out | refine below_set ?_ GE318.out | refine below_set ?_ GE328.out) | exact HB.out)⟩⟩
   ·rw [if_neg c10] at H
    have c10b0 : decide (0 < x6_1) = false := decide_eq_false c10
    clear c10
    replace H := Option.bind_eq_some_iff.mp H
    obtain ⟨⟨t329, t330⟩, A280, H⟩ := H
    replace H : (if t329 = true then ((spec_l20Rd_pick.f k1 s0_0 t330 3).bind fun bt331 => (if bt331.1 = 0 then ((spec_l20Out.f k1 s0_0 bt331.2).bind fun bt333 => (if x319000_1.length < 8796093022208 then (some ((x319000_1 ++ [(⟨bt333.1, bt333.2.1⟩ : S80)]), bt333.2.2)) else (none))) else (if bt331.1 = 1 then (if x319000_1.length < 8796093022208 then ((some (x319000_1 ++ [(⟨9, 9⟩ : S80)] : List (S80))).bind fun y339 => (if y339.length < 8796093022208 then (some ((y339 ++ [(⟨9, 9⟩ : S80)]), bt331.2)) else (none))) else (none)) else (spec_l20Table.l1 k1 s0_0 bt331.2 x319000_1)))) else (some (x319000_1, t330))) = some (r1, r2) := H
    have A28 := Aside0.mk A280
    clear A280
    by_cases c29 : t329 = true
    ·subst c29
     have H1 : ((spec_l20Rd_pick.f k1 s0_0 t330 3).bind fun bt331 => (if bt331.1 = 0 then ((spec_l20Out.f k1 s0_0 bt331.2).bind fun bt333 => (if x319000_1.length < 8796093022208 then (some ((x319000_1 ++ [(⟨bt333.1, bt333.2.1⟩ : S80)]), bt333.2.2)) else (none))) else (if bt331.1 = 1 then (if x319000_1.length < 8796093022208 then ((some (x319000_1 ++ [(⟨9, 9⟩ : S80)] : List (S80))).bind fun y339 => (if y339.length < 8796093022208 then (some ((y339 ++ [(⟨9, 9⟩ : S80)]), bt331.2)) else (none))) else (none)) else (spec_l20Table.l1 k1 s0_0 bt331.2 x319000_1)))) = some (r1, r2) := by rw [if_pos rfl] at H; exact H
     clear H
     have H := H1
     clear H1
     replace H := Option.bind_eq_some_iff.mp H
     obtain ⟨⟨t331, t332⟩, A300, H⟩ := H
     replace H : (if t331 = 0 then ((spec_l20Out.f k1 s0_0 t332).bind fun bt333 => (if x319000_1.length < 8796093022208 then (some ((x319000_1 ++ [(⟨bt333.1, bt333.2.1⟩ : S80)]), bt333.2.2)) else (none))) else (if t331 = 1 then (if x319000_1.length < 8796093022208 then ((some (x319000_1 ++ [(⟨9, 9⟩ : S80)] : List (S80))).bind fun y339 => (if y339.length < 8796093022208 then (some ((y339 ++ [(⟨9, 9⟩ : S80)]), t332)) else (none))) else (none)) else (spec_l20Table.l1 k1 s0_0 t332 x319000_1))) = some (r1, r2) := H
     have A30 := Aside0.mk A300
     clear A300
     by_cases c31 : t331 = 0
     ·rw [if_pos c31] at H
      have c31b0 : (t331 == 0) = true := beq_iff_eq.mpr c31
      have c31b1 : (t331 != 0) = false := bne_eq_false_iff_eq.mpr c31
      clear c31
      replace H := Option.bind_eq_some_iff.mp H
      obtain ⟨⟨t333, t334, t335⟩, A320, H⟩ := H
      replace H : (if x319000_1.length < 8796093022208 then (some ((x319000_1 ++ [(⟨t333, t334⟩ : S80)]), t335)) else (none)) = some (r1, r2) := H
      have A32 := Aside0.mk A320
      clear A320
      by_cases c33 : x319000_1.length < 8796093022208
      ·rw [if_pos c33] at H
       have LMc33 := Aside0.mk c33
       clear c33
       obtain ⟨y336, hy336⟩ : ∃ y_ : List (S80), y_ = (x319000_1 ++ [(⟨t333, t334⟩ : S80)]) := ⟨_, rfl⟩
       replace H : (some (y336, t335)) = some (r1, r2) := by first | (rw [hy336]; with_reducible exact H) | (have H2_ := (Option.bind_some _ _).symm.trans H; rw [hy336]; with_reducible exact H2_) | (have H2_ := (Option.bind_some _ _).symm.trans H; with_reducible exact H2_) | with_reducible exact H | (rw [hy336]; exact H) | exact H
       have Ny336 := Aside0.mk hy336
       clear hy336
       simp only [Option.some.injEq, Prod.mk.injEq] at H
       obtain ⟨rfl, rfl⟩ := H
       try go_wp2_with (first | ((with_reducible refine gate_callee (f := 63) rfl ?_); refine goesL_ (some 26) rfl rfl Try.func63 (by kernel_rfl) rfl #[.pointer (some ⟨g, 0, none⟩), .int .i64 a1] rfl Z84 ?_; (with_reducible refine (spec_l20Rd_odd.calls k1 g s0_0 x1001_1 a1 true t330 w0 _ ?side1 ?side2 A28.out).mono ?_); (case side1 => exact Z146); (case side2 => exact Z157); rintro e w34 ⟨rfl, hi, hb, hk⟩; refine ⟨_, rfl, ?_⟩; have n0_ := Aside0.mk (Kd.R_mono (Kd.R_keep (IsS76.apart (show IsS76 w0 _ g s0_0 x1001_1 from by repeat (first | (with_reducible first | exact HI0.out | apply IsS76.alloc | apply IsS76.drewN | apply IsS76.drew | apply IsS76.set_1 | refine IsS76.far ?_ NB0_317.out _ | refine IsS76.far ?_ NB0_318.out _) | exact HI0.out)) Z24 (by decide)) hk (fun _ h => h.2)) (fun _ h => h.1)); have n1_ := Aside0.mk (KeepBut.blk hk (g' := gb317) (o := .cells #[.slice none 0 0] 61 (0, 0)) Z43 NB317_0.out (by simp)); have n2_ := Aside0.mk (KeepBut.blk hk (g' := gb318) (o := .cells #[u319000] 61 (0, 0)) Z44 NB318_0.out (by simp)); have n3_ := Aside0.mk (KeepBut.trans Z142 hk (.inl rfl)); have n4_ := Aside0.mk (hb); have n5_ := Aside0.mk (hi); clear HO_319000; clear BK317; clear BK318; clear HK; clear HB; clear HI0; have HO_319000 := n0_; have BK317 := n1_; have BK318 := n2_; have HK := n3_; have HB := n4_; have HI0 := n5_; clear n0_ n1_ n2_ n3_ n4_ n5_; (try clear hb); (try clear hk); (try clear hi)) | ((with_reducible refine gate_callee (f := 49) rfl ?_); refine goesL_ (some 28) rfl rfl Try.func49 (by kernel_rfl) rfl #[.pointer (some ⟨g, 0, none⟩), .int .i64 3] rfl Z84 ?_; (with_reducible refine (spec_l20Rd_pick.calls k1 g s0_0 t330 3 t331 t332 w0 _ ?side1 ?side2 A30.out).mono ?_); (case side1 => exact Z146); (case side2 => exact Z157); rintro e w35 ⟨rfl, hi, hb, hk⟩; refine ⟨_, rfl, ?_⟩; have n0_ := Aside0.mk (Kd.R_mono (Kd.R_keep (IsS76.apart (show IsS76 w0 _ g s0_0 t330 from by repeat (first | (with_reducible first | exact HI0.out | apply IsS76.alloc | apply IsS76.drewN | apply IsS76.drew | apply IsS76.set_1 | refine IsS76.far ?_ NB0_317.out _ | refine IsS76.far ?_ NB0_318.out _) | exact HI0.out)) Z24 (by decide)) hk (fun _ h => h.2)) (fun _ h => h.1)); have n1_ := Aside0.mk (KeepBut.blk hk (g' := gb317) (o := .cells #[.slice none 0 0] 61 (0, 0)) Z43 NB317_0.out (by simp)); have n2_ := Aside0.mk (KeepBut.blk hk (g' := gb318) (o := .cells #[u319000] 61 (0, 0)) Z44 NB318_0.out (by simp)); have n3_ := Aside0.mk (KeepBut.trans Z142 hk (.inl rfl)); have n4_ := Aside0.mk (hb); have n5_ := Aside0.mk (hi); clear HO_319000; clear BK317; clear BK318; clear HK; clear HB; clear HI0; have HO_319000 := n0_; have BK317 := n1_; have BK318 := n2_; have HK := n3_; have HB := n4_; have HI0 := n5_; clear n0_ n1_ n2_ n3_ n4_ n5_; (try clear hb); (try clear hk); (try clear hi)))
       have n0_ := Aside0.mk (Kd.R_drew HO_319000.out)
       have n1_ := Aside0.mk (blk_drew BK317.out)
       have n2_ := Aside0.mk (blk_drew BK318.out)
       have n3_ := Aside0.mk (IsS76.drew HI0.out)
       have n4_ := Aside0.mk (keep_drew HK.out)
       have n5_ := Aside0.mk (below_drew1 HB.out)
       clear HO_319000
       clear BK317
       clear BK318
       clear HI0
       clear HK
       clear HB
       have HO_319000 := n0_
       have BK317 := n1_
       have BK318 := n2_
       have HI0 := n3_
       have HK := n4_
       have HB := n5_
       clear n0_ n1_ n2_ n3_ n4_ n5_
       refine start_ (n := 8) (S := fun w' => w'.cell? ⟨gb318, 0, none⟩ = some (u319000)) (ds := [7]) #[false, false, false, false, false, false, false, false] (by kernel_rfl) rfl rfl ((blk_cell BK318.out 0).trans rfl) (fun hHeld => ?_); refine with_tabW spec_l20Table.tab12 spec_l20Table.bits12 (fun HT_ HW_ => ?_)
       generalize w35.drew = w36 at HO_319000 BK317 BK318 HI0 HK HB hHeld ⊢
       refine pure_ (i := 0) (N := some 45) (v := ?_) (a' := ?_) #[true, false, false, false, false, false, false, false] rfl rfl (any_of HT_.out (by kernel_rfl)) (fun _ _ _ h => h) (Or.inl ⟨by rfl, ?_⟩) ?_ ?_
       rotate_left
       ·intro w'
        go_simp
        with_reducible rfl
       rotate_left
       ·simp only [Act.put, List.setIfInBounds_toArray, List.set_cons_zero, List.set_cons_succ, i64_w, i32_w]
        rfl
       refine pure_ (i := 2) (N := some 47) (v := ?_) (a' := ?_) #[true, false, true, false, false, false, false, false] rfl rfl (any_of HT_.out (by kernel_rfl)) (fun _ _ _ h => h) (Or.inl ⟨by rfl, ?_⟩) ?_ ?_
       rotate_left
       ·intro w'
        go_simp
        with_reducible rfl
       rotate_left
       ·simp only [Act.put, List.setIfInBounds_toArray, List.set_cons_zero, List.set_cons_succ, i64_w, i32_w]
        rfl
       refine take_ (i := 1) (N := some 46) (v := ?_) (a' := ?_) #[true, true, true, false, false, false, false, false] rfl rfl (take_ofW HT_.out HW_.out (by kernel_rfl)) (fun _ _ _ h => h) (Or.inl ⟨by rfl, ?_⟩) hHeld ?_ ?_
       rotate_left
       ·intro w' s0
        go_simp
        with_reducible rfl
       rotate_left
       ·simp only [Act.put, List.setIfInBounds_toArray, List.set_cons_zero, List.set_cons_succ, i64_w, i32_w]
        rfl
       refine one_ (i := 3) (N := some 48) #[true, true, true, true, false, false, false, false] rfl rfl (one_of HT_.out (by kernel_rfl)) (by decide) (fun K hK => ?_)
       refine goes_ Try.func67 (by kernel_rfl) rfl #[.pointer (some ⟨g, 0, none⟩)] (by rfl) rfl rfl Z84 ?_
       with_reducible refine (spec_l20Out.calls k1 g s0_0 t332 t333 t334 t335 w0 _ ?side1 ?side2 A32.out).mono ?_
       (case side1 => exact Z146)
       (case side2 => exact Z157)
       rintro e w37 ⟨rfl, hi, hb, hk⟩
       refine ⟨_, rfl, ?_⟩
       have n0_ := Aside0.mk (Kd.R_mono (Kd.R_keep (IsS76.apart (show IsS76 w0 _ g s0_0 t332 from by repeat (first | (with_reducible first | exact HI0.out | apply IsS76.alloc | apply IsS76.drewN | apply IsS76.drew | apply IsS76.set_1 | refine IsS76.far ?_ NB0_317.out _ | refine IsS76.far ?_ NB0_318.out _) | exact HI0.out)) Z24 (by decide)) hk (fun _ h => h.2)) (fun _ h => h.1))
       have n1_ := Aside0.mk (KeepBut.blk hk (g' := gb317) (o := .cells #[.slice none 0 0] 61 (0, 0)) Z43 NB317_0.out (by simp))
       have n2_ := Aside0.mk (KeepBut.blk hk (g' := gb318) (o := .cells #[u319000] 61 (0, 0)) Z44 NB318_0.out (by simp))
       have n3_ := Aside0.mk (KeepBut.trans Z142 hk (.inl rfl))
       have n4_ := Aside0.mk (hb)
       have n5_ := Aside0.mk (hi)
       clear HO_319000
       clear BK317
       clear BK318
       clear HK
       clear HB
       clear HI0
       have HO_319000 := n0_
       have BK317 := n1_
       have BK318 := n2_
       have HK := n3_
       have HB := n4_
       have HI0 := n5_
       clear n0_ n1_ n2_ n3_ n4_ n5_
       (try clear hb)
       (try clear hb2)
       (try clear hk)
       (try clear hi)
       refine hK.out _ _ ((blk_cell BK318.out 0).trans rfl) (fun hHeld => ?_)
       clear hK K
       refine norm_ (a' := ?_) ?_ ?_
       rotate_left
       ·show Act.put _ (some 48) _ = _
        simp only [Act.put, List.setIfInBounds_toArray, List.set_cons_zero, List.set_cons_succ, i64_w, i32_w]
        rfl
       refine one_ (i := 4) (N := some 49) #[true, true, true, true, true, false, false, false] rfl rfl (one_of HT_.out (by kernel_rfl)) (by decide) (fun K hK => ?_)
       refine value_ (w1 := ?_) (v := ?_) (by rfl) rfl ?_ ?_
       rotate_left 2
       ·go_simp
        constructor
        ·rfl
        ·rfl
       refine hK.out _ _ ((blk_cell (blk_alloc BK318.out _) 0).trans rfl) (fun hHeld => ?_)
       clear hK K
       refine norm_ (a' := ?_) ?_ ?_
       rotate_left
       ·show Act.put _ (some 49) _ = _
        simp only [Act.put, List.setIfInBounds_toArray, List.set_cons_zero, List.set_cons_succ, i64_w, i32_w]
        rfl
       refine one_ (i := 5) (N := some 50) #[true, true, true, true, true, true, false, false] rfl rfl (one_of HT_.out (by kernel_rfl)) (by decide) (fun K hK => ?_)
       refine Kd.R_append_step k80 w.heap.size (by rfl) (.tmp 46) (.tmp 49) 59 80 (.agg #[(.int .i64 0), (.int .i64 0)]) 16 rfl Try.underlying59 info80 rfl (by decide) (by omega) u319000 x319000_1 (⟨t333, t334⟩ : S80) [.int .i64 t333, .int .i64 t334] (fun _ => True) (fun _ => False) rfl rfl ?aP (fun _ hk => hk.elim) ?aF ?aO (Below.refl _ _) ?aS ?aL ?_
       (case aP => exact k80_mkM _ _ _ (⟨t333, t334⟩ : S80))
       (case aF => exact (fun _ _ => trivial))
       (case aO => exact Z24)
       (case aS => exact (keep_size (w := w) (g := g) (row := none) Z142))
       (case aL => have := LMc33.out; omega)
       intro v337 w38 ho hb hg hat
       rw [← Ny336.out] at ho
       have n0_ := Aside0.mk (blk_grown (g := gb317) (o := .cells #[.slice none 0 0] 61 (0, 0)) Z43 hg (Kd.R_ne HO_319000.out BK317.out (by decide)))
       have n1_ := Aside0.mk (blk_grown (g := gb318) (o := .cells #[u319000] 61 (0, 0)) Z44 hg (Kd.R_ne HO_319000.out BK318.out (by decide)))
       have n2_ := Aside0.mk (IsS76.grown Z147 hg (IsS76.own_ne HI0.out HO_319000.out (by decide)))
       have n3_ := Aside0.mk (below_weaken Z158 HL.out hb)
       have n4_ := Aside0.mk (KeepBut.trans Z142 (KeepBut.of_grown hg g) (Kd.R_base2 HO_319000.out))
       have n5_ := Aside0.mk (ho)
       clear BK317
       clear BK318
       clear HI0
       clear HB
       clear HK
       clear HO_319000
       have BK317 := n0_
       have BK318 := n1_
       have HI0 := n2_
       have HB := n3_
       have HK := n4_
       have HO338 := n5_
       clear n0_ n1_ n2_ n3_ n4_ n5_
       clear ho hb hg hat
       obtain ⟨Ao39, co39, eo39⟩ := Kd.R_slice HO338.out
       (first | subst eo39 | (injection eo39 with f1_ f2_ f3_; have f4_ := f1_.symm; have f5_ := f3_.symm; clear f1_ f2_ f3_; subst f4_; subst f5_))
       refine hK.out _ _ ((blk_cell BK318.out 0).trans rfl) (fun hHeld => ?_)
       clear hK K
       refine norm_ (a' := ?_) ?_ ?_
       rotate_left
       ·show Act.put _ (some 50) _ = _
        simp only [Act.put, List.setIfInBounds_toArray, List.set_cons_zero, List.set_cons_succ, i64_w, i32_w]
        rfl
       refine pure_ (i := 6) (N := some 51) (v := ?_) (a' := ?_) #[true, true, true, true, true, true, true, false] rfl rfl (any_of HT_.out (by kernel_rfl)) (fun _ _ _ h => h) (Or.inl ⟨by rfl, ?_⟩) ?_ ?_
       rotate_left
       ·intro w'
        go_simp
        with_reducible rfl
       rotate_left
       ·simp only [Act.put, List.setIfInBounds_toArray, List.set_cons_zero, List.set_cons_succ, i64_w, i32_w]
        rfl
       refine last_ (i := 7) (N := none) #[true, true, true, true, true, true, true, true] rfl rfl (one_of HT_.out (by kernel_rfl)) (by decide) (fun K hK => ?_)
       have hs40 : w38.cell? ⟨gb318, 0, none⟩ = some (u319000) := (blk_cell BK318.out 0).trans rfl
       have hfs40 := blk_frozen BK318.out 0
       have hns40_0 := NB317_318.out
       have hms40_0 := NB318_317.out
       refine skip_ (w1 := ?_) (by rfl) rfl ?_ ?_
       rotate_left
       ·go_simp
        rfl
       refine hK.out _ _ ?_
       clear hK K
       refine done_ (done_of HT_.out (by kernel_rfl)) ?_
       have hnb41 := NB318_317.out
       have hnc41 := NB317_318.out
       have hnb42 := NB318_0.out
       have hnc42 := NB0_318.out
       have hcz43_0 : w38.cell? ⟨gb318, 0, none⟩ = some (u319000) := (blk_cell BK318.out 0).trans rfl
       have hfz43_0 := blk_frozen BK318.out 0
       have hnb44 := NB317_0.out
       have hnc44 := NB0_317.out
       have hcz45_0 : w38.cell? ⟨gb317, 0, none⟩ = some (.slice none 0 0) := (blk_cell BK317.out 0).trans rfl
       have hfz45_0 := blk_frozen BK317.out 0
       try go_wp2
       refine bodyPost_ret (results_cell_row rfl _ _ gb317 61 #[.slice Ao39 y336.length co39] (0, 0) _ rfl Z189 Try.underlying61 rfl (by kernel_rfl)) rfl ?_
       exact ⟨_, by first | rfl | (simp [errW_none, errW_some] <;> rfl) | (simp [*, errW_none, errW_some] <;> rfl), by (with_reducible repeat (first | apply Kd.R_alloc | apply Kd.R_drewN | apply Kd.R_drew)); exact Kd.R_mono (Kd.R_far (p := ⟨gb317, 0, none⟩) (Kd.R_far (p := ⟨gb318, 0, none⟩) (Kd.R_types (Kd.R_types HO338.out BK318.out (by decide)) BK317.out (by decide)) (fun _ hk => hk.1.2) (.slice Ao39 y336.length co39)) (fun _ hk => hk.2) (.slice Ao39 y336.length co39)) (fun _ hk => trivial), by repeat (first | (with_reducible first | exact HI0.out | apply IsS76.alloc | apply IsS76.drewN | apply IsS76.drew | apply IsS76.set_1 | refine IsS76.far ?_ NB0_317.out _ | refine IsS76.far ?_ NB0_318.out _) | exact HI0.out), by repeat (first | (with_reducible first | exact HB.out | apply below_alloc | apply pw_below_drewN | apply below_drew1 | refine below_set ?_ (IsS76.ge HI0.out) | refine below_set ?_ GE317.out | refine below_set ?_ GE318.out) | exact HB.out), by repeat (first | (with_reducible first | exact HK.out | apply KeepBut.set_ | apply keep_drewN | apply keep_drew | apply keep_alloc | refine keep_far ?_ GW317.out _ | refine keep_far ?_ GW318.out _) | exact HK.out)⟩
      ·rw [if_neg c33] at H
       exact absurd H (by simp)
     ·rw [if_neg c31] at H
      have c31b0 : (t331 == 0) = false := beq_eq_false_iff_ne.mpr c31
      have c31b1 : (t331 != 0) = true := bne_iff_ne.mpr c31
      by_cases c46 : t331 = 1
      ·rw [if_pos c46] at H
       have c46b0 : (t331 == 1) = true := beq_iff_eq.mpr c46
       have c46b1 : (t331 != 1) = false := bne_eq_false_iff_eq.mpr c46
       clear c46
       by_cases c47 : x319000_1.length < 8796093022208
       ·rw [if_pos c47] at H
        have LMc47 := Aside0.mk c47
        clear c47
        obtain ⟨y339, hy339⟩ : ∃ y_ : List (S80), y_ = (x319000_1 ++ [(⟨9, 9⟩ : S80)]) := ⟨_, rfl⟩
        replace H : (if y339.length < 8796093022208 then (some ((y339 ++ [(⟨9, 9⟩ : S80)]), t332)) else (none)) = some (r1, r2) := by first | (rw [hy339]; with_reducible exact H) | (have H2_ := (Option.bind_some _ _).symm.trans H; rw [hy339]; with_reducible exact H2_) | (have H2_ := (Option.bind_some _ _).symm.trans H; with_reducible exact H2_) | with_reducible exact H | (rw [hy339]; exact H) | exact H
        have Ny339 := Aside0.mk hy339
        clear hy339
        by_cases c48 : y339.length < 8796093022208
        ·rw [if_pos c48] at H
         have LMc48 := Aside0.mk c48
         clear c48
         obtain ⟨y342, hy342⟩ : ∃ y_ : List (S80), y_ = (y339 ++ [(⟨9, 9⟩ : S80)]) := ⟨_, rfl⟩
         replace H : (some (y342, t332)) = some (r1, r2) := by first | (rw [hy342]; with_reducible exact H) | (have H2_ := (Option.bind_some _ _).symm.trans H; rw [hy342]; with_reducible exact H2_) | (have H2_ := (Option.bind_some _ _).symm.trans H; with_reducible exact H2_) | with_reducible exact H | (rw [hy342]; exact H) | exact H
         have Ny342 := Aside0.mk hy342
         clear hy342
         simp only [Option.some.injEq, Prod.mk.injEq] at H
         obtain ⟨rfl, rfl⟩ := H
         go_wp2_with (first | ((with_reducible refine gate_callee (f := 63) rfl ?_); refine goesL_ (some 26) rfl rfl Try.func63 (by kernel_rfl) rfl #[.pointer (some ⟨g, 0, none⟩), .int .i64 a1] rfl Z84 ?_; (with_reducible refine (spec_l20Rd_odd.calls k1 g s0_0 x1001_1 a1 true t330 w0 _ ?side1 ?side2 A28.out).mono ?_); (case side1 => exact Z146); (case side2 => exact Z157); rintro e w49 ⟨rfl, hi, hb, hk⟩; refine ⟨_, rfl, ?_⟩; have n0_ := Aside0.mk (Kd.R_mono (Kd.R_keep (IsS76.apart (show IsS76 w0 _ g s0_0 x1001_1 from by repeat (first | (with_reducible first | exact HI0.out | apply IsS76.alloc | apply IsS76.drewN | apply IsS76.drew | apply IsS76.set_1 | refine IsS76.far ?_ NB0_317.out _ | refine IsS76.far ?_ NB0_318.out _) | exact HI0.out)) Z24 (by decide)) hk (fun _ h => h.2)) (fun _ h => h.1)); have n1_ := Aside0.mk (KeepBut.blk hk (g' := gb317) (o := .cells #[.slice none 0 0] 61 (0, 0)) Z43 NB317_0.out (by simp)); have n2_ := Aside0.mk (KeepBut.blk hk (g' := gb318) (o := .cells #[u319000] 61 (0, 0)) Z44 NB318_0.out (by simp)); have n3_ := Aside0.mk (KeepBut.trans Z142 hk (.inl rfl)); have n4_ := Aside0.mk (hb); have n5_ := Aside0.mk (hi); clear HO_319000; clear BK317; clear BK318; clear HK; clear HB; clear HI0; have HO_319000 := n0_; have BK317 := n1_; have BK318 := n2_; have HK := n3_; have HB := n4_; have HI0 := n5_; clear n0_ n1_ n2_ n3_ n4_ n5_; (try clear hb); (try clear hk); (try clear hi)) | ((with_reducible refine gate_callee (f := 49) rfl ?_); refine goesL_ (some 28) rfl rfl Try.func49 (by kernel_rfl) rfl #[.pointer (some ⟨g, 0, none⟩), .int .i64 3] rfl Z84 ?_; (with_reducible refine (spec_l20Rd_pick.calls k1 g s0_0 t330 3 t331 t332 w0 _ ?side1 ?side2 A30.out).mono ?_); (case side1 => exact Z146); (case side2 => exact Z157); rintro e w50 ⟨rfl, hi, hb, hk⟩; refine ⟨_, rfl, ?_⟩; have n0_ := Aside0.mk (Kd.R_mono (Kd.R_keep (IsS76.apart (show IsS76 w0 _ g s0_0 t330 from by repeat (first | (with_reducible first | exact HI0.out | apply IsS76.alloc | apply IsS76.drewN | apply IsS76.drew | apply IsS76.set_1 | refine IsS76.far ?_ NB0_317.out _ | refine IsS76.far ?_ NB0_318.out _) | exact HI0.out)) Z24 (by decide)) hk (fun _ h => h.2)) (fun _ h => h.1)); have n1_ := Aside0.mk (KeepBut.blk hk (g' := gb317) (o := .cells #[.slice none 0 0] 61 (0, 0)) Z43 NB317_0.out (by simp)); have n2_ := Aside0.mk (KeepBut.blk hk (g' := gb318) (o := .cells #[u319000] 61 (0, 0)) Z44 NB318_0.out (by simp)); have n3_ := Aside0.mk (KeepBut.trans Z142 hk (.inl rfl)); have n4_ := Aside0.mk (hb); have n5_ := Aside0.mk (hi); clear HO_319000; clear BK317; clear BK318; clear HK; clear HB; clear HI0; have HO_319000 := n0_; have BK317 := n1_; have BK318 := n2_; have HK := n3_; have HB := n4_; have HI0 := n5_; clear n0_ n1_ n2_ n3_ n4_ n5_; (try clear hb); (try clear hk); (try clear hi); have hnb51 := NB318_317.out; have hnc51 := NB317_318.out; have hnb52 := NB318_0.out; have hnc52 := NB0_318.out; have hcz53_0 : w50.cell? ⟨gb318, 0, none⟩ = some (u319000) := (blk_cell BK318.out 0).trans rfl; have hfz53_0 := blk_frozen BK318.out 0) | ((with_reducible refine gate_builtin (b := .append) (xs := #[.tmp 55, .tmp 57]) rfl ?_); at_builtin; refine Kd.R_append k80 w.heap.size rfl (.tmp 55) (.tmp 57) 59 80 (.agg #[(.int .i64 0), (.int .i64 0)]) 16 rfl Try.underlying59 info80 rfl (by decide) (by omega) u319000 x319000_1 (⟨9, 9⟩ : S80) [.int .i64 9, .int .i64 9] (fun _ => True) (fun _ => False) rfl rfl ?aP (fun _ hk => hk.elim) ?aF ?aO (Below.refl _ _) ?aS ?aL ?_; (case aP => exact k80_mkM _ _ _ (⟨9, 9⟩ : S80)); (case aF => exact (fun _ _ => trivial)); (case aO => exact Z24); (case aS => exact (keep_size (w := w) (g := g) (row := none) Z142)); (case aL => have := LMc47.out; omega); intro v340 w54 ho hb hg hat; rw [← Ny339.out] at ho; have n0_ := Aside0.mk (blk_grown (g := gb317) (o := .cells #[.slice none 0 0] 61 (0, 0)) Z43 hg (Kd.R_ne HO_319000.out BK317.out (by decide))); have n1_ := Aside0.mk (blk_grown (g := gb318) (o := .cells #[u319000] 61 (0, 0)) Z44 hg (Kd.R_ne HO_319000.out BK318.out (by decide))); have n2_ := Aside0.mk (IsS76.grown Z147 hg (IsS76.own_ne HI0.out HO_319000.out (by decide))); have n3_ := Aside0.mk (below_weaken Z158 HL.out hb); have n4_ := Aside0.mk (KeepBut.trans Z142 (KeepBut.of_grown hg g) (Kd.R_base2 HO_319000.out)); have n5_ := Aside0.mk (ho); clear BK317; clear BK318; clear HI0; clear HB; clear HK; clear HO_319000; have BK317 := n0_; have BK318 := n1_; have HI0 := n2_; have HB := n3_; have HK := n4_; have HO341 := n5_; clear n0_ n1_ n2_ n3_ n4_ n5_; clear ho hb hg hat) | ((with_reducible refine gate_builtin (b := .append) (xs := #[.tmp 58, .tmp 60]) rfl ?_); at_builtin; refine Kd.R_append k80 w.heap.size rfl (.tmp 58) (.tmp 60) 59 80 (.agg #[(.int .i64 0), (.int .i64 0)]) 16 rfl Try.underlying59 info80 rfl (by decide) (by omega) v340 y339 (⟨9, 9⟩ : S80) [.int .i64 9, .int .i64 9] (fun _ => True) (fun _ => False) rfl rfl ?aP (fun _ hk => hk.elim) ?aF ?aO (Below.refl _ _) ?aS ?aL ?_; (case aP => exact k80_mkM _ _ _ (⟨9, 9⟩ : S80)); (case aF => exact (fun _ _ => trivial)); (case aO => exact (by (with_reducible repeat (first | apply Kd.R_alloc | apply Kd.R_drewN | apply Kd.R_drew)); exact HO341.out)); (case aS => exact (keep_size (w := w) (g := g) (row := none) Z142)); (case aL => have := LMc48.out; omega); intro v343 w55 ho hb hg hat; rw [← Ny342.out] at ho; have n0_ := Aside0.mk (blk_grown (g := gb317) (o := .cells #[.slice none 0 0] 61 (0, 0)) Z43 hg (Kd.R_ne HO341.out BK317.out (by decide))); have n1_ := Aside0.mk (blk_grown (g := gb318) (o := .cells #[u319000] 61 (0, 0)) Z44 hg (Kd.R_ne HO341.out BK318.out (by decide))); have n2_ := Aside0.mk (IsS76.grown Z147 hg (IsS76.own_ne HI0.out HO341.out (by decide))); have n3_ := Aside0.mk (below_weaken Z158 HL.out hb); have n4_ := Aside0.mk (KeepBut.trans Z142 (KeepBut.of_grown hg g) (Kd.R_base2 HO341.out)); have n5_ := Aside0.mk (ho); clear BK317; clear BK318; clear HI0; clear HB; clear HK; clear HO341; have BK317 := n0_; have BK318 := n1_; have HI0 := n2_; have HB := n3_; have HK := n4_; have HO344 := n5_; clear n0_ n1_ n2_ n3_ n4_ n5_; clear ho hb hg hat; obtain ⟨Ao56, co56, eo56⟩ := Kd.R_slice HO344.out; subst eo56; have hcz57_0 : w55.cell? ⟨gb318, 0, none⟩ = some (u319000) := (blk_cell BK318.out 0).trans rfl; have hfz57_0 := blk_frozen BK318.out 0; have hnb58 := NB317_0.out; have hnc58 := NB0_317.out; have hcz59_0 : w55.cell? ⟨gb317, 0, none⟩ = some (.slice none 0 0) := (blk_cell BK317.out 0).trans rfl; have hfz59_0 := blk_frozen BK317.out 0))
         refine bodyPost_ret (results_cell_row rfl _ _ gb317 61 #[.slice Ao56 y342.length co56] (0, 0) _ rfl Z189 Try.underlying61 rfl (by kernel_rfl)) rfl ?_
         exact ⟨_, by first | rfl | (simp [errW_none, errW_some] <;> rfl) | (simp [*, errW_none, errW_some] <;> rfl), by (with_reducible repeat (first | apply Kd.R_alloc | apply Kd.R_drewN | apply Kd.R_drew)); exact Kd.R_mono (Kd.R_far (p := ⟨gb317, 0, none⟩) (Kd.R_far (p := ⟨gb318, 0, none⟩) (Kd.R_types (Kd.R_types HO344.out BK318.out (by decide)) BK317.out (by decide)) (fun _ hk => hk.1.2) (.slice Ao56 y342.length co56)) (fun _ hk => hk.2) (.slice Ao56 y342.length co56)) (fun _ hk => trivial), by repeat (first | (with_reducible first | exact HI0.out | apply IsS76.alloc | apply IsS76.drewN | apply IsS76.drew | apply IsS76.set_1 | refine IsS76.far ?_ NB0_317.out _ | refine IsS76.far ?_ NB0_318.out _) | exact HI0.out), by repeat (first | (with_reducible first | exact HB.out | apply below_alloc | apply pw_below_drewN | apply below_drew1 | refine below_set ?_ (IsS76.ge HI0.out) | refine below_set ?_ GE317.out | refine below_set ?_ GE318.out) | exact HB.out), by repeat (first | (with_reducible first | exact HK.out | apply KeepBut.set_ | apply keep_drewN | apply keep_drew | apply keep_alloc | refine keep_far ?_ GW317.out _ | refine keep_far ?_ GW318.out _) | exact HK.out)⟩
        ·rw [if_neg c48] at H
         exact absurd H (by simp)
       ·rw [if_neg c47] at H
        exact absurd H (by simp)
      ·rw [if_neg c46] at H
       have c46b0 : (t331 == 1) = false := beq_eq_false_iff_ne.mpr c46
       have c46b1 : (t331 != 1) = true := bne_iff_ne.mpr c46
       have H' := Aside0.mk H
       clear H
       go_wp2_with (first | ((with_reducible refine gate_callee (f := 63) rfl ?_); refine goesL_ (some 26) rfl rfl Try.func63 (by kernel_rfl) rfl #[.pointer (some ⟨g, 0, none⟩), .int .i64 a1] rfl Z84 ?_; (with_reducible refine (spec_l20Rd_odd.calls k1 g s0_0 x1001_1 a1 true t330 w0 _ ?side1 ?side2 A28.out).mono ?_); (case side1 => exact Z146); (case side2 => exact Z157); rintro e w60 ⟨rfl, hi, hb, hk⟩; refine ⟨_, rfl, ?_⟩; have n0_ := Aside0.mk (Kd.R_mono (Kd.R_keep (IsS76.apart (show IsS76 w0 _ g s0_0 x1001_1 from by repeat (first | (with_reducible first | exact HI0.out | apply IsS76.alloc | apply IsS76.drewN | apply IsS76.drew | apply IsS76.set_1 | refine IsS76.far ?_ NB0_317.out _ | refine IsS76.far ?_ NB0_318.out _) | exact HI0.out)) Z24 (by decide)) hk (fun _ h => h.2)) (fun _ h => h.1)); have n1_ := Aside0.mk (KeepBut.blk hk (g' := gb317) (o := .cells #[.slice none 0 0] 61 (0, 0)) Z43 NB317_0.out (by simp)); have n2_ := Aside0.mk (KeepBut.blk hk (g' := gb318) (o := .cells #[u319000] 61 (0, 0)) Z44 NB318_0.out (by simp)); have n3_ := Aside0.mk (KeepBut.trans Z142 hk (.inl rfl)); have n4_ := Aside0.mk (hb); have n5_ := Aside0.mk (hi); clear HO_319000; clear BK317; clear BK318; clear HK; clear HB; clear HI0; have HO_319000 := n0_; have BK317 := n1_; have BK318 := n2_; have HK := n3_; have HB := n4_; have HI0 := n5_; clear n0_ n1_ n2_ n3_ n4_ n5_; (try clear hb); (try clear hk); (try clear hi)) | ((with_reducible refine gate_callee (f := 49) rfl ?_); refine goesL_ (some 28) rfl rfl Try.func49 (by kernel_rfl) rfl #[.pointer (some ⟨g, 0, none⟩), .int .i64 3] rfl Z84 ?_; (with_reducible refine (spec_l20Rd_pick.calls k1 g s0_0 t330 3 t331 t332 w0 _ ?side1 ?side2 A30.out).mono ?_); (case side1 => exact Z146); (case side2 => exact Z157); rintro e w61 ⟨rfl, hi, hb, hk⟩; refine ⟨_, rfl, ?_⟩; have n0_ := Aside0.mk (Kd.R_mono (Kd.R_keep (IsS76.apart (show IsS76 w0 _ g s0_0 t330 from by repeat (first | (with_reducible first | exact HI0.out | apply IsS76.alloc | apply IsS76.drewN | apply IsS76.drew | apply IsS76.set_1 | refine IsS76.far ?_ NB0_317.out _ | refine IsS76.far ?_ NB0_318.out _) | exact HI0.out)) Z24 (by decide)) hk (fun _ h => h.2)) (fun _ h => h.1)); have n1_ := Aside0.mk (KeepBut.blk hk (g' := gb317) (o := .cells #[.slice none 0 0] 61 (0, 0)) Z43 NB317_0.out (by simp)); have n2_ := Aside0.mk (KeepBut.blk hk (g' := gb318) (o := .cells #[u319000] 61 (0, 0)) Z44 NB318_0.out (by simp)); have n3_ := Aside0.mk (KeepBut.trans Z142 hk (.inl rfl)); have n4_ := Aside0.mk (hb); have n5_ := Aside0.mk (hi); clear HO_319000; clear BK317; clear BK318; clear HK; clear HB; clear HI0; have HO_319000 := n0_; have BK317 := n1_; have BK318 := n2_; have HK := n3_; have HB := n4_; have HI0 := n5_; clear n0_ n1_ n2_ n3_ n4_ n5_; (try clear hb); (try clear hk); (try clear hi)))
       go_loopg [] k1 (fun kq w' => ∃ (x319000_2 : List (S80)) (u319000 : Value), Aside0 (spec_l20Table.l1 kq s0_0 t332 x319000_2 = some (r1, r2)) ∧ Aside0 (kq ≤ k1) ∧ Aside0 (Kd.R k80 80 w' w.heap.size (fun _ => True) u319000 x319000_2) ∧ Aside0 (w'.heap[gb317]? = some (.cells #[(.slice none 0 0)] 61 (0, 0))) ∧ Aside0 (w'.heap[gb318]? = some (.cells #[u319000] 61 (0, 0))) ∧ Aside0 (IsS76 w0 w' g s0_0 t332) ∧ Aside0 (KeepBut w w' g none) ∧ Aside0 (Below w0.heap.size w0 w'))
       case atStart => exact ⟨(x319000_1), (u319000), H', ⟨Nat.le_refl _⟩, ⟨by (with_reducible repeat (first | apply Kd.R_alloc | apply Kd.R_drewN | apply Kd.R_drew)); exact HO_319000.out⟩, ⟨by (with_reducible repeat (first | refine blk_drewN ?_ _ | refine blk_drew ?_ | refine blk_alloc ?_ _)); exact BK317.out⟩, ⟨by (with_reducible repeat (first | refine blk_drewN ?_ _ | refine blk_drew ?_ | refine blk_alloc ?_ _)); exact BK318.out⟩, ⟨by repeat (first | (with_reducible first | exact HI0.out | apply IsS76.alloc | apply IsS76.drewN | apply IsS76.drew | apply IsS76.set_1 | refine IsS76.far ?_ NB0_317.out _ | refine IsS76.far ?_ NB0_318.out _) | exact HI0.out)⟩, ⟨by repeat (first | (with_reducible first | exact HK.out | apply KeepBut.set_ | apply keep_drewN | apply keep_drew | apply keep_alloc | refine keep_far ?_ GW317.out _ | refine keep_far ?_ GW318.out _) | exact HK.out)⟩, ⟨by repeat (first | (with_reducible first | exact HB.out | apply below_alloc | apply pw_below_drewN | apply below_drew1 | refine below_set ?_ (IsS76.ge HI0.out) | refine below_set ?_ GE317.out | refine below_set ?_ GE318.out) | exact HB.out)⟩⟩
       case round =>
        clear H'
        try clear c1
        try clear c2
        try clear p2
        try clear c3
        try clear c4
        try clear c5
        try clear c6
        try clear p6
        try clear c10
        try clear c10b0
        try clear c21
        try clear c22
        try clear c23
        try clear c25
        try clear c26
        try clear c29
        try clear c31
        try clear c31b0
        try clear c31b1
        try clear c33
        try clear c41
        try clear c42
        try clear c44
        try clear c46
        try clear c46b0
        try clear c46b1
        try clear c47
        try clear c48
        try clear c49
        try clear c51
        try clear c52
        try clear c58
        try clear hcz24_0
        try clear hcz27_0
        try clear hcz43_0
        try clear hcz45_0
        try clear hcz53_0
        try clear hcz57_0
        try clear hcz59_0
        try clear hfz24_0
        try clear hfz27_0
        try clear hfz43_0
        try clear hfz45_0
        try clear hfz53_0
        try clear hfz57_0
        try clear hfz59_0
        obtain ⟨x319000_2, u319000, HA, HK2, HO_319000, BK317, BK318, HI0, HK, HB⟩ := hrel
        cases gk with
        | zero => exact absurd HA.out (by simp [spec_l20Table.l1])
        | succ k2 =>
         have H := HA.out
         clear HA
         simp only [spec_l20Table.l1] at H
         by_cases c62 : (x319000_2.length : Int) ≤ 6
         ·rw [if_pos c62] at H
          have c62b0 : decide ((x319000_2.length : Int) ≤ 6) = true := decide_eq_true c62
          have c62b1 : decide (x319000_2.length ≤ 6) = true := decide_eq_true (by omega)
          clear c62
          by_cases c63 : x319000_2.length < 8796093022208
          ·rw [if_pos c63] at H
           have LMc63 := Aside0.mk c63
           clear c63
           obtain ⟨y345, hy345⟩ : ∃ y_ : List (S80), y_ = (x319000_2 ++ [(⟨8, wrap64 (1 + (x319000_2.length : Int))⟩ : S80)]) := ⟨_, rfl⟩
           replace H : (spec_l20Table.l1 k2 s0_0 t332 y345) = some (r1, r2) := by first | (rw [hy345]; with_reducible exact H) | (have H2_ := (Option.bind_some _ _).symm.trans H; rw [hy345]; with_reducible exact H2_) | (have H2_ := (Option.bind_some _ _).symm.trans H; with_reducible exact H2_) | with_reducible exact H | (rw [hy345]; exact H) | exact H
           have Ny345 := Aside0.mk hy345
           clear hy345
           have H' := Aside0.mk H
           clear H
           have hnb64 := NB318_317.out
           have hnc64 := NB317_318.out
           have hnb65 := NB318_0.out
           have hnc65 := NB0_318.out
           have hcz66_0 : wr.cell? ⟨gb318, 0, none⟩ = some (u319000) := (blk_cell BK318.out 0).trans rfl
           have hfz66_0 := blk_frozen BK318.out 0
           obtain ⟨Ao67, co67, eo67⟩ := Kd.R_slice HO_319000.out
           subst eo67
           go_wp2_with (first | ((with_reducible refine gate_builtin (b := .append) (xs := #[.tmp 34, .tmp 40]) rfl ?_); at_builtin; refine Kd.R_append k80 w.heap.size rfl (.tmp 34) (.tmp 40) 59 80 (.agg #[(.int .i64 0), (.int .i64 0)]) 16 rfl Try.underlying59 info80 rfl (by decide) (by omega) (.slice Ao67 x319000_2.length co67) x319000_2 (⟨8, wrap64 (1 + (x319000_2.length : Int))⟩ : S80) [.int .i64 8, .int .i64 (wrap64 (1 + (x319000_2.length : Int)))] (fun _ => True) (fun _ => False) rfl rfl ?aP (fun _ hk => hk.elim) ?aF ?aO (Below.refl _ _) ?aS ?aL ?_; (case aP => exact k80_mkM _ _ _ (⟨8, wrap64 (1 + (x319000_2.length : Int))⟩ : S80)); (case aF => exact (fun _ _ => trivial)); (case aO => exact Z24); (case aS => exact (keep_size (w := w) (g := g) (row := none) Z142)); (case aL => have := LMc63.out; omega); intro v346 w68 ho hb hg hat; rw [← Ny345.out] at ho; have n0_ := Aside0.mk (blk_grown (g := gb317) (o := .cells #[.slice none 0 0] 61 (0, 0)) Z43 hg (Kd.R_ne HO_319000.out BK317.out (by decide))); have n1_ := Aside0.mk (blk_grown (g := gb318) (o := .cells #[.slice Ao67 x319000_2.length co67] 61 (0, 0)) Z44 hg (Kd.R_ne HO_319000.out BK318.out (by decide))); have n2_ := Aside0.mk (IsS76.grown Z147 hg (IsS76.own_ne HI0.out HO_319000.out (by decide))); have n3_ := Aside0.mk (below_weaken Z158 HL.out hb); have n4_ := Aside0.mk (KeepBut.trans Z142 (KeepBut.of_grown hg g) (Kd.R_base2 HO_319000.out)); have n5_ := Aside0.mk (ho); clear BK317; clear BK318; clear HI0; clear HB; clear HK; clear HO_319000; have BK317 := n0_; have BK318 := n1_; have HI0 := n2_; have HB := n3_; have HK := n4_; have HO347 := n5_; clear n0_ n1_ n2_ n3_ n4_ n5_; clear ho hb hg hat; obtain ⟨Ao69, co69, eo69⟩ := Kd.R_slice HO347.out; subst eo69; have hcz70_0 : w68.cell? ⟨gb318, 0, none⟩ = some (.slice Ao67 x319000_2.length co67) := (blk_cell BK318.out 0).trans rfl; have hfz70_0 := blk_frozen BK318.out 0))
           go_roundg k2
           case measure => have := HK1.out; have := HK2.out; omega
           case rel => exact ⟨(y345), (.slice Ao69 y345.length co69), H', ⟨by have := HK1.out; have := HK2.out; omega⟩, ⟨by (with_reducible repeat (first | apply Kd.R_alloc | apply Kd.R_drewN | apply Kd.R_drew)); exact Kd.R_mono (Kd.R_far (p := ⟨gb318, 0, none⟩) (Kd.R_types HO347.out BK318.out (by decide)) (fun _ hk => hk.2) (.slice Ao69 y345.length co69)) (fun _ hk => trivial)⟩, ⟨by (with_reducible repeat (first | refine blk_drewN ?_ _ | refine blk_drew ?_ | refine blk_alloc ?_ _)); refine blk_far ?_ NB317_318.out _; (with_reducible repeat (first | refine blk_drewN ?_ _ | refine blk_drew ?_ | refine blk_alloc ?_ _)); exact BK317.out⟩, ⟨by (with_reducible repeat (first | refine blk_drewN ?_ _ | refine blk_drew ?_ | refine blk_alloc ?_ _)); refine blk_put (cs := #[.slice Ao67 x319000_2.length co67]) ?_ 0 _ rfl; (with_reducible repeat (first | refine blk_drewN ?_ _ | refine blk_drew ?_ | refine blk_alloc ?_ _)); exact BK318.out⟩, ⟨by repeat (first | (with_reducible first | exact HI0.out | apply IsS76.alloc | apply IsS76.drewN | apply IsS76.drew | apply IsS76.set_1 | refine IsS76.far ?_ NB0_317.out _ | refine IsS76.far ?_ NB0_318.out _) | exact HI0.out)⟩, ⟨by repeat (first | (with_reducible first | exact HK.out | apply KeepBut.set_ | apply keep_drewN | apply keep_drew | apply keep_alloc | refine keep_far ?_ GW317.out _ | refine keep_far ?_ GW318.out _) | exact HK.out)⟩, ⟨by repeat (first | (with_reducible first | exact HB.out | apply below_alloc | apply pw_below_drewN | apply below_drew1 | refine below_set ?_ (IsS76.ge HI0.out) | refine below_set ?_ GE317.out | refine below_set ?_ GE318.out) | exact HB.out)⟩⟩
          ·rw [if_neg c63] at H
           exact absurd H (by simp)
         ·rw [if_neg c62] at H
          have c62b0 : decide ((x319000_2.length : Int) ≤ 6) = false := decide_eq_false c62
          have c62b1 : decide (x319000_2.length ≤ 6) = false := decide_eq_false (by omega)
          clear c62
          simp only [Option.some.injEq, Prod.mk.injEq] at H
          obtain ⟨rfl, rfl⟩ := H
          have hnb71 := NB318_317.out
          have hnc71 := NB317_318.out
          have hnb72 := NB318_0.out
          have hnc72 := NB0_318.out
          have hcz73_0 : wr.cell? ⟨gb318, 0, none⟩ = some (u319000) := (blk_cell BK318.out 0).trans rfl
          have hfz73_0 := blk_frozen BK318.out 0
          obtain ⟨Ao74, co74, eo74⟩ := Kd.R_slice HO_319000.out
          subst eo74
          have hnb75 := NB317_0.out
          have hnc75 := NB0_317.out
          have hcz76_0 : wr.cell? ⟨gb317, 0, none⟩ = some (.slice none 0 0) := (blk_cell BK317.out 0).trans rfl
          have hfz76_0 := blk_frozen BK317.out 0
          go_wp2
          refine bodyPost_ret (results_cell_row rfl _ _ gb317 61 #[.slice Ao74 x319000_2.length co74] (0, 0) _ rfl Z169 Try.underlying61 rfl (by kernel_rfl)) rfl ?_
          exact ⟨_, by first | rfl | (simp [errW_none, errW_some] <;> rfl) | (simp [*, errW_none, errW_some] <;> rfl), by (with_reducible repeat (first | apply Kd.R_alloc | apply Kd.R_drewN | apply Kd.R_drew)); exact Kd.R_mono (Kd.R_far (p := ⟨gb317, 0, none⟩) (Kd.R_types HO_319000.out BK317.out (by decide)) (fun _ hk => hk.2) (.slice Ao74 x319000_2.length co74)) (fun _ hk => trivial), by repeat (first | (with_reducible first | exact HI0.out | apply IsS76.alloc | apply IsS76.drewN | apply IsS76.drew | apply IsS76.set_1 | refine IsS76.far ?_ NB0_317.out _ | refine IsS76.far ?_ NB0_318.out _) | exact HI0.out), by repeat (first | (with_reducible first | exact HB.out | apply below_alloc | apply pw_below_drewN | apply below_drew1 | refine below_set ?_ (IsS76.ge HI0.out) | refine below_set ?_ GE317.out | refine below_set ?_ GE318.out) | exact HB.out), by repeat (first | (with_reducible first | exact HK.out | apply KeepBut.set_ | apply keep_drewN | apply keep_drew | apply keep_alloc | refine keep_far ?_ GW317.out _ | refine keep_far ?_ GW318.out _) | exact HK.out)⟩
    ·replace c29 := Bool.eq_false_iff.mpr c29
     subst c29
     have H1 : (some (x319000_1, t330)) = some (r1, r2) := by rw [if_neg (show ¬ (false = true) by decide)] at H; exact H
     clear H
     have H := H1
     clear H1
     simp only [Option.some.injEq, Prod.mk.injEq] at H
     obtain ⟨rfl, rfl⟩ := H
     go_wp2_with (first | ((with_reducible refine gate_callee (f := 63) rfl ?_); refine goesL_ (some 26) rfl rfl Try.func63 (by kernel_rfl) rfl #[.pointer (some ⟨g, 0, none⟩), .int .i64 a1] rfl Z84 ?_; (with_reducible refine (spec_l20Rd_odd.calls k1 g s0_0 x1001_1 a1 false t330 w0 _ ?side1 ?side2 A28.out).mono ?_); (case side1 => exact Z146); (case side2 => exact Z157); rintro e w77 ⟨rfl, hi, hb, hk⟩; refine ⟨_, rfl, ?_⟩; have n0_ := Aside0.mk (Kd.R_mono (Kd.R_keep (IsS76.apart (show IsS76 w0 _ g s0_0 x1001_1 from by repeat (first | (with_reducible first | exact HI0.out | apply IsS76.alloc | apply IsS76.drewN | apply IsS76.drew | apply IsS76.set_1 | refine IsS76.far ?_ NB0_317.out _ | refine IsS76.far ?_ NB0_318.out _) | exact HI0.out)) Z24 (by decide)) hk (fun _ h => h.2)) (fun _ h => h.1)); have n1_ := Aside0.mk (KeepBut.blk hk (g' := gb317) (o := .cells #[.slice none 0 0] 61 (0, 0)) Z43 NB317_0.out (by simp)); have n2_ := Aside0.mk (KeepBut.blk hk (g' := gb318) (o := .cells #[u319000] 61 (0, 0)) Z44 NB318_0.out (by simp)); have n3_ := Aside0.mk (KeepBut.trans Z142 hk (.inl rfl)); have n4_ := Aside0.mk (hb); have n5_ := Aside0.mk (hi); clear HO_319000; clear BK317; clear BK318; clear HK; clear HB; clear HI0; have HO_319000 := n0_; have BK317 := n1_; have BK318 := n2_; have HK := n3_; have HB := n4_; have HI0 := n5_; clear n0_ n1_ n2_ n3_ n4_ n5_; (try clear hb); (try clear hk); (try clear hi); have hnb78 := NB318_317.out; have hnc78 := NB317_318.out; have hnb79 := NB318_0.out; have hnc79 := NB0_318.out; have hcz80_0 : w77.cell? ⟨gb318, 0, none⟩ = some (u319000) := (blk_cell BK318.out 0).trans rfl; have hfz80_0 := blk_frozen BK318.out 0; obtain ⟨Ao81, co81, eo81⟩ := Kd.R_slice HO_319000.out; subst eo81; have hnb82 := NB317_0.out; have hnc82 := NB0_317.out; have hcz83_0 : w77.cell? ⟨gb317, 0, none⟩ = some (.slice none 0 0) := (blk_cell BK317.out 0).trans rfl; have hfz83_0 := blk_frozen BK317.out 0))
     refine bodyPost_ret (results_cell_row rfl _ _ gb317 61 #[.slice Ao81 x319000_1.length co81] (0, 0) _ rfl Z169 Try.underlying61 rfl (by kernel_rfl)) rfl ?_
     exact ⟨_, by first | rfl | (simp [errW_none, errW_some] <;> rfl) | (simp [*, errW_none, errW_some] <;> rfl), by (with_reducible repeat (first | apply Kd.R_alloc | apply Kd.R_drewN | apply Kd.R_drew)); exact Kd.R_mono (Kd.R_far (p := ⟨gb317, 0, none⟩) (Kd.R_types HO_319000.out BK317.out (by decide)) (fun _ hk => hk.2) (.slice Ao81 x319000_1.length co81)) (fun _ hk => trivial), by repeat (first | (with_reducible first | exact HI0.out | apply IsS76.alloc | apply IsS76.drewN | apply IsS76.drew | apply IsS76.set_1 | refine IsS76.far ?_ NB0_317.out _ | refine IsS76.far ?_ NB0_318.out _) | exact HI0.out), by repeat (first | (with_reducible first | exact HB.out | apply below_alloc | apply pw_below_drewN | apply below_drew1 | refine below_set ?_ (IsS76.ge HI0.out) | refine below_set ?_ GE317.out | refine below_set ?_ GE318.out) | exact HB.out), by repeat (first | (with_reducible first | exact HK.out | apply KeepBut.set_ | apply keep_drewN | apply keep_drew | apply keep_alloc | refine keep_far ?_ GW317.out _ | refine keep_far ?_ GW318.out _) | exact HK.out)⟩

end Go.Proofs.Ytmahgffkkdggcaa.QFnPosPairs
