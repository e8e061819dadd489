-- Laid by a program of this repo (wip/tools/sprint.py): print.py's functions and walks; the contracts named 'BY HAND' are proved by hand.
import Derived.Test.YtlofgoahgnllkaaDoorQFnBakAgainx0
import Derived.Test.YtlofgoahgnllkaaDoorQFnBakAgainx3
import Derived.Test.YtlofgoahgnllkaaDoorQFnBakAgainx4
import Derived.Test.YtlofgoahgnllkaaDoorQFnBakAgainx7
import Derived.Test.YtlofgoahgnllkaaDoorQFnBakAgainx8
import Derived.Test.YtlofgoahgnllkaaDoorQFnBakAgainx9
import Derived.Test.YtlofgoahgnllkaaDoorQFnBakAgainx13
namespace Go.Proofs.YtlofgoahgnllkaaDoor.QFnBakAgain
open Go.RowKit Go.Proofs.YtlofgoahgnllkaaDoorW.PrintWords Go.Proofs.YtlofgoahgnllkaaDoorW.PrintLast Go.Proofs.YtlofgoahgnllkaaDoorW.PrintMore
attribute [local go_sem] max2_int min2_int max_two min_two max_three min_three max_four min_four   -- for this text's walks alone
set_option linter.unusedVariables false
set_option linter.unusedSimpArgs false

/-! ### laws_FnBakAgain: function 4 -/
mutual
def laws_FnBakAgain.j0 : Nat → List Int → List Int → Bool → Option (Bool)
 | 0, _, _, _ => none
 | k + 1, x0, x1, x19 => if x19 = true then (some true) else ((spec_DrawBakLine.f k x0).bind fun bt397 => ((spec_DrawBakLine.f k x1).bind fun bt402 => ((impl_BakLine.f k bt397.1 bt397.2).bind fun t407 => ((spec_BakLine.f k bt397.1 bt397.2).bind fun t408 => (if t407.toList = t408.toList then ((spec_MapOk.f k bt397.1).bind fun t409 => (if t409 = true then ((spec_MapOk.f k bt402.1).bind fun t410 => (if t410 = true then ((spec_LinOk.f k bt397.2).bind fun t411 => (laws_FnBakAgain.j1 k bt397.2 t407 (!t411) bt397.1 bt402.1)) else (laws_FnBakAgain.j1 k bt397.2 t407 true bt397.1 bt402.1))) else (laws_FnBakAgain.j1 k bt397.2 t407 true bt397.1 bt402.1))) else (some false))))))
def laws_FnBakAgain.j1 : Nat → ByteArray → ByteArray → Bool → List (S43) → List (S43) → Option (Bool)
 | 0, _, _, _, _, _ => none
 | k + 1, x6, x9, x50, x402000, x407000 => if x50 = true then ((laws_haOk.f k).bind fun t412 => (some t412)) else ((impl_LinBox.f k x6).bind fun bt413 => ((impl_BakLine.f k x402000 x9).bind fun t415 => (if t415.toList = x9.toList then (if bt413.2 = true then ((laws_haOk.f k).bind fun t416 => (some t416)) else ((impl_BakLine.f k x407000 x6).bind fun t417 => (if t417.toList = x6.toList then ((laws_haOk.f k).bind fun t418 => (some t418)) else (some false)))) else (some false))))
end
def laws_FnBakAgain.f (k : Nat) (l0 : List Int) (l1 : List Int) : Option (Bool) := if (l0.length : Int) > 1048576 then (laws_FnBakAgain.j0 k l0 l1 true) else (laws_FnBakAgain.j0 k l0 l1 (decide ((l1.length : Int) > 1048576)))
theorem laws_FnBakAgain.mono_l : ∀ k, (∀ y0 y1 y2, LeO (laws_FnBakAgain.j0 k y0 y1 y2) (laws_FnBakAgain.j0 (k + 1) y0 y1 y2)) ∧ (∀ y0 y1 y2 y3 y4, LeO (laws_FnBakAgain.j1 k y0 y1 y2 y3 y4) (laws_FnBakAgain.j1 (k + 1) y0 y1 y2 y3 y4))
 | 0 => ⟨fun _ _ _ r h => by simp [laws_FnBakAgain.j0] at h, fun _ _ _ _ _ r h => by simp [laws_FnBakAgain.j1] at h⟩
 | k + 1 => by
  obtain ⟨ih0, ih1⟩ := laws_FnBakAgain.mono_l k
  refine ⟨?_, ?_⟩
  ·intro y0 y1 y2
   unfold laws_FnBakAgain.j0
   repeat' first
   | (with_reducible exact ih0 _ _ _)
   | (with_reducible exact ih1 _ _ _ _ _)
   | (with_reducible exact impl_BakLine.mono _ _ _)
   | (with_reducible exact impl_LinBox.mono _ _)
   | (with_reducible exact laws_haOk.mono _)
   | (with_reducible exact spec_BakLine.mono _ _ _)
   | (with_reducible exact spec_DrawBakLine.mono _ _)
   | (with_reducible exact spec_LinOk.mono _ _)
   | (with_reducible exact spec_MapOk.mono _ _)
   | (with_reducible exact LeO.refl _)
   | (with_reducible exact LeO.none _)
   | (with_reducible refine LeO.ite ?_ ?_)
   | (with_reducible refine LeO.bind ?_ (fun _ => ?_))
   | exact ih0 _ _ _
   | exact ih1 _ _ _ _ _
   | exact impl_BakLine.mono _ _ _
   | exact impl_LinBox.mono _ _
   | exact laws_haOk.mono _
   | exact spec_BakLine.mono _ _ _
   | exact spec_DrawBakLine.mono _ _
   | exact spec_LinOk.mono _ _
   | exact spec_MapOk.mono _ _
   | exact LeO.none _
   | refine LeO.ite ?_ ?_
   | refine LeO.bind ?_ (fun _ => ?_)
  ·intro y0 y1 y2 y3 y4
   unfold laws_FnBakAgain.j1
   repeat' first
   | (with_reducible exact ih0 _ _ _)
   | (with_reducible exact ih1 _ _ _ _ _)
   | (with_reducible exact impl_BakLine.mono _ _ _)
   | (with_reducible exact impl_LinBox.mono _ _)
   | (with_reducible exact laws_haOk.mono _)
   | (with_reducible exact spec_BakLine.mono _ _ _)
   | (with_reducible exact spec_DrawBakLine.mono _ _)
   | (with_reducible exact spec_LinOk.mono _ _)
   | (with_reducible exact spec_MapOk.mono _ _)
   | (with_reducible exact LeO.refl _)
   | (with_reducible exact LeO.none _)
   | (with_reducible refine LeO.ite ?_ ?_)
   | (with_reducible refine LeO.bind ?_ (fun _ => ?_))
   | exact ih0 _ _ _
   | exact ih1 _ _ _ _ _
   | exact impl_BakLine.mono _ _ _
   | exact impl_LinBox.mono _ _
   | exact laws_haOk.mono _
   | exact spec_BakLine.mono _ _ _
   | exact spec_DrawBakLine.mono _ _
   | exact spec_LinOk.mono _ _
   | exact spec_MapOk.mono _ _
   | exact LeO.none _
   | refine LeO.ite ?_ ?_
   | refine LeO.bind ?_ (fun _ => ?_)
theorem laws_FnBakAgain.mono : ∀ a0 a1 k, LeO (laws_FnBakAgain.f k a0 a1) (laws_FnBakAgain.f (k + 1) a0 a1) := by
 intro a0 a1 k
 obtain ⟨ih0, ih1⟩ := laws_FnBakAgain.mono_l k
 unfold laws_FnBakAgain.f
 repeat' first
   | (with_reducible exact ih0 _ _ _)
   | (with_reducible exact ih1 _ _ _ _ _)
   | (with_reducible exact impl_BakLine.mono _ _ _)
   | (with_reducible exact impl_LinBox.mono _ _)
   | (with_reducible exact laws_haOk.mono _)
   | (with_reducible exact spec_BakLine.mono _ _ _)
   | (with_reducible exact spec_DrawBakLine.mono _ _)
   | (with_reducible exact spec_LinOk.mono _ _)
   | (with_reducible exact spec_MapOk.mono _ _)
   | (with_reducible exact LeO.refl _)
   | (with_reducible exact LeO.none _)
   | (with_reducible refine LeO.ite ?_ ?_)
   | (with_reducible refine LeO.bind ?_ (fun _ => ?_))
   | exact ih0 _ _ _
   | exact ih1 _ _ _ _ _
   | exact impl_BakLine.mono _ _ _
   | exact impl_LinBox.mono _ _
   | exact laws_haOk.mono _
   | exact spec_BakLine.mono _ _ _
   | exact spec_DrawBakLine.mono _ _
   | exact spec_LinOk.mono _ _
   | exact spec_MapOk.mono _ _
   | exact LeO.none _
   | refine LeO.ite ?_ ?_
   | refine LeO.bind ?_ (fun _ => ?_)
set_option maxHeartbeats 8000000 in
set_option maxRecDepth 100000 in
theorem laws_FnBakAgain.calls (k : Nat) (A0 : Option Addr) (c0 : Nat) (l0 : List Int) (A1 : Option Addr) (c1 : Nat) (l1 : List Int) (r : Bool) (w : World) (hr0 : Kd.C (Kd.int .u8) w A0 l0.length l0) (hc0 : l0.length ≤ c0) (hr1 : Kd.C (Kd.int .u8) w A1 l1.length l1) (hc1 : l1.length ≤ c1) (h : laws_FnBakAgain.f k l0 l1 = some r) (hL_ : Ends.LErr w) :
  Calls Tryd.prog 4 #[.slice A0 l0.length c0, .slice A1 l1.length c1] w fun e w' => e = .returned (.bool r) ∧ Below w.heap.size w w' := by
 have HL_ := Aside0.mk hL_
 clear hL_
 have hu29 := Tryd.underlying29
 have HR0 := Aside0.mk hr0
 have HC0 := Aside0.mk hc0
 clear hr0 hc0
 have HR1 := Aside0.mk hr1
 have HC1 := Aside0.mk hc1
 clear hr1 hc1
 have HB := Aside0.mk (Below.refl w.heap.size w)
 have H : (if (l0.length : Int) > 1048576 then (laws_FnBakAgain.j0 k l0 l1 true) else (laws_FnBakAgain.j0 k l0 l1 (decide ((l1.length : Int) > 1048576)))) = some r := h
 clear h
 have HC3 := Aside0.mk H
 clear H
 go_enter Tryd.func4, Tryd.ntmps4
 go_upto_region 1 with (fail)
 go_cut [19] (fun v19 wc => ∃ (kq : Nat) (x19_2 : Bool), v19 = .bool x19_2 ∧ Aside0 (laws_FnBakAgain.j0 kq l0 l1 x19_2 = some r) ∧ Aside0 (kq ≤ k) ∧ Aside0 (Below w.heap.size w wc))
 case first =>
  have H := HC3.out
  clear HC3
  by_cases c4 : (l0.length : Int) > 1048576
  ·rw [if_pos c4] at H
   have c4b0 : decide (1048576 < (l0.length : Int)) = true := decide_eq_true c4
   have c4b1 : decide (1048576 < l0.length) = true := decide_eq_true (by omega)
   clear c4
   (first | rw [c4b0] | (simp only [i64_w, i32_w]; rw [c4b0]) | skip)
   have H' := Aside0.mk H
   clear H
   go_wp2
   go_meet
   case rel => exact ⟨_, (true), Z0, H', ⟨by first | omega | exact Nat.le_refl _⟩, ⟨by repeat (first | (with_reducible first | exact HB.out | apply below_alloc | apply pw_below_drewN | apply below_drew1) | exact HB.out)⟩⟩
  ·rw [if_neg c4] at H
   have c4b0 : decide (1048576 < (l0.length : Int)) = false := decide_eq_false c4
   have c4b1 : decide (1048576 < l0.length) = false := decide_eq_false (by omega)
   clear c4
   (first | rw [c4b0] | (simp only [i64_w, i32_w]; rw [c4b0]) | skip)
   have H' := Aside0.mk H
   clear H
   go_wp2
   go_meet
   case rel => exact ⟨_, (decide ((l1.length : Int) > 1048576)), Z0, H', ⟨by first | omega | exact Nat.le_refl _⟩, ⟨by repeat (first | (with_reducible first | exact HB.out | apply below_alloc | apply pw_below_drewN | apply below_drew1) | exact HB.out)⟩⟩
 case rest =>
  clear HC3
  try clear c1
  try clear p2
  try clear c4
  try clear c4b0
  try clear c4b1
  obtain ⟨kq, x19_2, rfl, HA, HJ2, HB⟩ := hcut
  cases kq with
  | zero => exact absurd HA.out (by simp [laws_FnBakAgain.j0])
  | succ kj2 =>
   have H := HA.out
   clear HA
   simp only [laws_FnBakAgain.j0] at H
   by_cases c5 : x19_2 = true
   ·subst c5
    have H1 : (some true) = some r := by rw [if_pos rfl] at H; exact H
    clear H
    have H := H1
    clear H1
    obtain rfl := Option.some.inj H
    go_wp2
    go_ret
    exact ⟨by first | rfl | (simp [errW_none, errW_some] <;> rfl) | (simp [*, errW_none, errW_some] <;> rfl), by repeat (first | (with_reducible first | exact HB.out | apply below_alloc | apply pw_below_drewN | apply below_drew1) | exact HB.out)⟩
   ·replace c5 := Bool.eq_false_iff.mpr c5
    subst c5
    have H1 : ((spec_DrawBakLine.f kj2 l0).bind fun bt397 => ((spec_DrawBakLine.f kj2 l1).bind fun bt402 => ((impl_BakLine.f kj2 bt397.1 bt397.2).bind fun t407 => ((spec_BakLine.f kj2 bt397.1 bt397.2).bind fun t408 => (if t407.toList = t408.toList then ((spec_MapOk.f kj2 bt397.1).bind fun t409 => (if t409 = true then ((spec_MapOk.f kj2 bt402.1).bind fun t410 => (if t410 = true then ((spec_LinOk.f kj2 bt397.2).bind fun t411 => (laws_FnBakAgain.j1 kj2 bt397.2 t407 (!t411) bt397.1 bt402.1)) else (laws_FnBakAgain.j1 kj2 bt397.2 t407 true bt397.1 bt402.1))) else (laws_FnBakAgain.j1 kj2 bt397.2 t407 true bt397.1 bt402.1))) else (some false)))))) = some r := by rw [if_neg (show ¬ (false = true) by decide)] at H; exact H
    clear H
    have H := H1
    clear H1
    replace H := Option.bind_eq_some_iff.mp H
    obtain ⟨⟨t397, t400⟩, A60, H⟩ := H
    replace H : ((spec_DrawBakLine.f kj2 l1).bind fun bt402 => ((impl_BakLine.f kj2 t397 t400).bind fun t407 => ((spec_BakLine.f kj2 t397 t400).bind fun t408 => (if t407.toList = t408.toList then ((spec_MapOk.f kj2 t397).bind fun t409 => (if t409 = true then ((spec_MapOk.f kj2 bt402.1).bind fun t410 => (if t410 = true then ((spec_LinOk.f kj2 t400).bind fun t411 => (laws_FnBakAgain.j1 kj2 t400 t407 (!t411) t397 bt402.1)) else (laws_FnBakAgain.j1 kj2 t400 t407 true t397 bt402.1))) else (laws_FnBakAgain.j1 kj2 t400 t407 true t397 bt402.1))) else (some false))))) = some r := H
    have A6 := Aside0.mk A60
    clear A60
    replace H := Option.bind_eq_some_iff.mp H
    obtain ⟨⟨t402, t405⟩, A70, H⟩ := H
    replace H : ((impl_BakLine.f kj2 t397 t400).bind fun t407 => ((spec_BakLine.f kj2 t397 t400).bind fun t408 => (if t407.toList = t408.toList then ((spec_MapOk.f kj2 t397).bind fun t409 => (if t409 = true then ((spec_MapOk.f kj2 t402).bind fun t410 => (if t410 = true then ((spec_LinOk.f kj2 t400).bind fun t411 => (laws_FnBakAgain.j1 kj2 t400 t407 (!t411) t397 t402)) else (laws_FnBakAgain.j1 kj2 t400 t407 true t397 t402))) else (laws_FnBakAgain.j1 kj2 t400 t407 true t397 t402))) else (some false)))) = some r := H
    have A7 := Aside0.mk A70
    clear A70
    replace H := Option.bind_eq_some_iff.mp H
    obtain ⟨t407, A80, H⟩ := H
    replace H : ((spec_BakLine.f kj2 t397 t400).bind fun t408 => (if t407.toList = t408.toList then ((spec_MapOk.f kj2 t397).bind fun t409 => (if t409 = true then ((spec_MapOk.f kj2 t402).bind fun t410 => (if t410 = true then ((spec_LinOk.f kj2 t400).bind fun t411 => (laws_FnBakAgain.j1 kj2 t400 t407 (!t411) t397 t402)) else (laws_FnBakAgain.j1 kj2 t400 t407 true t397 t402))) else (laws_FnBakAgain.j1 kj2 t400 t407 true t397 t402))) else (some false))) = some r := H
    have A8 := Aside0.mk A80
    clear A80
    replace H := Option.bind_eq_some_iff.mp H
    obtain ⟨t408, A90, H⟩ := H
    replace H : (if t407.toList = t408.toList then ((spec_MapOk.f kj2 t397).bind fun t409 => (if t409 = true then ((spec_MapOk.f kj2 t402).bind fun t410 => (if t410 = true then ((spec_LinOk.f kj2 t400).bind fun t411 => (laws_FnBakAgain.j1 kj2 t400 t407 (!t411) t397 t402)) else (laws_FnBakAgain.j1 kj2 t400 t407 true t397 t402))) else (laws_FnBakAgain.j1 kj2 t400 t407 true t397 t402))) else (some false)) = some r := H
    have A9 := Aside0.mk A90
    clear A90
    by_cases c10 : t407.toList = t408.toList
    ·rw [if_pos c10] at H
     have c10b0 : (t407.toList == t408.toList) = true := beq_iff_eq.mpr c10
     have c10b1 : (t407.toList != t408.toList) = false := bne_eq_false_iff_eq.mpr c10
     clear c10
     have HC11 := Aside0.mk H
     clear H
     go_upto_region 8 with (first | ((with_reducible refine gate_callee (f := 21) rfl ?_); refine goesL_ (some 22) rfl rfl Tryd.func21 (by kernel_rfl) rfl #[.slice A0 l0.length c0] rfl Z56 ?_; (with_reducible refine (spec_DrawBakLine.calls kj2 _ _ l0 t397 t400 _ ?side1 ?side2 A6.out).mono ?_); (case side1 => exact Z82); (case side2 => exact HC0.out); rintro e w12 ⟨v398, rfl, ho0, hb⟩; refine ⟨_, rfl, ?_⟩; have n0_ := Aside0.mk (Kd.R_lower ho0 (below_size Z52)); have n1_ := Aside0.mk (below_step Z52 hb); clear HB; have HO399 := n0_; have HB := n1_; clear n0_ n1_; (try clear hb); (try clear ho0)) | ((with_reducible refine gate_dst (N := 5) rfl ?_); (try (refine gate_guard (by rfl) ?_; dsimp only)); refine box_event ?hg (N := 5) ?hd (cs := #[.slice none 0 0]) (t := 29) ?hr ?_; (case hd => rfl); (case hg => rfl); (case hr => first | (go_simp; done) | (go_simp; rfl)); intro gb401 hg w13 hbox hb; have n0_ := Aside0.mk (Kd.R_below Z11 hb); have n1_ := Aside0.mk (below_step Z52 hb); have n2_ := Aside0.mk (hbox); have n3_ := Aside0.mk ((Z161 : w.heap.size ≤ gb401)); have n4_ := Aside0.mk ((Z161 : w.heap.size ≤ gb401)); clear HO399; clear HB; have HO399 := n0_; have HB := n1_; have BK401 := n2_; have GW401 := n3_; have GE401 := n4_; clear n0_ n1_ n2_ n3_ n4_; clear hb hbox hg; obtain ⟨Ao14, co14, eo14⟩ := Kd.R_slice HO399.out; subst eo14; have hcz15_0 : w13.cell? ⟨gb401, 0, none⟩ = some (.slice none 0 0) := (blk_cell BK401.out 0).trans rfl; have hfz15_0 := blk_frozen BK401.out 0) | ((with_reducible refine gate_callee (f := 21) rfl ?_); refine goesL_ (some 27) rfl rfl Tryd.func21 (by kernel_rfl) rfl #[.slice A1 l1.length c1] rfl Z56 ?_; (with_reducible refine (spec_DrawBakLine.calls kj2 _ _ l1 t402 t405 _ ?side1 ?side2 A7.out).mono ?_); (case side1 => exact Kd.C_below HR1.out Z78); (case side2 => exact HC1.out); rintro e w16 ⟨v403, rfl, ho0, hb⟩; refine ⟨_, rfl, ?_⟩; have n0_ := Aside0.mk (Kd.R_elder' Z135 (Kd.R_base ho0) hb); have n1_ := Aside0.mk (Kd.R_lower (Kd.R_new' ho0 (Kd.R_lt Z135)) (below_size Z78)); have n2_ := Aside0.mk (blk_below (g := gb401) (o := .cells #[.slice Ao14 t397.length co14] 29 (0, 0)) Z149 hb); have n3_ := Aside0.mk (below_step Z78 hb); clear HO399; clear BK401; clear HB; have HO399 := n0_; have HO404 := n1_; have BK401 := n2_; have HB := n3_; clear n0_ n1_ n2_ n3_; (try clear hb); (try clear ho0)) | ((with_reducible refine gate_dst (N := 7) rfl ?_); (try (refine gate_guard (by rfl) ?_; dsimp only)); refine box_event ?hg (N := 7) ?hd (cs := #[.slice none 0 0]) (t := 29) ?hr ?_; (case hd => rfl); (case hg => rfl); (case hr => first | (go_simp; done) | (go_simp; rfl)); intro gb406 hg w17 hbox hb; have n0_ := Aside0.mk (Kd.R_below Z11 hb); have n1_ := Aside0.mk (Kd.R_below Z12 hb); have n2_ := Aside0.mk (blk_below (g := gb401) (o := .cells #[.slice Ao14 t397.length co14] 29 (0, 0)) Z48 hb); have n3_ := Aside0.mk (below_step Z78 hb); have n4_ := Aside0.mk (hbox); have n5_ := Aside0.mk ((by rw [hg]; exact (below_size Z78) : w.heap.size ≤ gb406)); have n6_ := Aside0.mk ((by rw [hg]; exact (below_size Z78) : w.heap.size ≤ gb406)); have n7_ := Aside0.mk ((by rw [hg]; exact Nat.ne_of_lt (blk_lt (g := gb401) (o := .cells #[.slice Ao14 t397.length co14] 29 (0, 0)) Z48) : gb401 ≠ gb406)); have n8_ := Aside0.mk ((by rw [hg]; exact Nat.ne_of_gt (blk_lt (g := gb401) (o := .cells #[.slice Ao14 t397.length co14] 29 (0, 0)) Z48) : gb406 ≠ gb401)); clear HO399; clear HO404; clear BK401; clear HB; have HO399 := n0_; have HO404 := n1_; have BK401 := n2_; have HB := n3_; have BK406 := n4_; have GW406 := n5_; have GE406 := n6_; have NB401_406 := n7_; have NB406_401 := n8_; clear n0_ n1_ n2_ n3_ n4_ n5_ n6_ n7_ n8_; clear hb hbox hg; obtain ⟨Ao18, co18, eo18⟩ := Kd.R_slice HO404.out; subst eo18; have hnb19 := NB406_401.out; have hnc19 := NB401_406.out; have hcz20_0 : w17.cell? ⟨gb406, 0, none⟩ = some (.slice none 0 0) := (blk_cell BK406.out 0).trans rfl; have hfz20_0 := blk_frozen BK406.out 0; have hcz21_0 : w17.cell? ⟨gb401, 0, none⟩ = some (.slice Ao14 t397.length co14) := (blk_cell BK401.out 0).trans rfl; have hfz21_0 := blk_frozen BK401.out 0) | ((with_reducible refine gate_callee (f := 19) rfl ?_); refine goesL_ (some 32) rfl rfl Tryd.func19 (by kernel_rfl) rfl #[.agg #[.slice Ao14 t397.length co14], .string t400] rfl Z56 ?_; (with_reducible refine (impl_BakLine.calls kj2 _ _ t397 t400 t407 _ ?side1 ?side2 A8.out ?sideL_).mono ?_); (case sideL_ => exact (Ends.LErr.below HL_.out Z111)); (case side1 => refine (Kd.R_reads' (e := 43) (base := w.heap.size) (ok := fun k_ => (True ∧ some k_ ≠ (.slice Ao18 t402.length co18 : Value).ownBlock)) (n := t397.length) (c := co14) ?_).2.2; exact Z136); (case side2 => exact (Kd.R_reads' HO399.out).2.1); rintro e w22 ⟨rfl, hb⟩; refine ⟨_, rfl, ?_⟩; have n0_ := Aside0.mk (Kd.R_below Z136 hb); have n1_ := Aside0.mk (Kd.R_below (by (with_reducible repeat (first | apply Kd.R_alloc | apply Kd.R_drewN | apply Kd.R_drew)); exact (Kd.R_mono (Kd.R_far (p := ⟨gb406, 0, none⟩) (Kd.R_types HO404.out BK406.out (by decide)) (fun _ hk => hk.2) (.slice Ao18 t402.length co18)) (fun _ h_ => h_.1))) hb); have n2_ := Aside0.mk (blk_below (g := gb401) (o := .cells #[.slice Ao14 t397.length co14] 29 (0, 0)) Z134 hb); have n3_ := Aside0.mk (blk_below (g := gb406) (o := .cells #[.slice Ao18 t402.length co18] 29 (0, 0)) Z150 hb); have n4_ := Aside0.mk (below_step Z111 hb); clear HO399; clear HO404; clear BK401; clear BK406; clear HB; have HO399 := n0_; have HO404 := n1_; have BK401 := n2_; have BK406 := n3_; have HB := n4_; clear n0_ n1_ n2_ n3_ n4_; (try clear hb); have hcz23_0 : w22.cell? ⟨gb401, 0, none⟩ = some (.slice Ao14 t397.length co14) := (blk_cell BK401.out 0).trans rfl; have hfz23_0 := blk_frozen BK401.out 0) | ((with_reducible refine gate_callee (f := 17) rfl ?_); refine goesL_ (some 36) rfl rfl Tryd.func17 (by kernel_rfl) rfl #[.agg #[.slice Ao14 t397.length co14], .string t400] rfl Z56 ?_; (with_reducible refine (spec_BakLine.calls kj2 _ _ t397 t400 t408 _ ?side1 ?side2 A9.out).mono ?_); (case side1 => exact Z85); (case side2 => exact (Kd.R_reads' HO399.out).2.1); rintro e w24 ⟨rfl, hb⟩; refine ⟨_, rfl, ?_⟩; have n0_ := Aside0.mk (Kd.R_below Z11 hb); have n1_ := Aside0.mk (Kd.R_below Z12 hb); have n2_ := Aside0.mk (blk_below (g := gb401) (o := .cells #[.slice Ao14 t397.length co14] 29 (0, 0)) Z48 hb); have n3_ := Aside0.mk (blk_below (g := gb406) (o := .cells #[.slice Ao18 t402.length co18] 29 (0, 0)) Z49 hb); have n4_ := Aside0.mk (below_step Z111 hb); clear HO399; clear HO404; clear BK401; clear BK406; clear HB; have HO399 := n0_; have HO404 := n1_; have BK401 := n2_; have BK406 := n3_; have HB := n4_; clear n0_ n1_ n2_ n3_ n4_; (try clear hb)))
     (try simp only [Act.put, List.setIfInBounds_toArray, List.set_cons_zero, List.set_cons_succ])
     go_cut [50] (fun v50 wc => ∃ (kq : Nat) (x50_10 : Bool), v50 = .bool x50_10 ∧ Aside0 (laws_FnBakAgain.j1 kq t400 t407 x50_10 t397 t402 = some r) ∧ Aside0 (kq ≤ kj2) ∧ Aside0 (Kd.R k43 43 wc w.heap.size (fun k_ => some k_ ≠ ((.slice Ao18 t402.length co18) : Value).ownBlock) (.slice Ao14 t397.length co14) t397) ∧ Aside0 (Kd.R k43 43 wc w.heap.size (fun k_ => some k_ ≠ ((.slice Ao14 t397.length co14) : Value).ownBlock) (.slice Ao18 t402.length co18) t402) ∧ Aside0 (wc.heap[gb401]? = some (.cells #[(.slice Ao14 t397.length co14)] 29 (0, 0))) ∧ Aside0 (wc.heap[gb406]? = some (.cells #[(.slice Ao18 t402.length co18)] 29 (0, 0))) ∧ Aside0 (Below w.heap.size w wc))
     case first =>
      have H := HC11.out
      clear HC11
      replace H := Option.bind_eq_some_iff.mp H
      obtain ⟨t409, A250, H⟩ := H
      replace H : (if t409 = true then ((spec_MapOk.f kj2 t402).bind fun t410 => (if t410 = true then ((spec_LinOk.f kj2 t400).bind fun t411 => (laws_FnBakAgain.j1 kj2 t400 t407 (!t411) t397 t402)) else (laws_FnBakAgain.j1 kj2 t400 t407 true t397 t402))) else (laws_FnBakAgain.j1 kj2 t400 t407 true t397 t402)) = some r := H
      have A25 := Aside0.mk A250
      clear A250
      by_cases c26 : t409 = true
      ·subst c26
       have H1 : ((spec_MapOk.f kj2 t402).bind fun t410 => (if t410 = true then ((spec_LinOk.f kj2 t400).bind fun t411 => (laws_FnBakAgain.j1 kj2 t400 t407 (!t411) t397 t402)) else (laws_FnBakAgain.j1 kj2 t400 t407 true t397 t402))) = some r := by rw [if_pos rfl] at H; exact H
       clear H
       have H := H1
       clear H1
       replace H := Option.bind_eq_some_iff.mp H
       obtain ⟨t410, A270, H⟩ := H
       replace H : (if t410 = true then ((spec_LinOk.f kj2 t400).bind fun t411 => (laws_FnBakAgain.j1 kj2 t400 t407 (!t411) t397 t402)) else (laws_FnBakAgain.j1 kj2 t400 t407 true t397 t402)) = some r := H
       have A27 := Aside0.mk A270
       clear A270
       by_cases c28 : t410 = true
       ·subst c28
        have H1 : ((spec_LinOk.f kj2 t400).bind fun t411 => (laws_FnBakAgain.j1 kj2 t400 t407 (!t411) t397 t402)) = some r := by rw [if_pos rfl] at H; exact H
        clear H
        have H := H1
        clear H1
        replace H := Option.bind_eq_some_iff.mp H
        obtain ⟨t411, A290, H⟩ := H
        replace H : (laws_FnBakAgain.j1 kj2 t400 t407 (!t411) t397 t402) = some r := H
        have A29 := Aside0.mk A290
        clear A290
        have H' := Aside0.mk H
        clear H
        have hnb30 := NB401_406.out
        have hnc30 := NB406_401.out
        have hcz31_0 : w24.cell? ⟨gb401, 0, none⟩ = some (.slice Ao14 t397.length co14) := (blk_cell BK401.out 0).trans rfl
        have hfz31_0 := blk_frozen BK401.out 0
        go_wp2_with (first | ((with_reducible refine gate_callee (f := 22) rfl ?_); refine goesL_ (some 39) rfl rfl Tryd.func22 (by kernel_rfl) rfl #[.agg #[.slice Ao14 t397.length co14]] rfl Z56 ?_; (with_reducible refine (spec_MapOk.calls kj2 _ _ t397 true _ ?side1 ?side2 A25.out).mono ?_); (case side1 => exact Z85); (case side2 => exact (Kd.R_reads' HO399.out).2.1); rintro e w32 ⟨rfl, hb⟩; refine ⟨_, rfl, ?_⟩; have n0_ := Aside0.mk (Kd.R_below Z11 hb); have n1_ := Aside0.mk (Kd.R_below Z12 hb); have n2_ := Aside0.mk (blk_below (g := gb401) (o := .cells #[.slice Ao14 t397.length co14] 29 (0, 0)) Z48 hb); have n3_ := Aside0.mk (blk_below (g := gb406) (o := .cells #[.slice Ao18 t402.length co18] 29 (0, 0)) Z49 hb); have n4_ := Aside0.mk (below_step Z111 hb); clear HO399; clear HO404; clear BK401; clear BK406; clear HB; have HO399 := n0_; have HO404 := n1_; have BK401 := n2_; have BK406 := n3_; have HB := n4_; clear n0_ n1_ n2_ n3_ n4_; (try clear hb); have hcz33_0 : w32.cell? ⟨gb406, 0, none⟩ = some (.slice Ao18 t402.length co18) := (blk_cell BK406.out 0).trans rfl; have hfz33_0 := blk_frozen BK406.out 0) | (go_at_call 22; (with_reducible refine (spec_MapOk.calls kj2 _ _ t402 true _ ?side1 ?side2 A27.out).mono ?_); (case side1 => exact Z86); (case side2 => exact (Kd.R_reads' HO404.out).2.1); rintro e w34 ⟨rfl, hb⟩; have n0_ := Aside0.mk (Kd.R_below Z11 hb); have n1_ := Aside0.mk (Kd.R_below Z12 hb); have n2_ := Aside0.mk (blk_below (g := gb401) (o := .cells #[.slice Ao14 t397.length co14] 29 (0, 0)) Z48 hb); have n3_ := Aside0.mk (blk_below (g := gb406) (o := .cells #[.slice Ao18 t402.length co18] 29 (0, 0)) Z49 hb); have n4_ := Aside0.mk (below_step Z111 hb); clear HO399; clear HO404; clear BK401; clear BK406; clear HB; have HO399 := n0_; have HO404 := n1_; have BK401 := n2_; have BK406 := n3_; have HB := n4_; clear n0_ n1_ n2_ n3_ n4_; (try clear hb)) | (go_at_call 23; (with_reducible refine (spec_LinOk.calls kj2 t400 t411 _ A29.out).mono ?_); rintro e w' ⟨rfl, ⟨nd, rfl⟩⟩))
        go_meet
        case rel => exact ⟨_, (!t411), Z0, H', ⟨by have := HJ2.out; first | omega | exact Nat.le_refl _⟩, ⟨by (with_reducible repeat (first | apply Kd.R_alloc | apply Kd.R_drewN | apply Kd.R_drew)); exact Kd.R_mono HO399.out (fun _ hk => hk.2)⟩, ⟨by (with_reducible repeat (first | apply Kd.R_alloc | apply Kd.R_drewN | apply Kd.R_drew)); exact Kd.R_mono HO404.out (fun _ hk => hk.2)⟩, ⟨by (with_reducible repeat (first | refine blk_drewN ?_ _ | refine blk_drew ?_ | refine blk_alloc ?_ _)); exact BK401.out⟩, ⟨by (with_reducible repeat (first | refine blk_drewN ?_ _ | refine blk_drew ?_ | refine blk_alloc ?_ _)); exact BK406.out⟩, ⟨by repeat (first | (with_reducible first | exact HB.out | apply below_alloc | apply pw_below_drewN | apply below_drew1 | refine below_set ?_ GE401.out | refine below_set ?_ GE406.out) | exact HB.out)⟩⟩
       ·replace c28 := Bool.eq_false_iff.mpr c28
        subst c28
        have H1 : (laws_FnBakAgain.j1 kj2 t400 t407 true t397 t402) = some r := by rw [if_neg (show ¬ (false = true) by decide)] at H; exact H
        clear H
        have H := H1
        clear H1
        have H' := Aside0.mk H
        clear H
        have hnb35 := NB401_406.out
        have hnc35 := NB406_401.out
        have hcz36_0 : w24.cell? ⟨gb401, 0, none⟩ = some (.slice Ao14 t397.length co14) := (blk_cell BK401.out 0).trans rfl
        have hfz36_0 := blk_frozen BK401.out 0
        go_wp2_with (first | ((with_reducible refine gate_callee (f := 22) rfl ?_); refine goesL_ (some 39) rfl rfl Tryd.func22 (by kernel_rfl) rfl #[.agg #[.slice Ao14 t397.length co14]] rfl Z56 ?_; (with_reducible refine (spec_MapOk.calls kj2 _ _ t397 true _ ?side1 ?side2 A25.out).mono ?_); (case side1 => exact Z85); (case side2 => exact (Kd.R_reads' HO399.out).2.1); rintro e w37 ⟨rfl, hb⟩; refine ⟨_, rfl, ?_⟩; have n0_ := Aside0.mk (Kd.R_below Z11 hb); have n1_ := Aside0.mk (Kd.R_below Z12 hb); have n2_ := Aside0.mk (blk_below (g := gb401) (o := .cells #[.slice Ao14 t397.length co14] 29 (0, 0)) Z48 hb); have n3_ := Aside0.mk (blk_below (g := gb406) (o := .cells #[.slice Ao18 t402.length co18] 29 (0, 0)) Z49 hb); have n4_ := Aside0.mk (below_step Z111 hb); clear HO399; clear HO404; clear BK401; clear BK406; clear HB; have HO399 := n0_; have HO404 := n1_; have BK401 := n2_; have BK406 := n3_; have HB := n4_; clear n0_ n1_ n2_ n3_ n4_; (try clear hb); have hcz38_0 : w37.cell? ⟨gb406, 0, none⟩ = some (.slice Ao18 t402.length co18) := (blk_cell BK406.out 0).trans rfl; have hfz38_0 := blk_frozen BK406.out 0) | (go_at_call 22; (with_reducible refine (spec_MapOk.calls kj2 _ _ t402 false _ ?side1 ?side2 A27.out).mono ?_); (case side1 => exact Z86); (case side2 => exact (Kd.R_reads' HO404.out).2.1); rintro e w39 ⟨rfl, hb⟩; have n0_ := Aside0.mk (Kd.R_below Z11 hb); have n1_ := Aside0.mk (Kd.R_below Z12 hb); have n2_ := Aside0.mk (blk_below (g := gb401) (o := .cells #[.slice Ao14 t397.length co14] 29 (0, 0)) Z48 hb); have n3_ := Aside0.mk (blk_below (g := gb406) (o := .cells #[.slice Ao18 t402.length co18] 29 (0, 0)) Z49 hb); have n4_ := Aside0.mk (below_step Z111 hb); clear HO399; clear HO404; clear BK401; clear BK406; clear HB; have HO399 := n0_; have HO404 := n1_; have BK401 := n2_; have BK406 := n3_; have HB := n4_; clear n0_ n1_ n2_ n3_ n4_; (try clear hb)))
        go_meet
        case rel => exact ⟨_, (true), Z0, H', ⟨by have := HJ2.out; first | omega | exact Nat.le_refl _⟩, ⟨by (with_reducible repeat (first | apply Kd.R_alloc | apply Kd.R_drewN | apply Kd.R_drew)); exact Kd.R_mono HO399.out (fun _ hk => hk.2)⟩, ⟨by (with_reducible repeat (first | apply Kd.R_alloc | apply Kd.R_drewN | apply Kd.R_drew)); exact Kd.R_mono HO404.out (fun _ hk => hk.2)⟩, ⟨by (with_reducible repeat (first | refine blk_drewN ?_ _ | refine blk_drew ?_ | refine blk_alloc ?_ _)); exact BK401.out⟩, ⟨by (with_reducible repeat (first | refine blk_drewN ?_ _ | refine blk_drew ?_ | refine blk_alloc ?_ _)); exact BK406.out⟩, ⟨by repeat (first | (with_reducible first | exact HB.out | apply below_alloc | apply pw_below_drewN | apply below_drew1 | refine below_set ?_ GE401.out | refine below_set ?_ GE406.out) | exact HB.out)⟩⟩
      ·replace c26 := Bool.eq_false_iff.mpr c26
       subst c26
       have H1 : (laws_FnBakAgain.j1 kj2 t400 t407 true t397 t402) = some r := by rw [if_neg (show ¬ (false = true) by decide)] at H; exact H
       clear H
       have H := H1
       clear H1
       have H' := Aside0.mk H
       clear H
       have hnb40 := NB401_406.out
       have hnc40 := NB406_401.out
       have hcz41_0 : w24.cell? ⟨gb401, 0, none⟩ = some (.slice Ao14 t397.length co14) := (blk_cell BK401.out 0).trans rfl
       have hfz41_0 := blk_frozen BK401.out 0
       go_wp2_with (first | ((with_reducible refine gate_callee (f := 22) rfl ?_); refine goesL_ (some 39) rfl rfl Tryd.func22 (by kernel_rfl) rfl #[.agg #[.slice Ao14 t397.length co14]] rfl Z56 ?_; (with_reducible refine (spec_MapOk.calls kj2 _ _ t397 false _ ?side1 ?side2 A25.out).mono ?_); (case side1 => exact Z85); (case side2 => exact (Kd.R_reads' HO399.out).2.1); rintro e w42 ⟨rfl, hb⟩; refine ⟨_, rfl, ?_⟩; have n0_ := Aside0.mk (Kd.R_below Z11 hb); have n1_ := Aside0.mk (Kd.R_below Z12 hb); have n2_ := Aside0.mk (blk_below (g := gb401) (o := .cells #[.slice Ao14 t397.length co14] 29 (0, 0)) Z48 hb); have n3_ := Aside0.mk (blk_below (g := gb406) (o := .cells #[.slice Ao18 t402.length co18] 29 (0, 0)) Z49 hb); have n4_ := Aside0.mk (below_step Z111 hb); clear HO399; clear HO404; clear BK401; clear BK406; clear HB; have HO399 := n0_; have HO404 := n1_; have BK401 := n2_; have BK406 := n3_; have HB := n4_; clear n0_ n1_ n2_ n3_ n4_; (try clear hb)))
       go_meet
       case rel => exact ⟨_, (true), Z0, H', ⟨by have := HJ2.out; first | omega | exact Nat.le_refl _⟩, ⟨by (with_reducible repeat (first | apply Kd.R_alloc | apply Kd.R_drewN | apply Kd.R_drew)); exact Kd.R_mono HO399.out (fun _ hk => hk.2)⟩, ⟨by (with_reducible repeat (first | apply Kd.R_alloc | apply Kd.R_drewN | apply Kd.R_drew)); exact Kd.R_mono HO404.out (fun _ hk => hk.2)⟩, ⟨by (with_reducible repeat (first | refine blk_drewN ?_ _ | refine blk_drew ?_ | refine blk_alloc ?_ _)); exact BK401.out⟩, ⟨by (with_reducible repeat (first | refine blk_drewN ?_ _ | refine blk_drew ?_ | refine blk_alloc ?_ _)); exact BK406.out⟩, ⟨by repeat (first | (with_reducible first | exact HB.out | apply below_alloc | apply pw_below_drewN | apply below_drew1 | refine below_set ?_ GE401.out | refine below_set ?_ GE406.out) | exact HB.out)⟩⟩
     case rest =>
      clear HC11
      try clear c1
      try clear c2
      try clear p2
      try clear c3
      try clear c4
      try clear c4b0
      try clear c4b1
      try clear c5
      try clear c10
      try clear c10b0
      try clear c10b1
      try clear c17
      try clear c19
      try clear c21
      try clear c22
      try clear c26
      try clear c28
      try clear c30
      try clear c35
      try clear c40
      try clear hcz15_0
      try clear hcz20_0
      try clear hcz21_0
      try clear hcz23_0
      try clear hcz31_0
      try clear hcz33_0
      try clear hcz36_0
      try clear hcz38_0
      try clear hcz41_0
      try clear hfz15_0
      try clear hfz20_0
      try clear hfz21_0
      try clear hfz23_0
      try clear hfz31_0
      try clear hfz33_0
      try clear hfz36_0
      try clear hfz38_0
      try clear hfz41_0
      try clear p2
      obtain ⟨kq, x50_10, rfl, HA, HJ10, HO_402000, HO_407000, BK401, BK406, HB⟩ := hcut
      cases kq with
      | zero => exact absurd HA.out (by simp [laws_FnBakAgain.j1])
      | succ kj10 =>
       have H := HA.out
       clear HA
       simp only [laws_FnBakAgain.j1] at H
       by_cases c43 : x50_10 = true
       ·subst c43
        have H1 : ((laws_haOk.f kj10).bind fun t412 => (some t412)) = some r := by rw [if_pos rfl] at H; exact H
        clear H
        have H := H1
        clear H1
        replace H := Option.bind_eq_some_iff.mp H
        obtain ⟨t412, A440, H⟩ := H
        replace H : (some t412) = some r := H
        have A44 := Aside0.mk A440
        clear A440
        obtain rfl := Option.some.inj H
        go_wp2_with (first | ((with_reducible refine gate_callee (f := 24) rfl ?_); refine goesL_ (some 51) rfl rfl Tryd.func24 (by kernel_rfl) rfl #[] rfl Z56 ?_; (with_reducible refine (laws_haOk.calls kj10  t412 _ A44.out).mono ?_); rintro e w45 ⟨rfl, hb⟩; refine ⟨_, rfl, ?_⟩; have n0_ := Aside0.mk (Kd.R_below Z14 hb); have n1_ := Aside0.mk (Kd.R_below Z15 hb); have n2_ := Aside0.mk (blk_below (g := gb401) (o := .cells #[.slice Ao14 t397.length co14] 29 (0, 0)) Z48 hb); have n3_ := Aside0.mk (blk_below (g := gb406) (o := .cells #[.slice Ao18 t402.length co18] 29 (0, 0)) Z49 hb); have n4_ := Aside0.mk (below_step Z111 hb); clear HO_402000; clear HO_407000; clear BK401; clear BK406; clear HB; have HO_402000 := n0_; have HO_407000 := n1_; have BK401 := n2_; have BK406 := n3_; have HB := n4_; clear n0_ n1_ n2_ n3_ n4_; (try clear hb)))
        go_ret
        exact ⟨by first | rfl | (simp [errW_none, errW_some] <;> rfl) | (simp [*, errW_none, errW_some] <;> rfl), by repeat (first | (with_reducible first | exact HB.out | apply below_alloc | apply pw_below_drewN | apply below_drew1 | refine below_set ?_ GE401.out | refine below_set ?_ GE406.out) | exact HB.out)⟩
       ·replace c43 := Bool.eq_false_iff.mpr c43
        subst c43
        have H1 : ((impl_LinBox.f kj10 t400).bind fun bt413 => ((impl_BakLine.f kj10 t397 t407).bind fun t415 => (if t415.toList = t407.toList then (if bt413.2 = true then ((laws_haOk.f kj10).bind fun t416 => (some t416)) else ((impl_BakLine.f kj10 t402 t400).bind fun t417 => (if t417.toList = t400.toList then ((laws_haOk.f kj10).bind fun t418 => (some t418)) else (some false)))) else (some false)))) = some r := by rw [if_neg (show ¬ (false = true) by decide)] at H; exact H
        clear H
        have H := H1
        clear H1
        replace H := Option.bind_eq_some_iff.mp H
        obtain ⟨⟨t413, t414⟩, A460, H⟩ := H
        replace H : ((impl_BakLine.f kj10 t397 t407).bind fun t415 => (if t415.toList = t407.toList then (if t414 = true then ((laws_haOk.f kj10).bind fun t416 => (some t416)) else ((impl_BakLine.f kj10 t402 t400).bind fun t417 => (if t417.toList = t400.toList then ((laws_haOk.f kj10).bind fun t418 => (some t418)) else (some false)))) else (some false))) = some r := H
        have A46 := Aside0.mk A460
        clear A460
        replace H := Option.bind_eq_some_iff.mp H
        obtain ⟨t415, A470, H⟩ := H
        replace H : (if t415.toList = t407.toList then (if t414 = true then ((laws_haOk.f kj10).bind fun t416 => (some t416)) else ((impl_BakLine.f kj10 t402 t400).bind fun t417 => (if t417.toList = t400.toList then ((laws_haOk.f kj10).bind fun t418 => (some t418)) else (some false)))) else (some false)) = some r := H
        have A47 := Aside0.mk A470
        clear A470
        by_cases c48 : t415.toList = t407.toList
        ·rw [if_pos c48] at H
         have c48b0 : (t415.toList == t407.toList) = true := beq_iff_eq.mpr c48
         have c48b1 : (t415.toList != t407.toList) = false := bne_eq_false_iff_eq.mpr c48
         clear c48
         by_cases c49 : t414 = true
         ·subst c49
          have H1 : ((laws_haOk.f kj10).bind fun t416 => (some t416)) = some r := by rw [if_pos rfl] at H; exact H
          clear H
          have H := H1
          clear H1
          replace H := Option.bind_eq_some_iff.mp H
          obtain ⟨t416, A500, H⟩ := H
          replace H : (some t416) = some r := H
          have A50 := Aside0.mk A500
          clear A500
          obtain rfl := Option.some.inj H
          go_wp2_with (first | ((with_reducible refine gate_callee (f := 25) rfl ?_); refine goesL_ (some 54) rfl rfl Tryd.func25 (by kernel_rfl) rfl #[.string t400] rfl Z56 ?_; (with_reducible refine (impl_LinBox.calls kj10 t400 t413 true _ A46.out ?sideL_).mono ?_); (case sideL_ => exact (Ends.LErr.below HL_.out Z111)); rintro e w51 ⟨rfl, hb⟩; refine ⟨_, rfl, ?_⟩; have n0_ := Aside0.mk (Kd.R_below Z14 hb); have n1_ := Aside0.mk (Kd.R_below Z15 hb); have n2_ := Aside0.mk (blk_below (g := gb401) (o := .cells #[.slice Ao14 t397.length co14] 29 (0, 0)) Z48 hb); have n3_ := Aside0.mk (blk_below (g := gb406) (o := .cells #[.slice Ao18 t402.length co18] 29 (0, 0)) Z49 hb); have n4_ := Aside0.mk (below_step Z111 hb); clear HO_402000; clear HO_407000; clear BK401; clear BK406; clear HB; have HO_402000 := n0_; have HO_407000 := n1_; have BK401 := n2_; have BK406 := n3_; have HB := n4_; clear n0_ n1_ n2_ n3_ n4_; (try clear hb); have hnb52 := NB401_406.out; have hnc52 := NB406_401.out; have hcz53_0 : w51.cell? ⟨gb401, 0, none⟩ = some (.slice Ao14 t397.length co14) := (blk_cell BK401.out 0).trans rfl; have hfz53_0 := blk_frozen BK401.out 0) | ((with_reducible refine gate_callee (f := 19) rfl ?_); refine goesL_ (some 59) rfl rfl Tryd.func19 (by kernel_rfl) rfl #[.agg #[.slice Ao14 t397.length co14], .string t407] rfl Z56 ?_; (with_reducible refine (impl_BakLine.calls kj10 _ _ t397 t407 t415 _ ?side1 ?side2 A47.out ?sideL_).mono ?_); (case sideL_ => exact (Ends.LErr.below HL_.out Z111)); (case side1 => exact Z94); (case side2 => exact (Kd.R_reads' HO_402000.out).2.1); rintro e w54 ⟨rfl, hb⟩; refine ⟨_, rfl, ?_⟩; have n0_ := Aside0.mk (Kd.R_below Z14 hb); have n1_ := Aside0.mk (Kd.R_below Z15 hb); have n2_ := Aside0.mk (blk_below (g := gb401) (o := .cells #[.slice Ao14 t397.length co14] 29 (0, 0)) Z48 hb); have n3_ := Aside0.mk (blk_below (g := gb406) (o := .cells #[.slice Ao18 t402.length co18] 29 (0, 0)) Z49 hb); have n4_ := Aside0.mk (below_step Z111 hb); clear HO_402000; clear HO_407000; clear BK401; clear BK406; clear HB; have HO_402000 := n0_; have HO_407000 := n1_; have BK401 := n2_; have BK406 := n3_; have HB := n4_; clear n0_ n1_ n2_ n3_ n4_; (try clear hb)) | (go_at_call 24; (with_reducible refine (laws_haOk.calls kj10  t416 _ A50.out).mono ?_); rintro e w55 ⟨rfl, hb⟩; have n0_ := Aside0.mk (Kd.R_below Z14 hb); have n1_ := Aside0.mk (Kd.R_below Z15 hb); have n2_ := Aside0.mk (blk_below (g := gb401) (o := .cells #[.slice Ao14 t397.length co14] 29 (0, 0)) Z48 hb); have n3_ := Aside0.mk (blk_below (g := gb406) (o := .cells #[.slice Ao18 t402.length co18] 29 (0, 0)) Z49 hb); have n4_ := Aside0.mk (below_step Z111 hb); clear HO_402000; clear HO_407000; clear BK401; clear BK406; clear HB; have HO_402000 := n0_; have HO_407000 := n1_; have BK401 := n2_; have BK406 := n3_; have HB := n4_; clear n0_ n1_ n2_ n3_ n4_; (try clear hb)))
          go_ret
          exact ⟨by first | rfl | (simp [errW_none, errW_some] <;> rfl) | (simp [*, errW_none, errW_some] <;> rfl), by repeat (first | (with_reducible first | exact HB.out | apply below_alloc | apply pw_below_drewN | apply below_drew1 | refine below_set ?_ GE401.out | refine below_set ?_ GE406.out) | exact HB.out)⟩
         ·replace c49 := Bool.eq_false_iff.mpr c49
          subst c49
          have H1 : ((impl_BakLine.f kj10 t402 t400).bind fun t417 => (if t417.toList = t400.toList then ((laws_haOk.f kj10).bind fun t418 => (some t418)) else (some false))) = some r := by rw [if_neg (show ¬ (false = true) by decide)] at H; exact H
          clear H
          have H := H1
          clear H1
          replace H := Option.bind_eq_some_iff.mp H
          obtain ⟨t417, A560, H⟩ := H
          replace H : (if t417.toList = t400.toList then ((laws_haOk.f kj10).bind fun t418 => (some t418)) else (some false)) = some r := H
          have A56 := Aside0.mk A560
          clear A560
          by_cases c57 : t417.toList = t400.toList
          ·rw [if_pos c57] at H
           have c57b0 : (t417.toList == t400.toList) = true := beq_iff_eq.mpr c57
           have c57b1 : (t417.toList != t400.toList) = false := bne_eq_false_iff_eq.mpr c57
           clear c57
           replace H := Option.bind_eq_some_iff.mp H
           obtain ⟨t418, A580, H⟩ := H
           replace H : (some t418) = some r := H
           have A58 := Aside0.mk A580
           clear A580
           obtain rfl := Option.some.inj H
           go_wp2_with (first | ((with_reducible refine gate_callee (f := 25) rfl ?_); refine goesL_ (some 54) rfl rfl Tryd.func25 (by kernel_rfl) rfl #[.string t400] rfl Z56 ?_; (with_reducible refine (impl_LinBox.calls kj10 t400 t413 false _ A46.out ?sideL_).mono ?_); (case sideL_ => exact (Ends.LErr.below HL_.out Z111)); rintro e w59 ⟨rfl, hb⟩; refine ⟨_, rfl, ?_⟩; have n0_ := Aside0.mk (Kd.R_below Z14 hb); have n1_ := Aside0.mk (Kd.R_below Z15 hb); have n2_ := Aside0.mk (blk_below (g := gb401) (o := .cells #[.slice Ao14 t397.length co14] 29 (0, 0)) Z48 hb); have n3_ := Aside0.mk (blk_below (g := gb406) (o := .cells #[.slice Ao18 t402.length co18] 29 (0, 0)) Z49 hb); have n4_ := Aside0.mk (below_step Z111 hb); clear HO_402000; clear HO_407000; clear BK401; clear BK406; clear HB; have HO_402000 := n0_; have HO_407000 := n1_; have BK401 := n2_; have BK406 := n3_; have HB := n4_; clear n0_ n1_ n2_ n3_ n4_; (try clear hb); have hnb60 := NB401_406.out; have hnc60 := NB406_401.out; have hcz61_0 : w59.cell? ⟨gb401, 0, none⟩ = some (.slice Ao14 t397.length co14) := (blk_cell BK401.out 0).trans rfl; have hfz61_0 := blk_frozen BK401.out 0) | ((with_reducible refine gate_callee (f := 19) rfl ?_); refine goesL_ (some 59) rfl rfl Tryd.func19 (by kernel_rfl) rfl #[.agg #[.slice Ao14 t397.length co14], .string t407] rfl Z56 ?_; (with_reducible refine (impl_BakLine.calls kj10 _ _ t397 t407 t415 _ ?side1 ?side2 A47.out ?sideL_).mono ?_); (case sideL_ => exact (Ends.LErr.below HL_.out Z111)); (case side1 => exact Z94); (case side2 => exact (Kd.R_reads' HO_402000.out).2.1); rintro e w62 ⟨rfl, hb⟩; refine ⟨_, rfl, ?_⟩; have n0_ := Aside0.mk (Kd.R_below Z14 hb); have n1_ := Aside0.mk (Kd.R_below Z15 hb); have n2_ := Aside0.mk (blk_below (g := gb401) (o := .cells #[.slice Ao14 t397.length co14] 29 (0, 0)) Z48 hb); have n3_ := Aside0.mk (blk_below (g := gb406) (o := .cells #[.slice Ao18 t402.length co18] 29 (0, 0)) Z49 hb); have n4_ := Aside0.mk (below_step Z111 hb); clear HO_402000; clear HO_407000; clear BK401; clear BK406; clear HB; have HO_402000 := n0_; have HO_407000 := n1_; have BK401 := n2_; have BK406 := n3_; have HB := n4_; clear n0_ n1_ n2_ n3_ n4_; (try clear hb); have hcz63_0 : w62.cell? ⟨gb406, 0, none⟩ = some (.slice Ao18 t402.length co18) := (blk_cell BK406.out 0).trans rfl; have hfz63_0 := blk_frozen BK406.out 0) | (go_at_call 19; (with_reducible refine (impl_BakLine.calls kj10 _ _ t402 t400 t417 _ ?side1 ?side2 A56.out ?sideL_).mono ?_); (case sideL_ => exact (Ends.LErr.below HL_.out Z111)); (case side1 => exact Z95); (case side2 => exact (Kd.R_reads' HO_407000.out).2.1); rintro e w64 ⟨rfl, hb⟩; have n0_ := Aside0.mk (Kd.R_below Z14 hb); have n1_ := Aside0.mk (Kd.R_below Z15 hb); have n2_ := Aside0.mk (blk_below (g := gb401) (o := .cells #[.slice Ao14 t397.length co14] 29 (0, 0)) Z48 hb); have n3_ := Aside0.mk (blk_below (g := gb406) (o := .cells #[.slice Ao18 t402.length co18] 29 (0, 0)) Z49 hb); have n4_ := Aside0.mk (below_step Z111 hb); clear HO_402000; clear HO_407000; clear BK401; clear BK406; clear HB; have HO_402000 := n0_; have HO_407000 := n1_; have BK401 := n2_; have BK406 := n3_; have HB := n4_; clear n0_ n1_ n2_ n3_ n4_; (try clear hb)) | (go_at_call 24; (with_reducible refine (laws_haOk.calls kj10  t418 _ A58.out).mono ?_); rintro e w65 ⟨rfl, hb⟩; have n0_ := Aside0.mk (Kd.R_below Z14 hb); have n1_ := Aside0.mk (Kd.R_below Z15 hb); have n2_ := Aside0.mk (blk_below (g := gb401) (o := .cells #[.slice Ao14 t397.length co14] 29 (0, 0)) Z48 hb); have n3_ := Aside0.mk (blk_below (g := gb406) (o := .cells #[.slice Ao18 t402.length co18] 29 (0, 0)) Z49 hb); have n4_ := Aside0.mk (below_step Z111 hb); clear HO_402000; clear HO_407000; clear BK401; clear BK406; clear HB; have HO_402000 := n0_; have HO_407000 := n1_; have BK401 := n2_; have BK406 := n3_; have HB := n4_; clear n0_ n1_ n2_ n3_ n4_; (try clear hb)))
           go_ret
           exact ⟨by first | rfl | (simp [errW_none, errW_some] <;> rfl) | (simp [*, errW_none, errW_some] <;> rfl), by repeat (first | (with_reducible first | exact HB.out | apply below_alloc | apply pw_below_drewN | apply below_drew1 | refine below_set ?_ GE401.out | refine below_set ?_ GE406.out) | exact HB.out)⟩
          ·rw [if_neg c57] at H
           have c57b0 : (t417.toList == t400.toList) = false := beq_eq_false_iff_ne.mpr c57
           have c57b1 : (t417.toList != t400.toList) = true := bne_iff_ne.mpr c57
           obtain rfl := Option.some.inj H
           go_wp2_with (first | ((with_reducible refine gate_callee (f := 25) rfl ?_); refine goesL_ (some 54) rfl rfl Tryd.func25 (by kernel_rfl) rfl #[.string t400] rfl Z56 ?_; (with_reducible refine (impl_LinBox.calls kj10 t400 t413 false _ A46.out ?sideL_).mono ?_); (case sideL_ => exact (Ends.LErr.below HL_.out Z111)); rintro e w66 ⟨rfl, hb⟩; refine ⟨_, rfl, ?_⟩; have n0_ := Aside0.mk (Kd.R_below Z14 hb); have n1_ := Aside0.mk (Kd.R_below Z15 hb); have n2_ := Aside0.mk (blk_below (g := gb401) (o := .cells #[.slice Ao14 t397.length co14] 29 (0, 0)) Z48 hb); have n3_ := Aside0.mk (blk_below (g := gb406) (o := .cells #[.slice Ao18 t402.length co18] 29 (0, 0)) Z49 hb); have n4_ := Aside0.mk (below_step Z111 hb); clear HO_402000; clear HO_407000; clear BK401; clear BK406; clear HB; have HO_402000 := n0_; have HO_407000 := n1_; have BK401 := n2_; have BK406 := n3_; have HB := n4_; clear n0_ n1_ n2_ n3_ n4_; (try clear hb); have hnb67 := NB401_406.out; have hnc67 := NB406_401.out; have hcz68_0 : w66.cell? ⟨gb401, 0, none⟩ = some (.slice Ao14 t397.length co14) := (blk_cell BK401.out 0).trans rfl; have hfz68_0 := blk_frozen BK401.out 0) | ((with_reducible refine gate_callee (f := 19) rfl ?_); refine goesL_ (some 59) rfl rfl Tryd.func19 (by kernel_rfl) rfl #[.agg #[.slice Ao14 t397.length co14], .string t407] rfl Z56 ?_; (with_reducible refine (impl_BakLine.calls kj10 _ _ t397 t407 t415 _ ?side1 ?side2 A47.out ?sideL_).mono ?_); (case sideL_ => exact (Ends.LErr.below HL_.out Z111)); (case side1 => exact Z94); (case side2 => exact (Kd.R_reads' HO_402000.out).2.1); rintro e w69 ⟨rfl, hb⟩; refine ⟨_, rfl, ?_⟩; have n0_ := Aside0.mk (Kd.R_below Z14 hb); have n1_ := Aside0.mk (Kd.R_below Z15 hb); have n2_ := Aside0.mk (blk_below (g := gb401) (o := .cells #[.slice Ao14 t397.length co14] 29 (0, 0)) Z48 hb); have n3_ := Aside0.mk (blk_below (g := gb406) (o := .cells #[.slice Ao18 t402.length co18] 29 (0, 0)) Z49 hb); have n4_ := Aside0.mk (below_step Z111 hb); clear HO_402000; clear HO_407000; clear BK401; clear BK406; clear HB; have HO_402000 := n0_; have HO_407000 := n1_; have BK401 := n2_; have BK406 := n3_; have HB := n4_; clear n0_ n1_ n2_ n3_ n4_; (try clear hb); have hcz70_0 : w69.cell? ⟨gb406, 0, none⟩ = some (.slice Ao18 t402.length co18) := (blk_cell BK406.out 0).trans rfl; have hfz70_0 := blk_frozen BK406.out 0) | (go_at_call 19; (with_reducible refine (impl_BakLine.calls kj10 _ _ t402 t400 t417 _ ?side1 ?side2 A56.out ?sideL_).mono ?_); (case sideL_ => exact (Ends.LErr.below HL_.out Z111)); (case side1 => exact Z95); (case side2 => exact (Kd.R_reads' HO_407000.out).2.1); rintro e w71 ⟨rfl, hb⟩; have n0_ := Aside0.mk (Kd.R_below Z14 hb); have n1_ := Aside0.mk (Kd.R_below Z15 hb); have n2_ := Aside0.mk (blk_below (g := gb401) (o := .cells #[.slice Ao14 t397.length co14] 29 (0, 0)) Z48 hb); have n3_ := Aside0.mk (blk_below (g := gb406) (o := .cells #[.slice Ao18 t402.length co18] 29 (0, 0)) Z49 hb); have n4_ := Aside0.mk (below_step Z111 hb); clear HO_402000; clear HO_407000; clear BK401; clear BK406; clear HB; have HO_402000 := n0_; have HO_407000 := n1_; have BK401 := n2_; have BK406 := n3_; have HB := n4_; clear n0_ n1_ n2_ n3_ n4_; (try clear hb)))
           go_ret
           exact ⟨by first | rfl | (simp [errW_none, errW_some] <;> rfl) | (simp [*, errW_none, errW_some] <;> rfl), by repeat (first | (with_reducible first | exact HB.out | apply below_alloc | apply pw_below_drewN | apply below_drew1 | refine below_set ?_ GE401.out | refine below_set ?_ GE406.out) | exact HB.out)⟩
        ·rw [if_neg c48] at H
         have c48b0 : (t415.toList == t407.toList) = false := beq_eq_false_iff_ne.mpr c48
         have c48b1 : (t415.toList != t407.toList) = true := bne_iff_ne.mpr c48
         obtain rfl := Option.some.inj H
         go_wp2_with (first | ((with_reducible refine gate_callee (f := 25) rfl ?_); refine goesL_ (some 54) rfl rfl Tryd.func25 (by kernel_rfl) rfl #[.string t400] rfl Z56 ?_; (with_reducible refine (impl_LinBox.calls kj10 t400 t413 t414 _ A46.out ?sideL_).mono ?_); (case sideL_ => exact (Ends.LErr.below HL_.out Z111)); rintro e w72 ⟨rfl, hb⟩; refine ⟨_, rfl, ?_⟩; have n0_ := Aside0.mk (Kd.R_below Z14 hb); have n1_ := Aside0.mk (Kd.R_below Z15 hb); have n2_ := Aside0.mk (blk_below (g := gb401) (o := .cells #[.slice Ao14 t397.length co14] 29 (0, 0)) Z48 hb); have n3_ := Aside0.mk (blk_below (g := gb406) (o := .cells #[.slice Ao18 t402.length co18] 29 (0, 0)) Z49 hb); have n4_ := Aside0.mk (below_step Z111 hb); clear HO_402000; clear HO_407000; clear BK401; clear BK406; clear HB; have HO_402000 := n0_; have HO_407000 := n1_; have BK401 := n2_; have BK406 := n3_; have HB := n4_; clear n0_ n1_ n2_ n3_ n4_; (try clear hb); have hnb73 := NB401_406.out; have hnc73 := NB406_401.out; have hcz74_0 : w72.cell? ⟨gb401, 0, none⟩ = some (.slice Ao14 t397.length co14) := (blk_cell BK401.out 0).trans rfl; have hfz74_0 := blk_frozen BK401.out 0) | ((with_reducible refine gate_callee (f := 19) rfl ?_); refine goesL_ (some 59) rfl rfl Tryd.func19 (by kernel_rfl) rfl #[.agg #[.slice Ao14 t397.length co14], .string t407] rfl Z56 ?_; (with_reducible refine (impl_BakLine.calls kj10 _ _ t397 t407 t415 _ ?side1 ?side2 A47.out ?sideL_).mono ?_); (case sideL_ => exact (Ends.LErr.below HL_.out Z111)); (case side1 => exact Z94); (case side2 => exact (Kd.R_reads' HO_402000.out).2.1); rintro e w75 ⟨rfl, hb⟩; refine ⟨_, rfl, ?_⟩; have n0_ := Aside0.mk (Kd.R_below Z14 hb); have n1_ := Aside0.mk (Kd.R_below Z15 hb); have n2_ := Aside0.mk (blk_below (g := gb401) (o := .cells #[.slice Ao14 t397.length co14] 29 (0, 0)) Z48 hb); have n3_ := Aside0.mk (blk_below (g := gb406) (o := .cells #[.slice Ao18 t402.length co18] 29 (0, 0)) Z49 hb); have n4_ := Aside0.mk (below_step Z111 hb); clear HO_402000; clear HO_407000; clear BK401; clear BK406; clear HB; have HO_402000 := n0_; have HO_407000 := n1_; have BK401 := n2_; have BK406 := n3_; have HB := n4_; clear n0_ n1_ n2_ n3_ n4_; (try clear hb)))
         go_ret
         exact ⟨by first | rfl | (simp [errW_none, errW_some] <;> rfl) | (simp [*, errW_none, errW_some] <;> rfl), by repeat (first | (with_reducible first | exact HB.out | apply below_alloc | apply pw_below_drewN | apply below_drew1 | refine below_set ?_ GE401.out | refine below_set ?_ GE406.out) | exact HB.out)⟩
    ·rw [if_neg c10] at H
     have c10b0 : (t407.toList == t408.toList) = false := beq_eq_false_iff_ne.mpr c10
     have c10b1 : (t407.toList != t408.toList) = true := bne_iff_ne.mpr c10
     obtain rfl := Option.some.inj H
     go_wp2_with (first | ((with_reducible refine gate_callee (f := 21) rfl ?_); refine goesL_ (some 22) rfl rfl Tryd.func21 (by kernel_rfl) rfl #[.slice A0 l0.length c0] rfl Z56 ?_; (with_reducible refine (spec_DrawBakLine.calls kj2 _ _ l0 t397 t400 _ ?side1 ?side2 A6.out).mono ?_); (case side1 => exact Z82); (case side2 => exact HC0.out); rintro e w76 ⟨v398, rfl, ho0, hb⟩; refine ⟨_, rfl, ?_⟩; have n0_ := Aside0.mk (Kd.R_lower ho0 (below_size Z52)); have n1_ := Aside0.mk (below_step Z52 hb); clear HB; have HO399 := n0_; have HB := n1_; clear n0_ n1_; (try clear hb); (try clear ho0)) | ((with_reducible refine gate_dst (N := 5) rfl ?_); (try (refine gate_guard (by rfl) ?_; dsimp only)); refine box_event ?hg (N := 5) ?hd (cs := #[.slice none 0 0]) (t := 29) ?hr ?_; (case hd => rfl); (case hg => rfl); (case hr => first | (go_simp; done) | (go_simp; rfl)); intro gb401 hg w77 hbox hb; have n0_ := Aside0.mk (Kd.R_below Z11 hb); have n1_ := Aside0.mk (below_step Z52 hb); have n2_ := Aside0.mk (hbox); have n3_ := Aside0.mk ((Z161 : w.heap.size ≤ gb401)); have n4_ := Aside0.mk ((Z161 : w.heap.size ≤ gb401)); clear HO399; clear HB; have HO399 := n0_; have HB := n1_; have BK401 := n2_; have GW401 := n3_; have GE401 := n4_; clear n0_ n1_ n2_ n3_ n4_; clear hb hbox hg; obtain ⟨Ao78, co78, eo78⟩ := Kd.R_slice HO399.out; subst eo78; have hcz79_0 : w77.cell? ⟨gb401, 0, none⟩ = some (.slice none 0 0) := (blk_cell BK401.out 0).trans rfl; have hfz79_0 := blk_frozen BK401.out 0) | ((with_reducible refine gate_callee (f := 21) rfl ?_); refine goesL_ (some 27) rfl rfl Tryd.func21 (by kernel_rfl) rfl #[.slice A1 l1.length c1] rfl Z56 ?_; (with_reducible refine (spec_DrawBakLine.calls kj2 _ _ l1 t402 t405 _ ?side1 ?side2 A7.out).mono ?_); (case side1 => exact Kd.C_below HR1.out Z78); (case side2 => exact HC1.out); rintro e w80 ⟨v403, rfl, ho0, hb⟩; refine ⟨_, rfl, ?_⟩; have n0_ := Aside0.mk (Kd.R_elder' Z137 (Kd.R_base ho0) hb); have n1_ := Aside0.mk (Kd.R_lower (Kd.R_new' ho0 (Kd.R_lt Z137)) (below_size Z78)); have n2_ := Aside0.mk (blk_below (g := gb401) (o := .cells #[.slice Ao78 t397.length co78] 29 (0, 0)) Z149 hb); have n3_ := Aside0.mk (below_step Z78 hb); clear HO399; clear BK401; clear HB; have HO399 := n0_; have HO404 := n1_; have BK401 := n2_; have HB := n3_; clear n0_ n1_ n2_ n3_; (try clear hb); (try clear ho0)) | ((with_reducible refine gate_dst (N := 7) rfl ?_); (try (refine gate_guard (by rfl) ?_; dsimp only)); refine box_event ?hg (N := 7) ?hd (cs := #[.slice none 0 0]) (t := 29) ?hr ?_; (case hd => rfl); (case hg => rfl); (case hr => first | (go_simp; done) | (go_simp; rfl)); intro gb406 hg w81 hbox hb; have n0_ := Aside0.mk (Kd.R_below Z11 hb); have n1_ := Aside0.mk (Kd.R_below Z12 hb); have n2_ := Aside0.mk (blk_below (g := gb401) (o := .cells #[.slice Ao78 t397.length co78] 29 (0, 0)) Z48 hb); have n3_ := Aside0.mk (below_step Z78 hb); have n4_ := Aside0.mk (hbox); have n5_ := Aside0.mk ((by rw [hg]; exact (below_size Z78) : w.heap.size ≤ gb406)); have n6_ := Aside0.mk ((by rw [hg]; exact (below_size Z78) : w.heap.size ≤ gb406)); have n7_ := Aside0.mk ((by rw [hg]; exact Nat.ne_of_lt (blk_lt (g := gb401) (o := .cells #[.slice Ao78 t397.length co78] 29 (0, 0)) Z48) : gb401 ≠ gb406)); have n8_ := Aside0.mk ((by rw [hg]; exact Nat.ne_of_gt (blk_lt (g := gb401) (o := .cells #[.slice Ao78 t397.length co78] 29 (0, 0)) Z48) : gb406 ≠ gb401)); clear HO399; clear HO404; clear BK401; clear HB; have HO399 := n0_; have HO404 := n1_; have BK401 := n2_; have HB := n3_; have BK406 := n4_; have GW406 := n5_; have GE406 := n6_; have NB401_406 := n7_; have NB406_401 := n8_; clear n0_ n1_ n2_ n3_ n4_ n5_ n6_ n7_ n8_; clear hb hbox hg; obtain ⟨Ao82, co82, eo82⟩ := Kd.R_slice HO404.out; subst eo82; have hnb83 := NB406_401.out; have hnc83 := NB401_406.out; have hcz84_0 : w81.cell? ⟨gb406, 0, none⟩ = some (.slice none 0 0) := (blk_cell BK406.out 0).trans rfl; have hfz84_0 := blk_frozen BK406.out 0; have hcz85_0 : w81.cell? ⟨gb401, 0, none⟩ = some (.slice Ao78 t397.length co78) := (blk_cell BK401.out 0).trans rfl; have hfz85_0 := blk_frozen BK401.out 0) | ((with_reducible refine gate_callee (f := 19) rfl ?_); refine goesL_ (some 32) rfl rfl Tryd.func19 (by kernel_rfl) rfl #[.agg #[.slice Ao78 t397.length co78], .string t400] rfl Z56 ?_; (with_reducible refine (impl_BakLine.calls kj2 _ _ t397 t400 t407 _ ?side1 ?side2 A8.out ?sideL_).mono ?_); (case sideL_ => exact (Ends.LErr.below HL_.out Z111)); (case side1 => refine (Kd.R_reads' (e := 43) (base := w.heap.size) (ok := fun k_ => (True ∧ some k_ ≠ (.slice Ao82 t402.length co82 : Value).ownBlock)) (n := t397.length) (c := co78) ?_).2.2; exact Z138); (case side2 => exact (Kd.R_reads' HO399.out).2.1); rintro e w86 ⟨rfl, hb⟩; refine ⟨_, rfl, ?_⟩; have n0_ := Aside0.mk (Kd.R_below Z138 hb); have n1_ := Aside0.mk (Kd.R_below (by (with_reducible repeat (first | apply Kd.R_alloc | apply Kd.R_drewN | apply Kd.R_drew)); exact (Kd.R_mono (Kd.R_far (p := ⟨gb406, 0, none⟩) (Kd.R_types HO404.out BK406.out (by decide)) (fun _ hk => hk.2) (.slice Ao82 t402.length co82)) (fun _ h_ => h_.1))) hb); have n2_ := Aside0.mk (blk_below (g := gb401) (o := .cells #[.slice Ao78 t397.length co78] 29 (0, 0)) Z134 hb); have n3_ := Aside0.mk (blk_below (g := gb406) (o := .cells #[.slice Ao82 t402.length co82] 29 (0, 0)) Z150 hb); have n4_ := Aside0.mk (below_step Z111 hb); clear HO399; clear HO404; clear BK401; clear BK406; clear HB; have HO399 := n0_; have HO404 := n1_; have BK401 := n2_; have BK406 := n3_; have HB := n4_; clear n0_ n1_ n2_ n3_ n4_; (try clear hb); have hcz87_0 : w86.cell? ⟨gb401, 0, none⟩ = some (.slice Ao78 t397.length co78) := (blk_cell BK401.out 0).trans rfl; have hfz87_0 := blk_frozen BK401.out 0) | ((with_reducible refine gate_callee (f := 17) rfl ?_); refine goesL_ (some 36) rfl rfl Tryd.func17 (by kernel_rfl) rfl #[.agg #[.slice Ao78 t397.length co78], .string t400] rfl Z56 ?_; (with_reducible refine (spec_BakLine.calls kj2 _ _ t397 t400 t408 _ ?side1 ?side2 A9.out).mono ?_); (case side1 => exact Z85); (case side2 => exact (Kd.R_reads' HO399.out).2.1); rintro e w88 ⟨rfl, hb⟩; refine ⟨_, rfl, ?_⟩; have n0_ := Aside0.mk (Kd.R_below Z11 hb); have n1_ := Aside0.mk (Kd.R_below Z12 hb); have n2_ := Aside0.mk (blk_below (g := gb401) (o := .cells #[.slice Ao78 t397.length co78] 29 (0, 0)) Z48 hb); have n3_ := Aside0.mk (blk_below (g := gb406) (o := .cells #[.slice Ao82 t402.length co82] 29 (0, 0)) Z49 hb); have n4_ := Aside0.mk (below_step Z111 hb); clear HO399; clear HO404; clear BK401; clear BK406; clear HB; have HO399 := n0_; have HO404 := n1_; have BK401 := n2_; have BK406 := n3_; have HB := n4_; clear n0_ n1_ n2_ n3_ n4_; (try clear hb)))
     go_ret
     exact ⟨by first | rfl | (simp [errW_none, errW_some] <;> rfl) | (simp [*, errW_none, errW_some] <;> rfl), by repeat (first | (with_reducible first | exact HB.out | apply below_alloc | apply pw_below_drewN | apply below_drew1 | refine below_set ?_ GE401.out | refine below_set ?_ GE406.out) | exact HB.out)⟩

end Go.Proofs.YtlofgoahgnllkaaDoor.QFnBakAgain
