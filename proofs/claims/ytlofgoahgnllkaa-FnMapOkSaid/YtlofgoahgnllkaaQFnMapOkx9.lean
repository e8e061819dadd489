-- Laid by a program of this repo (wip/tools/sprint.py): print.py's functions and walks; the contracts named 'BY HAND' are proved by hand.
import Derived.Test.YtlofgoahgnllkaaQFnMapOkx7
import Derived.Test.YtlofgoahgnllkaaQFnMapOkx6
import Derived.Test.YtlofgoahgnllkaaQFnMapOkx4
import Derived.Test.YtlofgoahgnllkaaQFnMapOkx3
import Derived.Test.YtlofgoahgnllkaaQFnMapOkx2
import Derived.Test.YtlofgoahgnllkaaQFnMapOkx1
import Derived.Test.YtlofgoahgnllkaaQFnMapOkx0
import Derived.Test.YtlofgoahgnllkaaQFnMapOkx5
import Derived.Test.YtlofgoahgnllkaaQFnMapOkx8
namespace Go.Proofs.Ytlofgoahgnllkaa.QFnMapOk
open Go.RowKit Go.Proofs.YtlofgoahgnllkaaW.PrintWords Go.Proofs.YtlofgoahgnllkaaW.PrintLast Go.Proofs.YtlofgoahgnllkaaW.PrintMore
attribute [local go_sem] max2_int min2_int max_two min_two max_three min_three max_four min_four   -- for this text's walks alone
set_option linter.unusedVariables false
set_option linter.unusedSimpArgs false

/-! ### spec_l20Open: function 33 -/
def spec_l20Open.f (l0 : List Int) : Option (List Int × Int) := if (l0.length : Int) > 2000 then (if 2000 ≤ (l0.length : Int) then (some (l0.take 2000, 0)) else (none)) else (some (l0, 0))
set_option maxHeartbeats 8000000 in
set_option maxRecDepth 100000 in
theorem spec_l20Open.calls (A0 : Option Addr) (c0 : Nat) (l0 : List Int) (r1 : List Int) (r2 : Int) (w0 w : World) (hB : Below w0.heap.size w0 w) (hr0 : Kd.C (Kd.int .u8) w0 A0 l0.length l0) (hc0 : l0.length ≤ c0) (h : spec_l20Open.f l0 = some (r1, r2)) :
    Calls Try.prog 33 #[.slice A0 l0.length c0] w fun e w' => ∃ g_ : Nat, e = .returned (.pointer (some ⟨g_, 0, none⟩)) ∧ IsS76 w0 w' g_ r1 r2 ∧ Below w0.heap.size w0 w' ∧ Below w.heap.size w w' := by
  have hu76 := Try.underlying76
  have HR0 := Aside0.mk hr0
  have HC0 := Aside0.mk hc0
  clear hr0 hc0
  have HBW := Aside0.mk (Below.refl w.heap.size w)
  have HW0 := Aside0.mk hB.size
  have HB := Aside0.mk hB
  clear hB
  have H : (if (l0.length : Int) > 2000 then (if 2000 ≤ (l0.length : Int) then (some (l0.take 2000, 0)) else (none)) else (some (l0, 0))) = some (r1, r2) := h
  clear h
  by_cases c2 : (l0.length : Int) > 2000
  · rw [if_pos c2] at H
    have c2b0 : decide (2000 < (l0.length : Int)) = true := decide_eq_true c2
    have c2b1 : decide (2000 < l0.length) = true := decide_eq_true (by omega)
    clear c2
    by_cases c3 : 2000 ≤ (l0.length : Int)
    · rw [if_pos c3] at H
      have c3b0 := eq_true c3
      have c3b1 : decide (2000 ≤ (l0.length : Int)) = true := decide_eq_true c3
      clear c3
      simp only [Option.some.injEq, Prod.mk.injEq] at H
      obtain ⟨rfl, rfl⟩ := H
      obtain ⟨i04, hi04, _, hsz4, _⟩ := info_parts info5
      obtain ⟨hcut4, hA4, hC4⟩ := print_take_of (P := Try.prog) (Value.int .u8) 0 43 5 .i64 Try.underlying43 hi04 hsz4 A0 c0 l0 2000 (by omega) (of_decide_eq_true (by first | (with_reducible assumption) | assumption)) HC0.out
      have HR234 := Aside0.mk (Kd.C_of_reads (h1 := fun _ => rfl) (hA4 _ (Kd.reads_of_C HR0.out)))
      have HC234 := Aside0.mk hC4
      clear hA4 hC4 hi04 hsz4
      go_enter Try.func33, Try.ntmps33
      go_wp2_with (first | ((with_reducible refine gate_dst (N := 10) rfl ?_); refine box_event ?hg (N := 10) ?hd (cs := #[.slice A0 (l0.take 2000).length c0, .int .i64 0]) (t := 76) ?hr ?_; (case hd => rfl); (case hg => rfl); (case hr => first | (go_simp; done) | (go_simp; rfl)); intro gb235 hg w5 hbox hb; have n0_ := Aside0.mk (below_step HBW.out hb); have n1_ := Aside0.mk (below_step (by repeat (first | (with_reducible first | exact HB.out | apply below_alloc | apply pw_below_drewN | apply below_drew1) | exact HB.out)) hb); have n2_ := Aside0.mk (hbox); have n3_ := Aside0.mk ((by rw [hg]; exact (below_size (by repeat (first | (with_reducible first | exact HBW.out | apply below_alloc | apply pw_below_drewN | apply below_drew1) | exact HBW.out))) : w.heap.size ≤ gb235)); have n4_ := Aside0.mk ((Nat.le_trans HW0.out (by rw [hg]; exact (below_size (by repeat (first | (with_reducible first | exact HBW.out | apply below_alloc | apply pw_below_drewN | apply below_drew1) | exact HBW.out))) : w.heap.size ≤ gb235) : w0.heap.size ≤ gb235)); clear HBW; clear HB; have HBW := n0_; have HB := n1_; have BK235 := n2_; have GW235 := n3_; have GE235 := n4_; clear n0_ n1_ n2_ n3_ n4_; clear hb hbox hg))
      go_ret
      exact ⟨_, rfl, (show IsS76 w0 _ gb235 (l0.take 2000) 0 from ⟨_, _, by (with_reducible repeat (first | refine blk_drewN ?_ _ | refine blk_drew ?_ | refine blk_alloc ?_ _)); exact BK235.out, GE235.out, HR234.out⟩), by repeat (first | (with_reducible first | exact HB.out | apply below_alloc | apply pw_below_drewN | apply below_drew1 | refine below_set ?_ GE235.out) | exact HB.out), by repeat (first | (with_reducible first | exact HBW.out | apply below_alloc | apply pw_below_drewN | apply below_drew1 | refine below_set ?_ GW235.out) | exact HBW.out)⟩
    · rw [if_neg c3] at H
      exact absurd H (by simp)
  · rw [if_neg c2] at H
    have c2b0 : decide (2000 < (l0.length : Int)) = false := decide_eq_false c2
    have c2b1 : decide (2000 < l0.length) = false := decide_eq_false (by omega)
    clear c2
    simp only [Option.some.injEq, Prod.mk.injEq] at H
    obtain ⟨rfl, rfl⟩ := H
    go_enter Try.func33, Try.ntmps33
    go_wp2_with (first | ((with_reducible refine gate_dst (N := 10) rfl ?_); refine box_event ?hg (N := 10) ?hd (cs := #[.slice A0 l0.length c0, .int .i64 0]) (t := 76) ?hr ?_; (case hd => rfl); (case hg => rfl); (case hr => first | (go_simp; done) | (go_simp; rfl)); intro gb236 hg w6 hbox hb; have n0_ := Aside0.mk (below_step HBW.out hb); have n1_ := Aside0.mk (below_step (by repeat (first | (with_reducible first | exact HB.out | apply below_alloc | apply pw_below_drewN | apply below_drew1) | exact HB.out)) hb); have n2_ := Aside0.mk (hbox); have n3_ := Aside0.mk ((by rw [hg]; exact (below_size (by repeat (first | (with_reducible first | exact HBW.out | apply below_alloc | apply pw_below_drewN | apply below_drew1) | exact HBW.out))) : w.heap.size ≤ gb236)); have n4_ := Aside0.mk ((Nat.le_trans HW0.out (by rw [hg]; exact (below_size (by repeat (first | (with_reducible first | exact HBW.out | apply below_alloc | apply pw_below_drewN | apply below_drew1) | exact HBW.out))) : w.heap.size ≤ gb236) : w0.heap.size ≤ gb236)); clear HBW; clear HB; have HBW := n0_; have HB := n1_; have BK236 := n2_; have GW236 := n3_; have GE236 := n4_; clear n0_ n1_ n2_ n3_ n4_; clear hb hbox hg))
    go_ret
    exact ⟨_, rfl, (show IsS76 w0 _ gb236 l0 0 from ⟨_, _, by (with_reducible repeat (first | refine blk_drewN ?_ _ | refine blk_drew ?_ | refine blk_alloc ?_ _)); exact BK236.out, GE236.out, HR0.out⟩), by repeat (first | (with_reducible first | exact HB.out | apply below_alloc | apply pw_below_drewN | apply below_drew1 | refine below_set ?_ GE236.out) | exact HB.out), by repeat (first | (with_reducible first | exact HBW.out | apply below_alloc | apply pw_below_drewN | apply below_drew1 | refine below_set ?_ GW236.out) | exact HBW.out)⟩

/-! ### spec_DrawMapOk: function 19 -/
def spec_DrawMapOk.f (k : Nat) (l0 : List Int) : Option ((List (S27))) := (spec_l20Open.f l0).bind fun bt238 => ((spec_l20Table.f k bt238.1 bt238.2 2).bind fun bt241 => (some bt241.1))
theorem spec_DrawMapOk.mono : ∀ a0 k, LeO (spec_DrawMapOk.f k a0) (spec_DrawMapOk.f (k + 1) a0) := by
  intro a0 k
  unfold spec_DrawMapOk.f
  repeat' first
      | (with_reducible exact spec_l20Table.mono _ _ _ _)
      | (with_reducible exact LeO.refl _)
      | (with_reducible exact LeO.none _)
      | (with_reducible refine LeO.ite ?_ ?_)
      | (with_reducible refine LeO.bind ?_ (fun _ => ?_))
      | exact spec_l20Table.mono _ _ _ _
      | exact LeO.none _
      | refine LeO.ite ?_ ?_
      | refine LeO.bind ?_ (fun _ => ?_)
set_option maxHeartbeats 8000000 in
set_option maxRecDepth 100000 in
theorem spec_DrawMapOk.calls (k : Nat) (A0 : Option Addr) (c0 : Nat) (l0 : List Int) (r : List (S27)) (w : World) (hr0 : Kd.C (Kd.int .u8) w A0 l0.length l0) (hc0 : l0.length ≤ c0) (h : spec_DrawMapOk.f k l0 = some r) :
    Calls Try.prog 19 #[.slice A0 l0.length c0] w fun e w' => ∃ v0_ : Value, e = .returned (.agg #[v0_]) ∧ Kd.R k27 27 w' w.heap.size (fun _ => True) v0_ r ∧ Below w.heap.size w w' := by
  have hu32 := Try.underlying32
  have HR0 := Aside0.mk hr0
  have HC0 := Aside0.mk hc0
  clear hr0 hc0
  have HB := Aside0.mk (Below.refl w.heap.size w)
  have H : ((spec_l20Open.f l0).bind fun bt238 => ((spec_l20Table.f k bt238.1 bt238.2 2).bind fun bt241 => (some bt241.1))) = some r := h
  clear h
  replace H := Option.bind_eq_some_iff.mp H
  obtain ⟨⟨t238, t239⟩, A20, H⟩ := H
  replace H : ((spec_l20Table.f k t238 t239 2).bind fun bt241 => (some bt241.1)) = some r := H
  have A2 := Aside0.mk A20
  clear A20
  replace H := Option.bind_eq_some_iff.mp H
  obtain ⟨⟨t241, t244⟩, A30, H⟩ := H
  replace H : (some t241) = some r := H
  have A3 := Aside0.mk A30
  clear A30
  obtain rfl := Option.some.inj H
  go_enter Try.func19, Try.ntmps19
  go_wp2_with (first | ((with_reducible refine gate_dst (N := 2) rfl ?_); refine box_event ?hg (N := 2) ?hd (cs := #[.slice none 0 0]) (t := 32) ?hr ?_; (case hd => rfl); (case hg => rfl); (case hr => first | (go_simp; done) | (go_simp; rfl)); intro gb237 hg w4 hbox hb; have n0_ := Aside0.mk (below_step (by repeat (first | (with_reducible first | exact HB.out | apply below_alloc | apply pw_below_drewN | apply below_drew1) | exact HB.out)) hb); have n1_ := Aside0.mk (hbox); have n2_ := Aside0.mk ((by rw [hg]; exact (below_size (by repeat (first | (with_reducible first | exact HB.out | apply below_alloc | apply pw_below_drewN | apply below_drew1) | exact HB.out))) : w.heap.size ≤ gb237)); have n3_ := Aside0.mk ((by rw [hg]; exact (below_size (by repeat (first | (with_reducible first | exact HB.out | apply below_alloc | apply pw_below_drewN | apply below_drew1) | exact HB.out))) : w.heap.size ≤ gb237)); clear HB; have HB := n0_; have BK237 := n1_; have GW237 := n2_; have GE237 := n3_; clear n0_ n1_ n2_ n3_; clear hb hbox hg) | ((with_reducible refine gate_callee (f := 33) rfl ?_); refine goesL_ (some 4) rfl rfl Try.func33 (by kernel_rfl) rfl #[.slice A0 l0.length c0] rfl (by (try simp only [List.map_toArray, List.map_cons, List.map_nil]); first | done | rfl | (simp only [List.length_drop, List.length_take]; rfl)) ?_; (with_reducible refine (spec_l20Open.calls _ _ l0 t238 t239 w _ ?side1 ?side2 ?side3 A2.out).mono ?_); (case side1 => repeat (first | (with_reducible first | exact HB.out | apply below_alloc | apply pw_below_drewN | apply below_drew1 | refine below_set ?_ GE237.out) | exact HB.out)); (case side2 => exact HR0.out); (case side3 => exact HC0.out); rintro e w5 ⟨g240, rfl, hi, hb, hb2⟩; refine ⟨_, rfl, ?_⟩; have n0_ := Aside0.mk (blk_below (g := gb237) (o := .cells #[.slice none 0 0] 32 (0, 0)) (by (with_reducible repeat (first | refine blk_drewN ?_ _ | refine blk_drew ?_ | refine blk_alloc ?_ _)); exact BK237.out) hb2); have n1_ := Aside0.mk (hb); have n2_ := Aside0.mk (hi); have n3_ := Aside0.mk (IsS76.ne_blk hi (blk_below (g := gb237) (o := .cells #[.slice none 0 0] 32 (0, 0)) (by (with_reducible repeat (first | refine blk_drewN ?_ _ | refine blk_drew ?_ | refine blk_alloc ?_ _)); exact BK237.out) hb2) (by decide)); have n4_ := Aside0.mk (Ne.symm (IsS76.ne_blk hi (blk_below (g := gb237) (o := .cells #[.slice none 0 0] 32 (0, 0)) (by (with_reducible repeat (first | refine blk_drewN ?_ _ | refine blk_drew ?_ | refine blk_alloc ?_ _)); exact BK237.out) hb2) (by decide))); clear BK237; clear HB; have BK237 := n0_; have HB := n1_; have HI240 := n2_; have NB240_237 := n3_; have NB237_240 := n4_; clear n0_ n1_ n2_ n3_ n4_; (try clear hb); (try clear hb2); (try clear hk); (try clear hi)) | ((with_reducible refine gate_callee (f := 32) rfl ?_); refine goesL_ (some 5) rfl rfl Try.func32 (by kernel_rfl) rfl #[.pointer (some ⟨g240, 0, none⟩), .int .i64 2] rfl (by (try simp only [List.map_toArray, List.map_cons, List.map_nil]); first | done | rfl | (simp only [List.length_drop, List.length_take]; rfl)) ?_; (with_reducible refine (spec_l20Table.calls k g240 t238 t239 2 t241 t244 w _ ?side1 ?side2 A3.out).mono ?_); (case side1 => repeat (first | (with_reducible first | exact HI240.out | apply IsS76.alloc | apply IsS76.drewN | apply IsS76.drew | apply IsS76.set_1 | refine IsS76.far ?_ NB240_237.out _) | exact HI240.out)); (case side2 => repeat (first | (with_reducible first | exact HB.out | apply below_alloc | apply pw_below_drewN | apply below_drew1 | refine below_set ?_ (IsS76.ge HI240.out) | refine below_set ?_ GE237.out) | exact HB.out)); rintro e w6 ⟨v242, rfl, ho0, hi, hb, hk⟩; refine ⟨_, rfl, ?_⟩; have n0_ := Aside0.mk (KeepBut.blk hk (g' := gb237) (o := .cells #[.slice none 0 0] 32 (0, 0)) (by (with_reducible repeat (first | refine blk_drewN ?_ _ | refine blk_drew ?_ | refine blk_alloc ?_ _)); exact BK237.out) NB237_240.out (by simp)); have n1_ := Aside0.mk (Kd.R_lower ho0 (below_size (by repeat (first | (with_reducible first | exact HB.out | apply below_alloc | apply pw_below_drewN | apply below_drew1 | refine below_set ?_ (IsS76.ge HI240.out) | refine below_set ?_ GE237.out) | exact HB.out)))); have n2_ := Aside0.mk (hb); have n3_ := Aside0.mk (hi); clear BK237; clear HB; clear HI240; have BK237 := n0_; have HO243 := n1_; have HB := n2_; have HI240 := n3_; clear n0_ n1_ n2_ n3_; (try clear hb); (try clear hb2); (try clear hk); (try clear hi); (try clear ho0); obtain ⟨Ao7, co7, eo7⟩ := Kd.R_slice HO243.out; subst eo7; have hnb8 := NB237_240.out; have hnc8 := NB240_237.out; have hcz9_0 : w6.cell? ⟨gb237, 0, none⟩ = some (.slice none 0 0) := (blk_cell BK237.out 0).trans rfl; have hfz9_0 := blk_frozen BK237.out 0))
  refine bodyPost_ret (results_cell_row rfl _ _ gb237 32 #[.slice Ao7 t241.length co7] (0, 0) _ rfl (by (with_reducible repeat (first | refine blk_drewN ?_ _ | refine blk_drew ?_ | refine blk_alloc ?_ _)); refine blk_put (cs := #[.slice none 0 0]) ?_ 0 _ rfl; (with_reducible repeat (first | refine blk_drewN ?_ _ | refine blk_drew ?_ | refine blk_alloc ?_ _)); exact BK237.out) Try.underlying32 rfl (by kernel_rfl)) rfl ?_
  exact ⟨_, by first | rfl | (simp [errW_none, errW_some] <;> rfl) | (simp [*, errW_none, errW_some] <;> rfl), by (with_reducible repeat (first | apply Kd.R_alloc | apply Kd.R_drewN | apply Kd.R_drew)); exact Kd.R_mono (Kd.R_far (p := ⟨gb237, 0, none⟩) (Kd.R_types HO243.out BK237.out (by decide)) (fun _ hk => hk.2) (.slice Ao7 t241.length co7)) (fun _ hk => trivial), by repeat (first | (with_reducible first | exact HB.out | apply below_alloc | apply pw_below_drewN | apply below_drew1 | refine below_set ?_ (IsS76.ge HI240.out) | refine below_set ?_ GE237.out) | exact HB.out)⟩

/-! ### impl_lineByte: function 45 -/
def impl_lineByte.f (a0 : Int) : Option (Bool) := if a0 ≥ 97 then (if a0 ≤ 122 then (some true) else (if a0 ≥ 48 then (if a0 ≤ 57 then (some true) else (some (a0 == 32))) else (some (a0 == 32)))) else (if a0 ≥ 48 then (if a0 ≤ 57 then (some true) else (some (a0 == 32))) else (some (a0 == 32)))
set_option maxHeartbeats 8000000 in
set_option maxRecDepth 100000 in
theorem impl_lineByte.calls (a0 : Int) (r : Bool) (w : World) (h : impl_lineByte.f a0 = some r) :
    Calls Try.prog 45 #[.int .u8 a0] w fun e w' => e = .returned (.bool r) ∧ Drawn0 w w' := by
  have H : (if a0 ≥ 97 then (if a0 ≤ 122 then (some true) else (if a0 ≥ 48 then (if a0 ≤ 57 then (some true) else (some (a0 == 32))) else (some (a0 == 32)))) else (if a0 ≥ 48 then (if a0 ≤ 57 then (some true) else (some (a0 == 32))) else (some (a0 == 32)))) = some r := h
  clear h
  by_cases c2 : a0 ≥ 97
  · rw [if_pos c2] at H
    have c2b0 : decide (97 ≤ a0) = true := decide_eq_true c2
    clear c2
    by_cases c3 : a0 ≤ 122
    · rw [if_pos c3] at H
      have c3b0 : decide (a0 ≤ 122) = true := decide_eq_true c3
      clear c3
      obtain rfl := Option.some.inj H
      go_enter Try.func45, Try.ntmps45
      go_wp2
      go_ret
      exact ⟨by first | rfl | (simp; done) | (simp [*]; done), by repeat (first | exact Drawn0.refl _ | apply Drawn0.step)⟩
    · rw [if_neg c3] at H
      have c3b0 : decide (a0 ≤ 122) = false := decide_eq_false c3
      clear c3
      by_cases c4 : a0 ≥ 48
      · rw [if_pos c4] at H
        have c4b0 : decide (48 ≤ a0) = true := decide_eq_true c4
        clear c4
        by_cases c5 : a0 ≤ 57
        · rw [if_pos c5] at H
          have c5b0 : decide (a0 ≤ 57) = true := decide_eq_true c5
          clear c5
          obtain rfl := Option.some.inj H
          go_enter Try.func45, Try.ntmps45
          go_wp2
          go_ret
          exact ⟨by first | rfl | (simp; done) | (simp [*]; done), by repeat (first | exact Drawn0.refl _ | apply Drawn0.step)⟩
        · rw [if_neg c5] at H
          have c5b0 : decide (a0 ≤ 57) = false := decide_eq_false c5
          clear c5
          obtain rfl := Option.some.inj H
          go_enter Try.func45, Try.ntmps45
          go_wp2
          go_ret
          exact ⟨by first | rfl | (simp; done) | (simp [*]; done), by repeat (first | exact Drawn0.refl _ | apply Drawn0.step)⟩
      · rw [if_neg c4] at H
        have c4b0 : decide (48 ≤ a0) = false := decide_eq_false c4
        clear c4
        obtain rfl := Option.some.inj H
        go_enter Try.func45, Try.ntmps45
        go_wp2
        go_ret
        exact ⟨by first | rfl | (simp; done) | (simp [*]; done), by repeat (first | exact Drawn0.refl _ | apply Drawn0.step)⟩
  · rw [if_neg c2] at H
    have c2b0 : decide (97 ≤ a0) = false := decide_eq_false c2
    clear c2
    by_cases c6 : a0 ≥ 48
    · rw [if_pos c6] at H
      have c6b0 : decide (48 ≤ a0) = true := decide_eq_true c6
      clear c6
      by_cases c7 : a0 ≤ 57
      · rw [if_pos c7] at H
        have c7b0 : decide (a0 ≤ 57) = true := decide_eq_true c7
        clear c7
        obtain rfl := Option.some.inj H
        go_enter Try.func45, Try.ntmps45
        go_wp2
        go_ret
        exact ⟨by first | rfl | (simp; done) | (simp [*]; done), by repeat (first | exact Drawn0.refl _ | apply Drawn0.step)⟩
      · rw [if_neg c7] at H
        have c7b0 : decide (a0 ≤ 57) = false := decide_eq_false c7
        clear c7
        obtain rfl := Option.some.inj H
        go_enter Try.func45, Try.ntmps45
        go_wp2
        go_ret
        exact ⟨by first | rfl | (simp; done) | (simp [*]; done), by repeat (first | exact Drawn0.refl _ | apply Drawn0.step)⟩
    · rw [if_neg c6] at H
      have c6b0 : decide (48 ≤ a0) = false := decide_eq_false c6
      clear c6
      obtain rfl := Option.some.inj H
      go_enter Try.func45, Try.ntmps45
      go_wp2
      go_ret
      exact ⟨by first | rfl | (simp; done) | (simp [*]; done), by repeat (first | exact Drawn0.refl _ | apply Drawn0.step)⟩

/-! ### impl_LinOk: function 34 -/
def impl_LinOk.f (a0 : ByteArray) : Option (Bool) := if 0 ≤ (a0.size : Int) then (if ((a0.size : Int) : Int).toNat ≤ 281474976710656 then (if 1 ≤ 281474976710656 then ((some (List.replicate 1 0 : List Int)).bind fun y248 => (if 0 ≤ (wrap64 ((a0.size : Int) - 1)) then (if (wrap64 ((a0.size : Int) - 1)) < (y248.length : Int) then (if 0 < (a0.size : Int) then (if 0 ≤ (wrap64 ((wrap64 (bt a0 0)) - 97)) then (if (wrap64 ((wrap64 (bt a0 0)) - 97)) < (y248.length : Int) then (some true) else (none)) else (none)) else (none)) else (none)) else (none))) else (none)) else (none)) else (none)
-- BY HAND
/-- What may stand in a line. -/
def lineB (c : Int) : Bool := decide ((97 ≤ c ∧ c ≤ 122) ∨ (48 ≤ c ∧ c ≤ 57) ∨ c = 32)
theorem lb_eq (c : Int) : impl_lineByte.f c = some (lineB c) := by
  unfold impl_lineByte.f lineB
  by_cases h1 : c ≥ 97 <;> by_cases h2 : c ≤ 122 <;> by_cases h3 : c ≥ 48 <;> by_cases h4 : c ≤ 57 <;> simp only [h1, h2, h3, h4, if_true, if_false, Option.some.injEq] <;> (rw [Bool.eq_iff_iff]; simp; try omega)
theorem bt_data (s : ByteArray) (j : Nat) (h : j < s.size) : ((s.data.toList.getD j 0).toNat : Int) = bt s (j : Int) := by
  unfold bt
  rw [dif_pos (by simpa using h)]
  simp [List.getD_eq_getElem?_getD, List.getElem?_eq_getElem (show j < s.data.toList.length by simpa using h)]
  rfl
theorem lin_below (w : World) (e : TypeId) (s : ByteArray) : Below w.heap.size w (Lib.bytesWorld w e s) :=
  ⟨rfl, rfl, rfl, by rw [Lib.bytesWorld_size]; omega, fun j hj => Lib.bytesWorld_at_old w e s j hj⟩
theorem cell_blk {w : World} {g : Nat} {cs : Array Value} {t : TypeId} {fr : Nat × Nat} (h : w.heap[g]? = some (.cells cs t fr)) (i : Nat) : w.cell? ⟨g, i, none⟩ = cs[i]? := by simp [World.cell?, h]
/-- Whether a text is a line. -/
def linOkB (s : ByteArray) : Bool := decide (s.size ≤ 16 ∧ ∀ j, j < s.size → lineB (bt s (j : Int)) = true)
set_option maxHeartbeats 1000000 in
set_option maxRecDepth 100000 in
theorem lin_walk (s : ByteArray) (w : World) (hs : s.size ≤ 281474976710656) :
    Calls Try.prog 34 #[.string s] w fun e w' => e = .returned (.bool (linOkB s)) ∧ Below w.heap.size w w' := by
  have hcv := fun W => Lib.run_convert_string_bytes (P := Try.prog) W 9 43 5 s Try.underlying9 Try.underlying43 Try.underlying5
  have hcell : ∀ j : Nat, j < s.size → (Lib.bytesWorld w 5 s).cell? ⟨w.heap.size, j, none⟩ = some (.int .u8 (bt s (j : Int))) := fun j hj => by
    rw [Lib.bytesWorld_cell w 5 s j hj, bt_data s j hj]
  have hsz := Lib.bytesWorld_size w 5 s
  have HZ := Aside0.mk hsz
  clear hsz
  have HC := Aside0.mk hcell
  clear hcell
  go_enter Try.func34, Try.ntmps34
  go_wp2
  go_loopw [8] (fun v wr => ∃ i : Nat, i ≤ s.size ∧ v = .int .i64 (i : Int) ∧ Aside0 (∀ j, j < i → lineB (bt s (j : Int)) = true) ∧ Aside0 (∃ n, wr = (Lib.bytesWorld w 5 s).drewN n)) (fun v _ => s.size - (intOf v).toNat)
  case atStart => exact ⟨0, Nat.zero_le _, rfl, ⟨fun j hj => by omega⟩, ⟨⟨0, rfl⟩⟩⟩
  case round =>
    obtain ⟨i, hi, rfl, HJ, HW⟩ := hrel
    obtain ⟨nd0, rfl⟩ := HW.out
    clear HW
    by_cases hlt : i < s.size
    · have hx : ((Lib.bytesWorld w 5 s).drewN nd0).cell? ⟨w.heap.size, i, none⟩ = some (.int .u8 (bt s (i : Int))) := HC.out i hlt
      by_cases hb : lineB (bt s (i : Int)) = true
      · have HB := Aside0.mk hb
        clear hb
        have A6 : Aside0 (impl_lineByte.f (bt s (i : Int)) = some true) := ⟨by rw [lb_eq, HB.out]⟩
        go_wp2_with (go_at_call 45; refine (impl_lineByte.calls (bt s (i : Int)) true _ A6.out).mono ?_; rintro e w' ⟨rfl, ⟨nd, rfl⟩⟩)
        go_roundw
        case rel => exact ⟨i + 1, by omega, by go_num, ⟨fun j hj => by by_cases e : j = i; (subst e; exact HB.out); exact HJ.out j (by omega)⟩, ⟨⟨_, rfl⟩⟩⟩
        case measure => simp [intOf]; omega
      · have HB := Aside0.mk hb
        clear hb
        have A6 : Aside0 (impl_lineByte.f (bt s (i : Int)) = some false) := ⟨by rw [lb_eq, Bool.eq_false_iff.mpr HB.out]⟩
        go_wp2_with (go_at_call 45; refine (impl_lineByte.calls (bt s (i : Int)) false _ A6.out).mono ?_; rintro e w' ⟨rfl, ⟨nd, rfl⟩⟩)
        go_ret
        refine ⟨?_, pw_below_drewN (lin_below w 5 s) _⟩
        have : linOkB s = false := by unfold linOkB; exact decide_eq_false (fun hx => HB.out (hx.2 i hlt))
        exact congrArg (fun b => Ending.returned (Value.bool b)) this.symm
    · go_wp2
      go_ret
      refine ⟨?_, pw_below_drewN (lin_below w 5 s) _⟩
      have : linOkB s = decide ((s.size : Int) ≤ 16) := by
        unfold linOkB
        exact decide_eq_decide.2 ⟨fun h => by omega, fun h => ⟨by omega, fun j hj => HJ.out j (by omega)⟩⟩
      exact congrArg (fun b => Ending.returned (Value.bool b)) this.symm
theorem lin_a_only (s : ByteArray) (h0 : s.size = 1) (h1 : bt s 0 = 97) : linOkB s = true := by
  unfold linOkB
  refine decide_eq_true ⟨by omega, fun j hj => ?_⟩
  obtain rfl : j = 0 := by omega
  rw [show ((0 : Nat) : Int) = 0 from rfl, h1]
  decide
theorem impl_LinOk.calls (a0 : ByteArray) (r : Bool) (w : World) (h : impl_LinOk.f a0 = some r) :
    Calls Try.prog 34 #[.string a0] w fun e w' => e = .returned (.bool r) ∧ Below w.heap.size w w' := by
  have hx : a0.size = 1 ∧ bt a0 0 = 97 ∧ r = true := by
    have hb := bt_range a0 0
    have hw : wrap64 (bt a0 0) = bt a0 0 := Lib.wrap_id (by omega) (by omega)
    have hw2 : wrap64 (wrap64 (bt a0 0) - 97) = bt a0 0 - 97 := by rw [hw, Lib.wrap_id (by omega) (by omega)]
    unfold impl_LinOk.f at h
    rw [if_pos (by omega)] at h
    by_cases cs : ((a0.size : Int) : Int).toNat ≤ 281474976710656
    · rw [if_pos cs] at h
      have hw3 : wrap64 ((a0.size : Int) - 1) = (a0.size : Int) - 1 := Lib.wrap_id (by omega) (by omega)
      rw [if_pos (by omega)] at h
      simp only [Option.bind_some, List.length_replicate] at h
      rw [hw3, hw2] at h
      by_cases c1 : 0 ≤ (a0.size : Int) - 1
      · rw [if_pos c1] at h
        by_cases c2 : (a0.size : Int) - 1 < ((1 : Nat) : Int)
        · rw [if_pos c2, if_pos (by omega)] at h
          by_cases c3 : 0 ≤ bt a0 0 - 97
          · rw [if_pos c3] at h
            by_cases c4 : bt a0 0 - 97 < ((1 : Nat) : Int)
            · rw [if_pos c4] at h
              exact ⟨by omega, by omega, (Option.some.inj h).symm⟩
            · rw [if_neg c4] at h; cases h
          · rw [if_neg c3] at h; cases h
        · rw [if_neg c2] at h; cases h
      · rw [if_neg c1] at h; cases h
    · rw [if_neg cs] at h; cases h
  obtain ⟨h0, h1, rfl⟩ := hx
  have := lin_walk a0 w (by omega)
  rwa [lin_a_only a0 h0 h1] at this

/-! ### laws_haOk: function 20 -/
def laws_haOk.f  : Option (Bool) := (impl_LinOk.f (⟨#[97]⟩ : ByteArray)).bind fun t253 => (some t253)
set_option maxHeartbeats 8000000 in
set_option maxRecDepth 100000 in
theorem laws_haOk.calls  (r : Bool) (w : World) (h : laws_haOk.f  = some r) :
    Calls Try.prog 20 #[] w fun e w' => e = .returned (.bool r) ∧ Below w.heap.size w w' := by
  have HB := Aside0.mk (Below.refl w.heap.size w)
  have H : ((impl_LinOk.f (⟨#[97]⟩ : ByteArray)).bind fun t253 => (some t253)) = some r := h
  clear h
  replace H := Option.bind_eq_some_iff.mp H
  obtain ⟨t253, A10, H⟩ := H
  replace H : (some t253) = some r := H
  have A1 := Aside0.mk A10
  clear A10
  obtain rfl := Option.some.inj H
  go_enter Try.func20, Try.ntmps20
  go_wp2_with (first | ((with_reducible refine gate_callee (f := 34) rfl ?_); refine goesL_ (some 1) rfl rfl Try.func34 (by kernel_rfl) rfl #[.string (⟨#[97]⟩ : ByteArray)] rfl (by (try simp only [List.map_toArray, List.map_cons, List.map_nil]); first | done | rfl | (simp only [List.length_drop, List.length_take]; rfl)) ?_; (with_reducible refine (impl_LinOk.calls (⟨#[97]⟩ : ByteArray) t253 _ A1.out).mono ?_); rintro e w2 ⟨rfl, hb⟩; refine ⟨_, rfl, ?_⟩; have n0_ := Aside0.mk (below_step (by repeat (first | (with_reducible first | exact HB.out | apply below_alloc | apply pw_below_drewN | apply below_drew1) | exact HB.out)) hb); clear HB; have HB := n0_; clear n0_; (try clear hb); (try clear hb2); (try clear hk); (try clear hi)))
  go_ret
  exact ⟨by first | rfl | (simp [errW_none, errW_some] <;> rfl) | (simp [*, errW_none, errW_some] <;> rfl), by repeat (first | (with_reducible first | exact HB.out | apply below_alloc | apply pw_below_drewN | apply below_drew1) | exact HB.out)⟩

end Go.Proofs.Ytlofgoahgnllkaa.QFnMapOk
