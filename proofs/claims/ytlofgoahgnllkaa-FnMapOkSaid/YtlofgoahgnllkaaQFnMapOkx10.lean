-- Laid by a program of this repo (wip/tools/sprint.py): print.py's functions and walks; the contracts named 'BY HAND' are proved by hand.
import Derived.Test.YtlofgoahgnllkaaQFnMapOkx8
import Derived.Test.YtlofgoahgnllkaaQFnMapOkx7
import Derived.Test.YtlofgoahgnllkaaQFnMapOkx6
import Derived.Test.YtlofgoahgnllkaaQFnMapOkx5
import Derived.Test.YtlofgoahgnllkaaQFnMapOkx1
import Derived.Test.YtlofgoahgnllkaaQFnMapOkx0
import Derived.Test.YtlofgoahgnllkaaQFnMapOkx2
import Derived.Test.YtlofgoahgnllkaaQFnMapOkx3
import Derived.Test.YtlofgoahgnllkaaQFnMapOkx4
import Derived.Test.YtlofgoahgnllkaaQFnMapOkx9
namespace Go.Proofs.Ytlofgoahgnllkaa.QFnMapOk
open Go.RowKit Go.Proofs.YtlofgoahgnllkaaW.PrintWords Go.Proofs.YtlofgoahgnllkaaW.PrintLast Go.Proofs.YtlofgoahgnllkaaW.PrintMore
attribute [local go_sem] max2_int min2_int max_two min_two max_three min_three max_four min_four   -- for this text's walks alone
set_option linter.unusedVariables false
set_option linter.unusedSimpArgs false

/-! ### laws_FnMapOk: function 6 -/
/-- A table's word: what is ok is asked of its own block alone. -/
theorem any27 {w : World} {base : Nat} {ok ok' : Nat → Prop} {v : Value} {xs : List (S27)} (h : Kd.R k27 27 w base ok v xs) (hok : ∀ k, v.ownBlock = some k → ok' k) : Kd.R k27 27 w base ok' v xs := ⟨hok, h.2.imp_ (fun p c hM => by obtain rfl := k27_openM hM; exact k27_mkM w base _ p)⟩
def ApartV (v u : Value) : Prop := ∀ k, v.ownBlock = some k → u.ownBlock ≠ some k
theorem apart_lt {v u : Value} {n : Nat} (h1 : ∀ k, v.ownBlock = some k → n ≤ k) (h2 : ∀ k, u.ownBlock = some k → k < n) : ApartV v u := fun k hv hu => by have := h1 k hv; have := h2 k hu; omega
theorem apart_gt {v u : Value} {n : Nat} (h1 : ∀ k, v.ownBlock = some k → n ≤ k) (h2 : ∀ k, u.ownBlock = some k → k < n) : ApartV u v := fun k hu hv => by have := h1 k hv; have := h2 k hu; omega
theorem apart_grown {v v1 u : Value} {n : Nat} (h : ApartV v u) (hat : v1.ownBlock = v.ownBlock ∨ ∃ b, v1.ownBlock = some b ∧ n ≤ b) (h2 : ∀ k, u.ownBlock = some k → k < n) : ApartV v1 u := fun k hv hu => by
  rcases hat with e | ⟨b, e, hb⟩
  · exact h k (e ▸ hv) hu
  · rw [e] at hv; injection hv with e2; have := h2 k hu; omega

def laws_FnMapOk.l0 : Nat → Int → List (S27) → Option (Bool)
  | 0, _, _ => none
  | k + 1, x5, x258000 => if x5 < (x258000.length : Int) then (if 0 ≤ x5 then (if x5 ≤ (x258000.length : Int) then ((impl_MapOk.f k (x258000.take (x5 : Int).toNat)).bind fun t266 => (if t266 = true then ((impl_MapPort.f k x258000 ((rd_T27 x258000 x5).f0) ((rd_T27 x258000 x5).f1)).bind fun t268 => (if t268 = (wrap64 (500 + x5)) then ((some (([] : List (S27)) : List (S27))).bind fun y269 => (if y269.length + x258000.length < 8796093022208 then ((some (y269 ++ x258000 : List (S27))).bind fun y272 => ((some (([(⟨(rd_T27 x258000 x5).f0, (rd_T27 x258000 x5).f1⟩ : S27)] : List (S27)) : List (S27))).bind fun y276 => (if y272.length + y276.length < 8796093022208 then ((impl_MapOk.f k (y272 ++ y276)).bind fun t282 => (if t282 = true then (some false) else (laws_FnMapOk.l0 k (wrap64 (x5 + 1)) x258000))) else (none)))) else (none))) else (some false))) else (some false))) else (none)) else (none)) else ((laws_haOk.f).bind fun t261 => (some t261))
def laws_FnMapOk.f (k : Nat) (l0 : List Int) : Option (Bool) := if (l0.length : Int) > 1048576 then (some true) else ((spec_DrawMapOk.f k l0).bind fun t254 => ((impl_MapOk.f k t254).bind fun t258 => ((spec_MapOk.f k t254).bind fun t259 => (if (t258 != t259) = true then (some false) else (if t258 = true then (laws_FnMapOk.l0 k 0 t254) else ((laws_haOk.f).bind fun t260 => (some t260)))))))
theorem laws_FnMapOk.mono_l : ∀ k, (∀ y0 y1, LeO (laws_FnMapOk.l0 k y0 y1) (laws_FnMapOk.l0 (k + 1) y0 y1))
  | 0 => fun _ _ r h => by simp [laws_FnMapOk.l0] at h
  | k + 1 => by
    have ih0 := laws_FnMapOk.mono_l k
    · intro y0 y1
      unfold laws_FnMapOk.l0
      repeat' first
      | (with_reducible exact ih0 _ _)
      | (with_reducible exact impl_MapOk.mono _ _)
      | (with_reducible exact impl_MapPort.mono _ _ _ _)
      | (with_reducible exact spec_DrawMapOk.mono _ _)
      | (with_reducible exact spec_MapOk.mono _ _)
      | (with_reducible exact LeO.refl _)
      | (with_reducible exact LeO.none _)
      | (with_reducible refine LeO.ite ?_ ?_)
      | (with_reducible refine LeO.bind ?_ (fun _ => ?_))
      | exact ih0 _ _
      | exact impl_MapOk.mono _ _
      | exact impl_MapPort.mono _ _ _ _
      | exact spec_DrawMapOk.mono _ _
      | exact spec_MapOk.mono _ _
      | exact LeO.none _
      | refine LeO.ite ?_ ?_
      | refine LeO.bind ?_ (fun _ => ?_)
theorem laws_FnMapOk.mono : ∀ a0 k, LeO (laws_FnMapOk.f k a0) (laws_FnMapOk.f (k + 1) a0) := by
  intro a0 k
  have ih0 := laws_FnMapOk.mono_l k
  unfold laws_FnMapOk.f
  repeat' first
      | (with_reducible exact ih0 _ _)
      | (with_reducible exact impl_MapOk.mono _ _)
      | (with_reducible exact impl_MapPort.mono _ _ _ _)
      | (with_reducible exact spec_DrawMapOk.mono _ _)
      | (with_reducible exact spec_MapOk.mono _ _)
      | (with_reducible exact LeO.refl _)
      | (with_reducible exact LeO.none _)
      | (with_reducible refine LeO.ite ?_ ?_)
      | (with_reducible refine LeO.bind ?_ (fun _ => ?_))
      | exact ih0 _ _
      | exact impl_MapOk.mono _ _
      | exact impl_MapPort.mono _ _ _ _
      | exact spec_DrawMapOk.mono _ _
      | exact spec_MapOk.mono _ _
      | exact LeO.none _
      | refine LeO.ite ?_ ?_
      | refine LeO.bind ?_ (fun _ => ?_)
def laws_FnMapOk.T12 : Bool × List (List Nat × List Nat) := (true, [([], []), ([0], [0]), ([], []), ([1, 2], [1, 2]), ([3], [3]), ([4], [4]), ([5], [5]), ([6, 5], [6]), ([7], [7]), ([7], [7]), ([9, 7], [7, 9]), ([7], [7]), ([10, 11, 7], [7, 10, 11]), ([12, 7], [7, 12]), ([8, 13, 7, 7], [7, 8, 13]), ([7], [7]), ([15, 7], [7, 15]), ([14, 16, 7], [7, 14, 16]), ([7, 17], [7, 17]), ([18, 14], [18]), ([19], [19]), ([19], [19]), ([21, 19], [19, 21]), ([20, 22, 19, 19], [19, 20, 22]), ([19], [19]), ([24, 19], [19, 24]), ([19], [19]), ([25, 26, 19], [19, 25, 26]), ([27, 19], [19, 27]), ([28, 19], [19, 28]), ([23, 29, 23, 19], [19, 23, 29]), ([30, 19], [19, 30]), ([31, 30, 19], [19, 31]), ([19, 32], [19, 32])])
def laws_FnMapOk.B12 : List Nat := [0, 1, 0, 7, 15, 31, 63, 127, 255, 255, 767, 255, 3839, 7935, 16383, 255, 33023, 131071, 262143, 524287, 1048575, 1048575, 3145727, 8388607, 1048575, 17825791, 1048575, 118489087, 252706815, 521142271, 1073741823, 2147483647, 4294967295, 8589934591]
theorem laws_FnMapOk.tab12 : rtab .any (opsOf Try.f6 12) = laws_FnMapOk.T12 := by kernel_rfl
theorem laws_FnMapOk.bits12 : waitsOk laws_FnMapOk.T12.2 laws_FnMapOk.B12 = true := by kernel_rfl
set_option maxHeartbeats 8000000 in
set_option maxRecDepth 100000 in
theorem laws_FnMapOk.calls (k : Nat) (A0 : Option Addr) (c0 : Nat) (l0 : List Int) (r : Bool) (hr_ : r = true) (w : World) (hr0 : Kd.C (Kd.int .u8) w A0 l0.length l0) (hc0 : l0.length ≤ c0) (h : laws_FnMapOk.f k l0 = some r) :
    Calls Try.prog 6 #[.slice A0 l0.length c0] w fun e w' => e = .returned (.bool r) ∧ Below w.heap.size w w' := by
  have hu32 := Try.underlying32
  have hu27 := Try.underlying27
  have HR0 := Aside0.mk hr0
  have HC0 := Aside0.mk hc0
  clear hr0 hc0
  have HR_ := Aside0.mk hr_
  clear hr_
  have HB := Aside0.mk (Below.refl w.heap.size w)
  have H : (if (l0.length : Int) > 1048576 then (some true) else ((spec_DrawMapOk.f k l0).bind fun t254 => ((impl_MapOk.f k t254).bind fun t258 => ((spec_MapOk.f k t254).bind fun t259 => (if (t258 != t259) = true then (some false) else (if t258 = true then (laws_FnMapOk.l0 k 0 t254) else ((laws_haOk.f).bind fun t260 => (some t260)))))))) = some r := h
  clear h
  by_cases c2 : (l0.length : Int) > 1048576
  · rw [if_pos c2] at H
    have c2b0 : decide (1048576 < (l0.length : Int)) = true := decide_eq_true c2
    have c2b1 : decide (1048576 < l0.length) = true := decide_eq_true (by omega)
    clear c2
    first
      | exact absurd (H.trans (congrArg some HR_.out)) (by decide)
      | (
          obtain rfl := Option.some.inj H
          go_enter Try.func6, Try.ntmps6
          go_wp2
          go_ret
          exact ⟨by first | rfl | (simp [errW_none, errW_some] <;> rfl) | (simp [*, errW_none, errW_some] <;> rfl), by repeat (first | (with_reducible first | exact HB.out | apply below_alloc | apply pw_below_drewN | apply below_drew1) | exact HB.out)⟩
        )
  · rw [if_neg c2] at H
    have c2b0 : decide (1048576 < (l0.length : Int)) = false := decide_eq_false c2
    have c2b1 : decide (1048576 < l0.length) = false := decide_eq_false (by omega)
    clear c2
    replace H := Option.bind_eq_some_iff.mp H
    obtain ⟨t254, A30, H⟩ := H
    replace H : ((impl_MapOk.f k t254).bind fun t258 => ((spec_MapOk.f k t254).bind fun t259 => (if (t258 != t259) = true then (some false) else (if t258 = true then (laws_FnMapOk.l0 k 0 t254) else ((laws_haOk.f).bind fun t260 => (some t260)))))) = some r := H
    have A3 := Aside0.mk A30
    clear A30
    replace H := Option.bind_eq_some_iff.mp H
    obtain ⟨t258, A40, H⟩ := H
    replace H : ((spec_MapOk.f k t254).bind fun t259 => (if (t258 != t259) = true then (some false) else (if t258 = true then (laws_FnMapOk.l0 k 0 t254) else ((laws_haOk.f).bind fun t260 => (some t260))))) = some r := H
    have A4 := Aside0.mk A40
    clear A40
    replace H := Option.bind_eq_some_iff.mp H
    obtain ⟨t259, A50, H⟩ := H
    replace H : (if (t258 != t259) = true then (some false) else (if t258 = true then (laws_FnMapOk.l0 k 0 t254) else ((laws_haOk.f).bind fun t260 => (some t260)))) = some r := H
    have A5 := Aside0.mk A50
    clear A50
    by_cases c6 : (t258 != t259) = true
    · rw [if_pos c6] at H
      have c6b0 : (t258 != t259) = true := c6
      (try (have c6b1 : decide (t258 = t259) = false := by simpa using c6))
      (try (have c6b2 : (t258 == t259) = false := by simpa using c6))
      (try (have c6b3 : ¬ (t258 = t259) := by simpa using c6))
      clear c6
      first
        | exact absurd (H.trans (congrArg some HR_.out)) (by decide)
        | (
            obtain rfl := Option.some.inj H
            go_enter Try.func6, Try.ntmps6
            go_wp2_with (first | ((with_reducible refine gate_callee (f := 19) rfl ?_); refine goesL_ (some 10) rfl rfl Try.func19 (by kernel_rfl) rfl #[.slice A0 l0.length c0] rfl (by (try simp only [List.map_toArray, List.map_cons, List.map_nil]); first | done | rfl | (simp only [List.length_drop, List.length_take]; rfl)) ?_; (with_reducible refine (spec_DrawMapOk.calls k _ _ l0 t254 _ ?side1 ?side2 A3.out).mono ?_); (case side1 => repeat (first | exact HR0.out | (with_reducible refine Kd.C_alloc ?_ _) | (with_reducible refine Kd.C_drewN ?_ _) | (with_reducible refine Kd.C_drew ?_))); (case side2 => exact HC0.out); rintro e w7 ⟨v255, rfl, ho0, hb⟩; refine ⟨_, rfl, ?_⟩; have n0_ := Aside0.mk (Kd.R_lower ho0 (below_size (by repeat (first | (with_reducible first | exact HB.out | apply below_alloc | apply pw_below_drewN | apply below_drew1) | exact HB.out)))); have n1_ := Aside0.mk (below_step (by repeat (first | (with_reducible first | exact HB.out | apply below_alloc | apply pw_below_drewN | apply below_drew1) | exact HB.out)) hb); clear HB; have HO256 := n0_; have HB := n1_; clear n0_ n1_; (try clear hb); (try clear hb2); (try clear hk); (try clear hi); (try clear ho0)) | ((with_reducible refine gate_dst (N := 3) rfl ?_); (try (refine gate_guard (by rfl) ?_; dsimp only)); refine box_event ?hg (N := 3) ?hd (cs := #[.slice none 0 0]) (t := 32) ?hr ?_; (case hd => rfl); (case hg => rfl); (case hr => first | (go_simp; done) | (go_simp; rfl)); intro gb257 hg w8 hbox hb; have n0_ := Aside0.mk (Kd.R_below (by (with_reducible repeat (first | apply Kd.R_alloc | apply Kd.R_drewN | apply Kd.R_drew)); exact HO256.out) hb); have n1_ := Aside0.mk (below_step (by repeat (first | (with_reducible first | exact HB.out | apply below_alloc | apply pw_below_drewN | apply below_drew1) | exact HB.out)) hb); have n2_ := Aside0.mk (hbox); have n3_ := Aside0.mk ((by rw [hg]; exact (below_size (by repeat (first | (with_reducible first | exact HB.out | apply below_alloc | apply pw_below_drewN | apply below_drew1) | exact HB.out))) : w.heap.size ≤ gb257)); have n4_ := Aside0.mk ((by rw [hg]; exact (below_size (by repeat (first | (with_reducible first | exact HB.out | apply below_alloc | apply pw_below_drewN | apply below_drew1) | exact HB.out))) : w.heap.size ≤ gb257)); clear HO256; clear HB; have HO256 := n0_; have HB := n1_; have BK257 := n2_; have GW257 := n3_; have GE257 := n4_; clear n0_ n1_ n2_ n3_ n4_; clear hb hbox hg; obtain ⟨Ao9, co9, eo9⟩ := Kd.R_slice HO256.out; subst eo9; have hcz10_0 : w8.cell? ⟨gb257, 0, none⟩ = some (.slice none 0 0) := (blk_cell BK257.out 0).trans rfl; have hfz10_0 := blk_frozen BK257.out 0) | ((with_reducible refine gate_callee (f := 18) rfl ?_); refine goesL_ (some 12) rfl rfl Try.func18 (by kernel_rfl) rfl #[.agg #[.slice Ao9 t254.length co9]] rfl (by (try simp only [List.map_toArray, List.map_cons, List.map_nil]); first | done | rfl | (simp only [List.length_drop, List.length_take]; rfl)) ?_; (with_reducible refine (impl_MapOk.calls k _ _ t254 t258 _ ?side1 ?side2 A4.out).mono ?_); (case side1 => refine (Kd.R_reads' (e := 27) (base := w.heap.size) (ok := fun k_ => True) (n := t254.length) (c := co9) ?_).2.2; exact (by (with_reducible repeat (first | apply Kd.R_alloc | apply Kd.R_drewN | apply Kd.R_drew)); exact (Kd.R_mono (Kd.R_far (p := ⟨gb257, 0, none⟩) (Kd.R_types HO256.out BK257.out (by decide)) (fun _ hk => hk.2) (.slice Ao9 t254.length co9)) (fun _ h_ => h_.1)))); (case side2 => exact (Kd.R_reads' HO256.out).2.1); rintro e w11 ⟨rfl, hb⟩; refine ⟨_, rfl, ?_⟩; have n0_ := Aside0.mk (Kd.R_below (by (with_reducible repeat (first | apply Kd.R_alloc | apply Kd.R_drewN | apply Kd.R_drew)); exact (Kd.R_mono (Kd.R_far (p := ⟨gb257, 0, none⟩) (Kd.R_types HO256.out BK257.out (by decide)) (fun _ hk => hk.2) (.slice Ao9 t254.length co9)) (fun _ h_ => h_.1))) hb); have n1_ := Aside0.mk (blk_below (g := gb257) (o := .cells #[.slice Ao9 t254.length co9] 32 (0, 0)) (by (with_reducible repeat (first | refine blk_drewN ?_ _ | refine blk_drew ?_ | refine blk_alloc ?_ _)); refine blk_put (cs := #[.slice none 0 0]) ?_ 0 _ rfl; (with_reducible repeat (first | refine blk_drewN ?_ _ | refine blk_drew ?_ | refine blk_alloc ?_ _)); exact BK257.out) hb); have n2_ := Aside0.mk (below_step (by repeat (first | (with_reducible first | exact HB.out | apply below_alloc | apply pw_below_drewN | apply below_drew1 | refine below_set ?_ GE257.out) | exact HB.out)) hb); clear HO256; clear BK257; clear HB; have HO256 := n0_; have BK257 := n1_; have HB := n2_; clear n0_ n1_ n2_; (try clear hb); (try clear hb2); (try clear hk); (try clear hi); have hcz12_0 : w11.cell? ⟨gb257, 0, none⟩ = some (.slice Ao9 t254.length co9) := (blk_cell BK257.out 0).trans rfl; have hfz12_0 := blk_frozen BK257.out 0) | ((with_reducible refine gate_callee (f := 17) rfl ?_); refine goesL_ (some 15) rfl rfl Try.func17 (by kernel_rfl) rfl #[.agg #[.slice Ao9 t254.length co9]] rfl (by (try simp only [List.map_toArray, List.map_cons, List.map_nil]); first | done | rfl | (simp only [List.length_drop, List.length_take]; rfl)) ?_; (with_reducible refine (spec_MapOk.calls k _ _ t254 t259 _ ?side1 ?side2 A5.out).mono ?_); (case side1 => repeat (first | exact (Kd.R_reads' HO256.out).2.2 | (with_reducible refine Kd.C_alloc ?_ _) | (with_reducible refine Kd.C_drewN ?_ _) | (with_reducible refine Kd.C_drew ?_))); (case side2 => exact (Kd.R_reads' HO256.out).2.1); rintro e w13 ⟨rfl, hb⟩; refine ⟨_, rfl, ?_⟩; have n0_ := Aside0.mk (Kd.R_below (by (with_reducible repeat (first | apply Kd.R_alloc | apply Kd.R_drewN | apply Kd.R_drew)); exact HO256.out) hb); have n1_ := Aside0.mk (blk_below (g := gb257) (o := .cells #[.slice Ao9 t254.length co9] 32 (0, 0)) (by (with_reducible repeat (first | refine blk_drewN ?_ _ | refine blk_drew ?_ | refine blk_alloc ?_ _)); exact BK257.out) hb); have n2_ := Aside0.mk (below_step (by repeat (first | (with_reducible first | exact HB.out | apply below_alloc | apply pw_below_drewN | apply below_drew1 | refine below_set ?_ GE257.out) | exact HB.out)) hb); clear HO256; clear BK257; clear HB; have HO256 := n0_; have BK257 := n1_; have HB := n2_; clear n0_ n1_ n2_; (try clear hb); (try clear hb2); (try clear hk); (try clear hi)))
            go_ret
            exact ⟨by first | rfl | (simp [errW_none, errW_some] <;> rfl) | (simp [*, errW_none, errW_some] <;> rfl), by repeat (first | (with_reducible first | exact HB.out | apply below_alloc | apply pw_below_drewN | apply below_drew1 | refine below_set ?_ GE257.out) | exact HB.out)⟩
          )
    · rw [if_neg c6] at H
      have c6b0 : (t258 != t259) = false := by simpa using c6
      (try (have c6b1 : decide (t258 = t259) = true := by simpa using c6))
      (try (have c6b2 : (t258 == t259) = true := by simpa using c6))
      clear c6
      by_cases c14 : t258 = true
      · subst c14
        have H1 : (laws_FnMapOk.l0 k 0 t254) = some r := by rw [if_pos rfl] at H; exact H
        clear H
        have H := H1
        clear H1
        have H' := Aside0.mk H
        clear H
        go_enter Try.func6, Try.ntmps6
        go_wp2_with (first | ((with_reducible refine gate_callee (f := 19) rfl ?_); refine goesL_ (some 10) rfl rfl Try.func19 (by kernel_rfl) rfl #[.slice A0 l0.length c0] rfl (by (try simp only [List.map_toArray, List.map_cons, List.map_nil]); first | done | rfl | (simp only [List.length_drop, List.length_take]; rfl)) ?_; (with_reducible refine (spec_DrawMapOk.calls k _ _ l0 t254 _ ?side1 ?side2 A3.out).mono ?_); (case side1 => repeat (first | exact HR0.out | (with_reducible refine Kd.C_alloc ?_ _) | (with_reducible refine Kd.C_drewN ?_ _) | (with_reducible refine Kd.C_drew ?_))); (case side2 => exact HC0.out); rintro e w15 ⟨v255, rfl, ho0, hb⟩; refine ⟨_, rfl, ?_⟩; have n0_ := Aside0.mk (Kd.R_lower ho0 (below_size (by repeat (first | (with_reducible first | exact HB.out | apply below_alloc | apply pw_below_drewN | apply below_drew1) | exact HB.out)))); have n1_ := Aside0.mk (below_step (by repeat (first | (with_reducible first | exact HB.out | apply below_alloc | apply pw_below_drewN | apply below_drew1) | exact HB.out)) hb); clear HB; have HO256 := n0_; have HB := n1_; clear n0_ n1_; (try clear hb); (try clear hb2); (try clear hk); (try clear hi); (try clear ho0)) | ((with_reducible refine gate_dst (N := 3) rfl ?_); (try (refine gate_guard (by rfl) ?_; dsimp only)); refine box_event ?hg (N := 3) ?hd (cs := #[.slice none 0 0]) (t := 32) ?hr ?_; (case hd => rfl); (case hg => rfl); (case hr => first | (go_simp; done) | (go_simp; rfl)); intro gb257 hg w16 hbox hb; have n0_ := Aside0.mk (Kd.R_below (by (with_reducible repeat (first | apply Kd.R_alloc | apply Kd.R_drewN | apply Kd.R_drew)); exact HO256.out) hb); have n1_ := Aside0.mk (below_step (by repeat (first | (with_reducible first | exact HB.out | apply below_alloc | apply pw_below_drewN | apply below_drew1) | exact HB.out)) hb); have n2_ := Aside0.mk (hbox); have n3_ := Aside0.mk ((by rw [hg]; exact (below_size (by repeat (first | (with_reducible first | exact HB.out | apply below_alloc | apply pw_below_drewN | apply below_drew1) | exact HB.out))) : w.heap.size ≤ gb257)); have n4_ := Aside0.mk ((by rw [hg]; exact (below_size (by repeat (first | (with_reducible first | exact HB.out | apply below_alloc | apply pw_below_drewN | apply below_drew1) | exact HB.out))) : w.heap.size ≤ gb257)); clear HO256; clear HB; have HO256 := n0_; have HB := n1_; have BK257 := n2_; have GW257 := n3_; have GE257 := n4_; clear n0_ n1_ n2_ n3_ n4_; clear hb hbox hg; obtain ⟨Ao17, co17, eo17⟩ := Kd.R_slice HO256.out; subst eo17; have hcz18_0 : w16.cell? ⟨gb257, 0, none⟩ = some (.slice none 0 0) := (blk_cell BK257.out 0).trans rfl; have hfz18_0 := blk_frozen BK257.out 0) | ((with_reducible refine gate_callee (f := 18) rfl ?_); refine goesL_ (some 12) rfl rfl Try.func18 (by kernel_rfl) rfl #[.agg #[.slice Ao17 t254.length co17]] rfl (by (try simp only [List.map_toArray, List.map_cons, List.map_nil]); first | done | rfl | (simp only [List.length_drop, List.length_take]; rfl)) ?_; (with_reducible refine (impl_MapOk.calls k _ _ t254 true _ ?side1 ?side2 A4.out).mono ?_); (case side1 => refine (Kd.R_reads' (e := 27) (base := w.heap.size) (ok := fun k_ => True) (n := t254.length) (c := co17) ?_).2.2; exact (by (with_reducible repeat (first | apply Kd.R_alloc | apply Kd.R_drewN | apply Kd.R_drew)); exact (Kd.R_mono (Kd.R_far (p := ⟨gb257, 0, none⟩) (Kd.R_types HO256.out BK257.out (by decide)) (fun _ hk => hk.2) (.slice Ao17 t254.length co17)) (fun _ h_ => h_.1)))); (case side2 => exact (Kd.R_reads' HO256.out).2.1); rintro e w19 ⟨rfl, hb⟩; refine ⟨_, rfl, ?_⟩; have n0_ := Aside0.mk (Kd.R_below (by (with_reducible repeat (first | apply Kd.R_alloc | apply Kd.R_drewN | apply Kd.R_drew)); exact (Kd.R_mono (Kd.R_far (p := ⟨gb257, 0, none⟩) (Kd.R_types HO256.out BK257.out (by decide)) (fun _ hk => hk.2) (.slice Ao17 t254.length co17)) (fun _ h_ => h_.1))) hb); have n1_ := Aside0.mk (blk_below (g := gb257) (o := .cells #[.slice Ao17 t254.length co17] 32 (0, 0)) (by (with_reducible repeat (first | refine blk_drewN ?_ _ | refine blk_drew ?_ | refine blk_alloc ?_ _)); refine blk_put (cs := #[.slice none 0 0]) ?_ 0 _ rfl; (with_reducible repeat (first | refine blk_drewN ?_ _ | refine blk_drew ?_ | refine blk_alloc ?_ _)); exact BK257.out) hb); have n2_ := Aside0.mk (below_step (by repeat (first | (with_reducible first | exact HB.out | apply below_alloc | apply pw_below_drewN | apply below_drew1 | refine below_set ?_ GE257.out) | exact HB.out)) hb); clear HO256; clear BK257; clear HB; have HO256 := n0_; have BK257 := n1_; have HB := n2_; clear n0_ n1_ n2_; (try clear hb); (try clear hb2); (try clear hk); (try clear hi); have hcz20_0 : w19.cell? ⟨gb257, 0, none⟩ = some (.slice Ao17 t254.length co17) := (blk_cell BK257.out 0).trans rfl; have hfz20_0 := blk_frozen BK257.out 0) | ((with_reducible refine gate_callee (f := 17) rfl ?_); refine goesL_ (some 15) rfl rfl Try.func17 (by kernel_rfl) rfl #[.agg #[.slice Ao17 t254.length co17]] rfl (by (try simp only [List.map_toArray, List.map_cons, List.map_nil]); first | done | rfl | (simp only [List.length_drop, List.length_take]; rfl)) ?_; (with_reducible refine (spec_MapOk.calls k _ _ t254 t259 _ ?side1 ?side2 A5.out).mono ?_); (case side1 => repeat (first | exact (Kd.R_reads' HO256.out).2.2 | (with_reducible refine Kd.C_alloc ?_ _) | (with_reducible refine Kd.C_drewN ?_ _) | (with_reducible refine Kd.C_drew ?_))); (case side2 => exact (Kd.R_reads' HO256.out).2.1); rintro e w21 ⟨rfl, hb⟩; refine ⟨_, rfl, ?_⟩; have n0_ := Aside0.mk (Kd.R_below (by (with_reducible repeat (first | apply Kd.R_alloc | apply Kd.R_drewN | apply Kd.R_drew)); exact HO256.out) hb); have n1_ := Aside0.mk (blk_below (g := gb257) (o := .cells #[.slice Ao17 t254.length co17] 32 (0, 0)) (by (with_reducible repeat (first | refine blk_drewN ?_ _ | refine blk_drew ?_ | refine blk_alloc ?_ _)); exact BK257.out) hb); have n2_ := Aside0.mk (below_step (by repeat (first | (with_reducible first | exact HB.out | apply below_alloc | apply pw_below_drewN | apply below_drew1 | refine below_set ?_ GE257.out) | exact HB.out)) hb); clear HO256; clear BK257; clear HB; have HO256 := n0_; have BK257 := n1_; have HB := n2_; clear n0_ n1_ n2_; (try clear hb); (try clear hb2); (try clear hk); (try clear hi)))
        go_loopg [5] k (fun kq v5 w' => ∃ (x5_1 : Int), v5 = .int .i64 x5_1 ∧ Aside0 (laws_FnMapOk.l0 kq x5_1 t254 = some r) ∧ Aside0 (kq ≤ k) ∧ Aside0 (Kd.R k27 27 w' w.heap.size (fun _ => True) (.slice Ao17 t254.length co17) t254) ∧ Aside0 (w'.heap[gb257]? = some (.cells #[(.slice Ao17 t254.length co17)] 32 (0, 0))) ∧ Aside0 (Below w.heap.size w w'))
        case atStart => exact ⟨(0), (by first | rfl | (simp; done) | (simp [*]; done)), H', ⟨Nat.le_refl _⟩, ⟨by (with_reducible repeat (first | apply Kd.R_alloc | apply Kd.R_drewN | apply Kd.R_drew)); exact HO256.out⟩, ⟨by (with_reducible repeat (first | refine blk_drewN ?_ _ | refine blk_drew ?_ | refine blk_alloc ?_ _)); exact BK257.out⟩, ⟨by repeat (first | (with_reducible first | exact HB.out | apply below_alloc | apply pw_below_drewN | apply below_drew1 | refine below_set ?_ GE257.out) | exact HB.out)⟩⟩
        case round =>
          clear H'
          try clear c1
          try clear c2
          try clear c2b0
          try clear c2b1
          try clear p2
          try clear c6
          try clear c6b0
          try clear c6b1
          try clear c6b2
          try clear c14
          try clear c17
          try clear c18
          try clear c19
          try clear hcz10_0
          try clear hcz12_0
          try clear hcz18_0
          try clear hcz20_0
          try clear hfz10_0
          try clear hfz12_0
          try clear hfz18_0
          try clear hfz20_0
          obtain ⟨x5_1, rfl, HA, HK1, HO_258000, BK257, HB⟩ := hrel
          cases gk with
          | zero => exact absurd HA.out (by simp [laws_FnMapOk.l0])
          | succ k1 =>
            have H := HA.out
            clear HA
            simp only [laws_FnMapOk.l0] at H
            by_cases c22 : x5_1 < (t254.length : Int)
            · rw [if_pos c22] at H
              have c22b0 : decide (x5_1 < (t254.length : Int)) = true := decide_eq_true c22
              clear c22
              by_cases c23 : 0 ≤ x5_1
              · rw [if_pos c23] at H
                have c23b0 := eq_true c23
                have c23b1 : decide (0 ≤ x5_1) = true := decide_eq_true c23
                clear c23
                by_cases c24 : x5_1 ≤ (t254.length : Int)
                · rw [if_pos c24] at H
                  have c24b0 := eq_true c24
                  have c24b1 : decide (x5_1 ≤ (t254.length : Int)) = true := decide_eq_true c24
                  clear c24
                  obtain ⟨y262, hy262⟩ : ∃ y_ : List (S27), y_ = (t254.take (x5_1 : Int).toNat) := ⟨_, rfl⟩
                  replace H : ((impl_MapOk.f k1 y262).bind fun t266 => (if t266 = true then ((impl_MapPort.f k1 t254 ((rd_T27 t254 x5_1).f0) ((rd_T27 t254 x5_1).f1)).bind fun t268 => (if t268 = (wrap64 (500 + x5_1)) then ((some (([] : List (S27)) : List (S27))).bind fun y269 => (if y269.length + t254.length < 8796093022208 then ((some (y269 ++ t254 : List (S27))).bind fun y272 => ((some (([(⟨(rd_T27 t254 x5_1).f0, (rd_T27 t254 x5_1).f1⟩ : S27)] : List (S27)) : List (S27))).bind fun y276 => (if y272.length + y276.length < 8796093022208 then ((impl_MapOk.f k1 (y272 ++ y276)).bind fun t282 => (if t282 = true then (some false) else (laws_FnMapOk.l0 k1 (wrap64 (x5_1 + 1)) t254))) else (none)))) else (none))) else (some false))) else (some false))) = some r := by first | (rw [hy262]; with_reducible exact H) | (have H2_ := (Option.bind_some _ _).symm.trans H; rw [hy262]; with_reducible exact H2_) | (have H2_ := (Option.bind_some _ _).symm.trans H; with_reducible exact H2_) | with_reducible exact H | (rw [hy262]; exact H) | exact H
                  have Ny262 := Aside0.mk hy262
                  clear hy262
                  replace H := Option.bind_eq_some_iff.mp H
                  obtain ⟨t266, A250, H⟩ := H
                  replace H : (if t266 = true then ((impl_MapPort.f k1 t254 ((rd_T27 t254 x5_1).f0) ((rd_T27 t254 x5_1).f1)).bind fun t268 => (if t268 = (wrap64 (500 + x5_1)) then ((some (([] : List (S27)) : List (S27))).bind fun y269 => (if y269.length + t254.length < 8796093022208 then ((some (y269 ++ t254 : List (S27))).bind fun y272 => ((some (([(⟨(rd_T27 t254 x5_1).f0, (rd_T27 t254 x5_1).f1⟩ : S27)] : List (S27)) : List (S27))).bind fun y276 => (if y272.length + y276.length < 8796093022208 then ((impl_MapOk.f k1 (y272 ++ y276)).bind fun t282 => (if t282 = true then (some false) else (laws_FnMapOk.l0 k1 (wrap64 (x5_1 + 1)) t254))) else (none)))) else (none))) else (some false))) else (some false)) = some r := H
                  have A25 := Aside0.mk A250
                  clear A250
                  by_cases c26 : t266 = true
                  · subst c26
                    have H1 : ((impl_MapPort.f k1 t254 ((rd_T27 t254 x5_1).f0) ((rd_T27 t254 x5_1).f1)).bind fun t268 => (if t268 = (wrap64 (500 + x5_1)) then ((some (([] : List (S27)) : List (S27))).bind fun y269 => (if y269.length + t254.length < 8796093022208 then ((some (y269 ++ t254 : List (S27))).bind fun y272 => ((some (([(⟨(rd_T27 t254 x5_1).f0, (rd_T27 t254 x5_1).f1⟩ : S27)] : List (S27)) : List (S27))).bind fun y276 => (if y272.length + y276.length < 8796093022208 then ((impl_MapOk.f k1 (y272 ++ y276)).bind fun t282 => (if t282 = true then (some false) else (laws_FnMapOk.l0 k1 (wrap64 (x5_1 + 1)) t254))) else (none)))) else (none))) else (some false))) = some r := by rw [if_pos rfl] at H; exact H
                    clear H
                    have H := H1
                    clear H1
                    replace H := Option.bind_eq_some_iff.mp H
                    obtain ⟨t268, A270, H⟩ := H
                    replace H : (if t268 = (wrap64 (500 + x5_1)) then ((some (([] : List (S27)) : List (S27))).bind fun y269 => (if y269.length + t254.length < 8796093022208 then ((some (y269 ++ t254 : List (S27))).bind fun y272 => ((some (([(⟨(rd_T27 t254 x5_1).f0, (rd_T27 t254 x5_1).f1⟩ : S27)] : List (S27)) : List (S27))).bind fun y276 => (if y272.length + y276.length < 8796093022208 then ((impl_MapOk.f k1 (y272 ++ y276)).bind fun t282 => (if t282 = true then (some false) else (laws_FnMapOk.l0 k1 (wrap64 (x5_1 + 1)) t254))) else (none)))) else (none))) else (some false)) = some r := H
                    have A27 := Aside0.mk A270
                    clear A270
                    by_cases c28 : t268 = (wrap64 (500 + x5_1))
                    · rw [if_pos c28] at H
                      have c28b0 : (t268 == (wrap64 (500 + x5_1))) = true := beq_iff_eq.mpr c28
                      have c28b1 : (t268 != (wrap64 (500 + x5_1))) = false := bne_eq_false_iff_eq.mpr c28
                      clear c28
                      obtain ⟨y269, hy269⟩ : ∃ y_ : List (S27), y_ = (([] : List (S27))) := ⟨_, rfl⟩
                      replace H : (if y269.length + t254.length < 8796093022208 then ((some (y269 ++ t254 : List (S27))).bind fun y272 => ((some (([(⟨(rd_T27 t254 x5_1).f0, (rd_T27 t254 x5_1).f1⟩ : S27)] : List (S27)) : List (S27))).bind fun y276 => (if y272.length + y276.length < 8796093022208 then ((impl_MapOk.f k1 (y272 ++ y276)).bind fun t282 => (if t282 = true then (some false) else (laws_FnMapOk.l0 k1 (wrap64 (x5_1 + 1)) t254))) else (none)))) else (none)) = some r := by first | (rw [hy269]; with_reducible exact H) | (have H2_ := (Option.bind_some _ _).symm.trans H; rw [hy269]; with_reducible exact H2_) | (have H2_ := (Option.bind_some _ _).symm.trans H; with_reducible exact H2_) | with_reducible exact H | (rw [hy269]; exact H) | exact H
                      have Ny269 := Aside0.mk hy269
                      clear hy269
                      by_cases c29 : y269.length + t254.length < 8796093022208
                      · rw [if_pos c29] at H
                        have LMc29 := Aside0.mk c29
                        clear c29
                        obtain ⟨y272, hy272⟩ : ∃ y_ : List (S27), y_ = (y269 ++ t254) := ⟨_, rfl⟩
                        replace H : ((some (([(⟨(rd_T27 t254 x5_1).f0, (rd_T27 t254 x5_1).f1⟩ : S27)] : List (S27)) : List (S27))).bind fun y276 => (if y272.length + y276.length < 8796093022208 then ((impl_MapOk.f k1 (y272 ++ y276)).bind fun t282 => (if t282 = true then (some false) else (laws_FnMapOk.l0 k1 (wrap64 (x5_1 + 1)) t254))) else (none))) = some r := by first | (rw [hy272]; with_reducible exact H) | (have H2_ := (Option.bind_some _ _).symm.trans H; rw [hy272]; with_reducible exact H2_) | (have H2_ := (Option.bind_some _ _).symm.trans H; with_reducible exact H2_) | with_reducible exact H | (rw [hy272]; exact H) | exact H
                        have Ny272 := Aside0.mk hy272
                        clear hy272
                        obtain ⟨y276, hy276⟩ : ∃ y_ : List (S27), y_ = (([(⟨(rd_T27 t254 x5_1).f0, (rd_T27 t254 x5_1).f1⟩ : S27)] : List (S27))) := ⟨_, rfl⟩
                        replace H : (if y272.length + y276.length < 8796093022208 then ((impl_MapOk.f k1 (y272 ++ y276)).bind fun t282 => (if t282 = true then (some false) else (laws_FnMapOk.l0 k1 (wrap64 (x5_1 + 1)) t254))) else (none)) = some r := by first | (rw [hy276]; with_reducible exact H) | (have H2_ := (Option.bind_some _ _).symm.trans H; rw [hy276]; with_reducible exact H2_) | (have H2_ := (Option.bind_some _ _).symm.trans H; with_reducible exact H2_) | with_reducible exact H | (rw [hy276]; exact H) | exact H
                        have Ny276 := Aside0.mk hy276
                        clear hy276
                        by_cases c30 : y272.length + y276.length < 8796093022208
                        · rw [if_pos c30] at H
                          have LMc30 := Aside0.mk c30
                          clear c30
                          obtain ⟨y279, hy279⟩ : ∃ y_ : List (S27), y_ = (y272 ++ y276) := ⟨_, rfl⟩
                          replace H : ((impl_MapOk.f k1 y279).bind fun t282 => (if t282 = true then (some false) else (laws_FnMapOk.l0 k1 (wrap64 (x5_1 + 1)) t254))) = some r := by first | (rw [hy279]; with_reducible exact H) | (have H2_ := (Option.bind_some _ _).symm.trans H; rw [hy279]; with_reducible exact H2_) | (have H2_ := (Option.bind_some _ _).symm.trans H; with_reducible exact H2_) | with_reducible exact H | (rw [hy279]; exact H) | exact H
                          have Ny279 := Aside0.mk hy279
                          clear hy279
                          replace H := Option.bind_eq_some_iff.mp H
                          obtain ⟨t282, A310, H⟩ := H
                          replace H : (if t282 = true then (some false) else (laws_FnMapOk.l0 k1 (wrap64 (x5_1 + 1)) t254)) = some r := H
                          have A31 := Aside0.mk A310
                          clear A310
                          by_cases c32 : t282 = true
                          · subst c32
                            have H1 : (some false) = some r := by rw [if_pos rfl] at H; exact H
                            clear H
                            have H := H1
                            clear H1
                            exact absurd (H.trans (congrArg some HR_.out)) (by simp)
                          · replace c32 := Bool.eq_false_iff.mpr c32
                            subst c32
                            have H1 : (laws_FnMapOk.l0 k1 (wrap64 (x5_1 + 1)) t254) = some r := by rw [if_neg (show ¬ (false = true) by decide)] at H; exact H
                            clear H
                            have H := H1
                            clear H1
                            have H' := Aside0.mk H
                            clear H
                            have hcz49_0 : wr.cell? ⟨gb257, 0, none⟩ = some (.slice Ao17 t254.length co17) := (blk_cell BK257.out 0).trans rfl
                            have hfz49_0 := blk_frozen BK257.out 0
                            try go_wp2
                            have n0_ := Aside0.mk (Kd.R_drew HO_258000.out)
                            have n1_ := Aside0.mk (blk_drew BK257.out)
                            have n2_ := Aside0.mk (below_drew1 HB.out)
                            clear HO_258000
                            clear BK257
                            clear HB
                            have HO_258000 := n0_
                            have BK257 := n1_
                            have HB := n2_
                            clear n0_ n1_ n2_
                            have q51 : (x5_1 : Int) ≤ ((t254.length : Int) : Int) := of_decide_eq_true (by first | (with_reducible assumption) | assumption)
                            obtain ⟨i051, hi051, _, hsz51, _⟩ := info_parts info27
                            have hroom51 : t254.length ≤ co17 := (Kd.R_reads' HO_258000.out).2.1
                            have hC51 : Kd.C k27 _ Ao17 t254.length t254 := (Kd.R_reads' HO_258000.out).2.2
                            have hcut51 := cut_to (P := Try.prog) 30 27 .i64 Try.underlying30 hi051 Ao17 t254.length co17 x5_1 (of_decide_eq_true (by first | (with_reducible assumption) | assumption)) q51 hroom51
                            have hr51 := Kd.C_take (m := (x5_1 : Int).toNat) hC51 (by omega)
                            have hy51 : y262.length = (x5_1 : Int).toNat := (by rw [Ny262.out, List.length_take]; omega)
                            rw [← Ny262.out] at hr51
                            rw [← hy51] at hcut51
                            have HR265 := Aside0.mk hr51
                            have HC265 := Aside0.mk (show y262.length ≤ co17 from by omega)
                            clear hr51 hC51 hroom51 hi051 hsz51
                            have KY51 := Aside0.mk hy51
                            clear hy51
                            have KL51 := Aside0.mk (show (x5_1 : Int).toNat ≤ t254.length from by omega)
                            replace q51 := eq_true q51
                            have p267 : 0 ≤ (x5_1 : Int) := of_decide_eq_true (by first | (with_reducible assumption) | assumption)
                            have q267 : x5_1 < (t254.length : Int) := of_decide_eq_true (by first | (with_reducible assumption) | assumption)
                            obtain ⟨ad267, e267, hx267_0, hx267_1⟩ := at_T27 (Kd.R_reads' HO_258000.out).2.2 x5_1 p267 q267
                            cases e267
                            replace p267 := eq_true p267
                            replace q267 := eq_true q267
                            have p275 : 0 ≤ (x5_1 : Int) := of_decide_eq_true (by first | (with_reducible assumption) | assumption)
                            have q275 : x5_1 < (t254.length : Int) := of_decide_eq_true (by first | (with_reducible assumption) | assumption)
                            obtain ⟨ad275, e275, hx275_0, hx275_1⟩ := at_T27 (Kd.R_reads' HO_258000.out).2.2 x5_1 p275 q275
                            obtain rfl : ad267 = ad275 := (by injection e275)
                            replace p275 := eq_true p275
                            replace q275 := eq_true q275
                            refine start_ (n := 34) (S := fun w' => True) (ds := []) #[false, false, false, false, false, false, false, false, false, false, false, false, false, false, false, false, false, false, false, false, false, false, false, false, false, false, false, false, false, false, false, false, false, false] (by kernel_rfl) rfl rfl trivial (fun hHeld => ?_); refine with_tabW laws_FnMapOk.tab12 laws_FnMapOk.bits12 (fun HT_ HW_ => ?_)
                            generalize wr.drew = w50 at HO_258000 BK257 HB HR265 hx267_0 hx267_1 hx275_0 hx275_1 hHeld ⊢
                            refine pure_ (i := 0) (N := some 27) (v := ?_) (a' := ?_) #[true, false, false, false, false, false, false, false, false, false, false, false, false, false, false, false, false, false, false, false, false, false, false, false, false, false, false, false, false, false, false, false, false, false] rfl rfl (any_of HT_.out (by kernel_rfl)) (fun _ _ _ h => h) (Or.inl ⟨by rfl, ?_⟩) ?_ ?_
                            rotate_left
                            · intro w'
                              go_simp
                              with_reducible rfl
                            rotate_left
                            · simp only [Act.put, List.setIfInBounds_toArray, List.set_cons_zero, List.set_cons_succ, i64_w, i32_w]
                              rfl
                            refine pure_ (i := 2) (N := some 29) (v := ?_) (a' := ?_) #[true, false, true, false, false, false, false, false, false, false, false, false, false, false, false, false, false, false, false, false, false, false, false, false, false, false, false, false, false, false, false, false, false, false] rfl rfl (any_of HT_.out (by kernel_rfl)) (fun _ _ _ h => h) (Or.inl ⟨by rfl, ?_⟩) ?_ ?_
                            rotate_left
                            · intro w'
                              go_simp
                              with_reducible rfl
                            rotate_left
                            · simp only [Act.put, List.setIfInBounds_toArray, List.set_cons_zero, List.set_cons_succ, i64_w, i32_w]
                              rfl
                            refine inv_at [1, 3, 4, 5, 6, 7, 8, 9, 10, 11, 12, 13, 14, 15, 16, 17, 18, 19, 20, 21, 22, 23, 24, 25, 26, 27, 28, 29, 30, 31, 32, 33] (fun a0_ b a w' => ∃ (v270 : Value) (v273 : Value) (v277 : Value) (v280 : Value) (m31_ : Value), a = putSel a0_ b [(1, 28, .slice (some ad267) t254.length co17), (3, 30, .slice (some ad267) y262.length co17), (4, 31, .agg #[.slice (some ad267) y262.length co17]), (5, 32, .bool true), (6, 33, .bool (!true)), (7, 34, .bool (!true)), (8, 35, .agg #[.slice (some ad267) t254.length co17]), (9, 36, .pointer (some ⟨gb257, 0, none⟩)), (10, 37, .slice (some ad267) t254.length co17), (11, 38, .int .i64 x5_1), (12, 39, .pointer (some (ad267.add ((x5_1).toNat * 2)))), (13, 40, .agg #[.int .i64 ((rd_T27 t254 x5_1).f0), .int .i64 ((rd_T27 t254 x5_1).f1)]), (14, 41, .int .i64 t268), (15, 42, .int .i64 x5_1), (16, 43, .int .i64 (wrap64 (500 + x5_1))), (17, 44, .bool (t268 != (wrap64 (500 + x5_1)))), (18, 45, .bool (t268 != (wrap64 (500 + x5_1)))), (19, 46, .bool (t268 != (wrap64 (500 + x5_1)))), (20, 47, v270), (21, 48, .pointer (some ⟨gb257, 0, none⟩)), (22, 49, .slice (some ad267) t254.length co17), (23, 50, v273), (24, 51, .pointer (some ⟨gb257, 0, none⟩)), (25, 52, .slice (some ad267) t254.length co17), (26, 53, .int .i64 x5_1), (27, 54, .pointer (some (ad267.add ((x5_1).toNat * 2)))), (28, 55, .agg #[.int .i64 ((rd_T27 t254 x5_1).f0), .int .i64 ((rd_T27 t254 x5_1).f1)]), (29, 56, v277), (30, 57, v280), (31, 58, m31_), (32, 59, .bool false), (33, 60, .bool false)] ∧ (Kd.R k27 27 w' w.heap.size (fun _ => True) (.slice (some ad267) t254.length co17) t254) ∧ (w'.heap[gb257]? = some (.cells #[.slice (some ad267) t254.length co17] 32 (0, 0))) ∧ (Below w.heap.size w w') ∧ (b 20 = true → b 23 = false → Kd.R k27 27 w' w.heap.size (fun k_ => some k_ ≠ (.slice (some ad267) t254.length co17 : Value).ownBlock) v270 y269) ∧ (b 23 = true → b 30 = false → Kd.R k27 27 w' w.heap.size (fun k_ => some k_ ≠ (.slice (some ad267) t254.length co17 : Value).ownBlock) v273 y272) ∧ (b 29 = true → Kd.R k27 27 w' w.heap.size (fun k_ => some k_ ≠ (.slice (some ad267) t254.length co17 : Value).ownBlock) v277 y276) ∧ (b 30 = true → Kd.R k27 27 w' w.heap.size (fun k_ => some k_ ≠ (.slice (some ad267) t254.length co17 : Value).ownBlock) v280 y279) ∧ (b 31 = true → (m31_ : Value) = .agg #[v280]) ∧ (b 29 = true → (b 20 = true → b 23 = false → ApartV v270 v277) ∧ (b 23 = true → b 30 = false → ApartV v273 v277))) HT_.out HW_.out (by kernel_rfl) (by kernel_rfl) ?_ ?_ ?_
                            · exact ⟨.bool false, .bool false, .bool false, .bool false, .bool false, by simp only [putSel, Bool.false_eq_true, if_false], HO_258000.out, BK257.out, HB.out, fun h_ => absurd h_ (by decide), fun h_ => absurd h_ (by decide), fun h_ => absurd h_ (by decide), fun h_ => absurd h_ (by decide), fun h_ => absurd h_ (by decide), fun h_ => absurd h_ (by decide)⟩
                            · skip
                              clear BK257 HB HO_258000
                              refine steps_cons ?_ ?_
                              · rintro b a w' ⟨v270, v273, v277, v280, m31_, ha, Q_HO_258000, Q_BK257, Q_HB, Q_HO271, Q_HO274, Q_HO278, Q_HO281, Q_X31_, Q_XA_⟩ hb_ hon hoff
                                refine ⟨_, rfl, fun K hK => ?_⟩
                                have e27 : a.tmps[27]? = some (.pointer (some ⟨gb257, 0, none⟩)) := by rw [ha]; exact (putSel_off rfl).trans rfl
                                replace ha := Aside0.mk ha
                                have HO_258000 := Aside0.mk Q_HO_258000
                                have BK257 := Aside0.mk Q_BK257
                                have HB := Aside0.mk Q_HB
                                have hc0_ : w'.cell? ⟨gb257, 0, none⟩ = some (.slice (some ad267) t254.length co17) := (blk_cell BK257.out 0).trans rfl
                                refine value_ (w1 := w') (v := .slice (some ad267) t254.length co17) (by rfl) rfl ?_ ?_
                                · go_simp
                                  (try simp only [i64_w])
                                  try rfl
                                refine hK.out _ _ ⟨v270, v273, v277, v280, m31_, (by rw [ha.out]; exact putSel_upk 0 hb_ rfl rfl rfl), Q_HO_258000, Q_BK257, Q_HB, fun h0_ _ => absurd ((hoff 20 (by kernel_rfl)).symm.trans h0_) (by decide), fun h0_ _ => absurd ((hoff 23 (by kernel_rfl)).symm.trans h0_) (by decide), fun h0_ => absurd ((hoff 29 (by kernel_rfl)).symm.trans h0_) (by decide), fun h0_ => absurd ((hoff 30 (by kernel_rfl)).symm.trans h0_) (by decide), fun h0_ => absurd ((hoff 31 (by kernel_rfl)).symm.trans h0_) (by decide), Q_XA_⟩
                              refine steps_cons ?_ ?_
                              · rintro b a w' ⟨v270, v273, v277, v280, m31_, ha, Q_HO_258000, Q_BK257, Q_HB, Q_HO271, Q_HO274, Q_HO278, Q_HO281, Q_X31_, Q_XA_⟩ hb_ hon hoff
                                refine ⟨_, rfl, fun K hK => ?_⟩
                                have e28 : a.tmps[28]? = some (.slice (some ad267) t254.length co17) := by rw [ha]; exact putSel_on (e := (1, 28, .slice (some ad267) t254.length co17)) 0 rfl rfl (hon 1 (by kernel_rfl)) rfl
                                have e29 : a.tmps[29]? = some (.int .i64 x5_1) := by rw [ha]; exact (putSel_off rfl).trans rfl
                                replace ha := Aside0.mk ha
                                have HO_258000 := Aside0.mk Q_HO_258000
                                have BK257 := Aside0.mk Q_BK257
                                have HB := Aside0.mk Q_HB
                                refine value_ (w1 := w') (v := .slice (some ad267) y262.length co17) (by rfl) rfl ?_ ?_
                                · go_simp
                                  (try simp only [i64_w])
                                  try rfl
                                refine hK.out _ _ ⟨v270, v273, v277, v280, m31_, (by rw [ha.out]; exact putSel_upk 1 hb_ rfl rfl rfl), Q_HO_258000, Q_BK257, Q_HB, fun h0_ _ => absurd ((hoff 20 (by kernel_rfl)).symm.trans h0_) (by decide), fun h0_ _ => absurd ((hoff 23 (by kernel_rfl)).symm.trans h0_) (by decide), fun h0_ => absurd ((hoff 29 (by kernel_rfl)).symm.trans h0_) (by decide), fun h0_ => absurd ((hoff 30 (by kernel_rfl)).symm.trans h0_) (by decide), fun h0_ => absurd ((hoff 31 (by kernel_rfl)).symm.trans h0_) (by decide), Q_XA_⟩
                              refine steps_cons ?_ ?_
                              · rintro b a w' ⟨v270, v273, v277, v280, m31_, ha, Q_HO_258000, Q_BK257, Q_HB, Q_HO271, Q_HO274, Q_HO278, Q_HO281, Q_X31_, Q_XA_⟩ hb_ hon hoff
                                refine ⟨_, rfl, fun K hK => ?_⟩
                                have e30 : a.tmps[30]? = some (.slice (some ad267) y262.length co17) := by rw [ha]; exact putSel_on (e := (3, 30, .slice (some ad267) y262.length co17)) 1 rfl rfl (hon 3 (by kernel_rfl)) rfl
                                replace ha := Aside0.mk ha
                                have HO_258000 := Aside0.mk Q_HO_258000
                                have BK257 := Aside0.mk Q_BK257
                                have HB := Aside0.mk Q_HB
                                refine value_ (w1 := w') (v := .agg #[.slice (some ad267) y262.length co17]) (by rfl) rfl ?_ ?_
                                · go_simp
                                  (try simp only [i64_w])
                                  try rfl
                                refine hK.out _ _ ⟨v270, v273, v277, v280, m31_, (by rw [ha.out]; exact putSel_upk 2 hb_ rfl rfl rfl), Q_HO_258000, Q_BK257, Q_HB, fun h0_ _ => absurd ((hoff 20 (by kernel_rfl)).symm.trans h0_) (by decide), fun h0_ _ => absurd ((hoff 23 (by kernel_rfl)).symm.trans h0_) (by decide), fun h0_ => absurd ((hoff 29 (by kernel_rfl)).symm.trans h0_) (by decide), fun h0_ => absurd ((hoff 30 (by kernel_rfl)).symm.trans h0_) (by decide), fun h0_ => absurd ((hoff 31 (by kernel_rfl)).symm.trans h0_) (by decide), Q_XA_⟩
                              refine steps_cons ?_ ?_
                              · rintro b a w' ⟨v270, v273, v277, v280, m31_, ha, Q_HO_258000, Q_BK257, Q_HB, Q_HO271, Q_HO274, Q_HO278, Q_HO281, Q_X31_, Q_XA_⟩ hb_ hon hoff
                                refine ⟨_, rfl, fun K hK => ?_⟩
                                have e31 : a.tmps[31]? = some (.agg #[.slice (some ad267) y262.length co17]) := by rw [ha]; exact putSel_on (e := (4, 31, .agg #[.slice (some ad267) y262.length co17])) 2 rfl rfl (hon 4 (by kernel_rfl)) rfl
                                replace ha := Aside0.mk ha
                                have HO_258000 := Aside0.mk Q_HO_258000
                                have HR265 := Aside0.mk (show Kd.C k27 w' (some ad267) y262.length y262 from by have h_ := Kd.C_take (m := (x5_1 : Int).toNat) (Kd.R_reads' HO_258000.out).2.2 KL51.out; rw [← Ny262.out] at h_; exact h_)
                                have BK257 := Aside0.mk Q_BK257
                                have HB := Aside0.mk Q_HB
                                refine goes_ Try.func18 (by kernel_rfl) rfl #[.agg #[.slice (some ad267) y262.length co17]] (by rfl) rfl rfl (by first | (simp only [List.map_toArray, List.map_cons, List.map_nil, Act.eval, Array.getD_eq_getD_getElem?, Option.getD_some, e31]; done) | (simp only [List.map_toArray, List.map_cons, List.map_nil, Act.eval, Array.getD_eq_getD_getElem?, Option.getD_some, e31]; rfl)) ?_
                                with_reducible refine (impl_MapOk.calls k1 _ _ y262 true _ ?side1 ?side2 A25.out).mono ?_
                                (case side1 => repeat (first | exact (by repeat (first | (with_reducible exact HR265.out) | (with_reducible refine Kd.C_alloc ?_ _) | (with_reducible refine Kd.C_drewN ?_ _) | (with_reducible refine Kd.C_drew ?_) | exact HR265.out)) | (with_reducible refine Kd.C_alloc ?_ _) | (with_reducible refine Kd.C_drewN ?_ _) | (with_reducible refine Kd.C_drew ?_)))
                                (case side2 => exact HC265.out)
                                rintro e w52 ⟨rfl, hb⟩
                                refine ⟨_, rfl, ?_⟩
                                have n0_ := Aside0.mk (Kd.R_below (by (with_reducible repeat (first | apply Kd.R_alloc | apply Kd.R_drewN | apply Kd.R_drew)); exact HO_258000.out) hb)
                                have n1_ := Aside0.mk (blk_below (g := gb257) (o := .cells #[.slice (some ad267) t254.length co17] 32 (0, 0)) (by (with_reducible repeat (first | refine blk_drewN ?_ _ | refine blk_drew ?_ | refine blk_alloc ?_ _)); exact BK257.out) hb)
                                have n2_ := Aside0.mk (Kd.C_below (by repeat (first | (with_reducible exact HR265.out) | (with_reducible refine Kd.C_alloc ?_ _) | (with_reducible refine Kd.C_drewN ?_ _) | (with_reducible refine Kd.C_drew ?_) | exact HR265.out)) hb)
                                have n3_ := Aside0.mk (below_step (by repeat (first | (with_reducible first | exact HB.out | apply below_alloc | apply pw_below_drewN | apply below_drew1 | refine below_set ?_ GE257.out) | exact HB.out)) hb)
                                clear HO_258000
                                clear BK257
                                clear HR265
                                clear HB
                                have HO_258000 := n0_
                                have BK257 := n1_
                                have HR265 := n2_
                                have HB := n3_
                                clear n0_ n1_ n2_ n3_
                                (try clear hb)
                                (try clear hb2)
                                (try clear hk)
                                (try clear hi)
                                refine hK.out _ _ ⟨v270, v273, v277, v280, m31_, (by rw [ha.out]; exact putSel_upk 3 hb_ rfl rfl rfl), (by (with_reducible repeat (first | apply Kd.R_alloc | apply Kd.R_drewN | apply Kd.R_drew)); exact HO_258000.out), (by (with_reducible repeat (first | refine blk_drewN ?_ _ | refine blk_drew ?_ | refine blk_alloc ?_ _)); exact BK257.out), (by repeat (first | (with_reducible first | exact HB.out | apply below_alloc | apply pw_below_drewN | apply below_drew1 | refine below_set ?_ GE257.out) | exact HB.out)), fun h0_ _ => absurd ((hoff 20 (by kernel_rfl)).symm.trans h0_) (by decide), fun h0_ _ => absurd ((hoff 23 (by kernel_rfl)).symm.trans h0_) (by decide), fun h0_ => absurd ((hoff 29 (by kernel_rfl)).symm.trans h0_) (by decide), fun h0_ => absurd ((hoff 30 (by kernel_rfl)).symm.trans h0_) (by decide), fun h0_ => absurd ((hoff 31 (by kernel_rfl)).symm.trans h0_) (by decide), Q_XA_⟩
                              refine steps_cons ?_ ?_
                              · rintro b a w' ⟨v270, v273, v277, v280, m31_, ha, Q_HO_258000, Q_BK257, Q_HB, Q_HO271, Q_HO274, Q_HO278, Q_HO281, Q_X31_, Q_XA_⟩ hb_ hon hoff
                                refine ⟨_, rfl, fun K hK => ?_⟩
                                have e32 : a.tmps[32]? = some (.bool true) := by rw [ha]; exact putSel_on (e := (5, 32, .bool true)) 3 rfl rfl (hon 5 (by kernel_rfl)) rfl
                                replace ha := Aside0.mk ha
                                have HO_258000 := Aside0.mk Q_HO_258000
                                have BK257 := Aside0.mk Q_BK257
                                have HB := Aside0.mk Q_HB
                                refine value_ (w1 := w') (v := .bool (!true)) (by rfl) rfl ?_ ?_
                                · go_simp
                                  (try simp only [i64_w])
                                  try rfl
                                refine hK.out _ _ ⟨v270, v273, v277, v280, m31_, (by rw [ha.out]; exact putSel_upk 4 hb_ rfl rfl rfl), Q_HO_258000, Q_BK257, Q_HB, fun h0_ _ => absurd ((hoff 20 (by kernel_rfl)).symm.trans h0_) (by decide), fun h0_ _ => absurd ((hoff 23 (by kernel_rfl)).symm.trans h0_) (by decide), fun h0_ => absurd ((hoff 29 (by kernel_rfl)).symm.trans h0_) (by decide), fun h0_ => absurd ((hoff 30 (by kernel_rfl)).symm.trans h0_) (by decide), fun h0_ => absurd ((hoff 31 (by kernel_rfl)).symm.trans h0_) (by decide), Q_XA_⟩
                              refine steps_cons ?_ ?_
                              · rintro b a w' ⟨v270, v273, v277, v280, m31_, ha, Q_HO_258000, Q_BK257, Q_HB, Q_HO271, Q_HO274, Q_HO278, Q_HO281, Q_X31_, Q_XA_⟩ hb_ hon hoff
                                refine ⟨_, rfl, fun K hK => ?_⟩
                                have e33 : a.tmps[33]? = some (.bool (!true)) := by rw [ha]; exact putSel_on (e := (6, 33, .bool (!true))) 4 rfl rfl (hon 6 (by kernel_rfl)) rfl
                                replace ha := Aside0.mk ha
                                have HO_258000 := Aside0.mk Q_HO_258000
                                have BK257 := Aside0.mk Q_BK257
                                have HB := Aside0.mk Q_HB
                                refine value_ (w1 := w') (v := .bool (!true)) (by rfl) rfl ?_ ?_
                                · go_simp
                                  (try simp only [i64_w])
                                  try rfl
                                refine hK.out _ _ ⟨v270, v273, v277, v280, m31_, (by rw [ha.out]; exact putSel_upk 5 hb_ rfl rfl rfl), Q_HO_258000, Q_BK257, Q_HB, fun h0_ _ => absurd ((hoff 20 (by kernel_rfl)).symm.trans h0_) (by decide), fun h0_ _ => absurd ((hoff 23 (by kernel_rfl)).symm.trans h0_) (by decide), fun h0_ => absurd ((hoff 29 (by kernel_rfl)).symm.trans h0_) (by decide), fun h0_ => absurd ((hoff 30 (by kernel_rfl)).symm.trans h0_) (by decide), fun h0_ => absurd ((hoff 31 (by kernel_rfl)).symm.trans h0_) (by decide), Q_XA_⟩
                              refine steps_cons ?_ ?_
                              · rintro b a w' ⟨v270, v273, v277, v280, m31_, ha, Q_HO_258000, Q_BK257, Q_HB, Q_HO271, Q_HO274, Q_HO278, Q_HO281, Q_X31_, Q_XA_⟩ hb_ hon hoff
                                refine ⟨_, rfl, fun K hK => ?_⟩
                                have e3 : a.tmps[3]? = some (.pointer (some ⟨gb257, 0, none⟩)) := by rw [ha]; exact (putSel_off rfl).trans rfl
                                have e34 : a.tmps[34]? = some (.bool (!true)) := by rw [ha]; exact putSel_on (e := (7, 34, .bool (!true))) 5 rfl rfl (hon 7 (by kernel_rfl)) rfl
                                replace ha := Aside0.mk ha
                                have HO_258000 := Aside0.mk Q_HO_258000
                                have BK257 := Aside0.mk Q_BK257
                                have HB := Aside0.mk Q_HB
                                have hc0_ : w'.cell? ⟨gb257, 0, none⟩ = some (.slice (some ad267) t254.length co17) := (blk_cell BK257.out 0).trans rfl
                                refine value_ (w1 := w') (v := .agg #[.slice (some ad267) t254.length co17]) (wanted_on rfl rfl rfl (e34.trans (by first | rfl | (simp [*]; done)))) rfl ?_ ?_
                                · go_simp
                                  (try simp only [i64_w])
                                  try rfl
                                refine hK.out _ _ ⟨v270, v273, v277, v280, m31_, (by rw [ha.out]; exact putSel_upk 6 hb_ rfl rfl rfl), Q_HO_258000, Q_BK257, Q_HB, fun h0_ _ => absurd ((hoff 20 (by kernel_rfl)).symm.trans h0_) (by decide), fun h0_ _ => absurd ((hoff 23 (by kernel_rfl)).symm.trans h0_) (by decide), fun h0_ => absurd ((hoff 29 (by kernel_rfl)).symm.trans h0_) (by decide), fun h0_ => absurd ((hoff 30 (by kernel_rfl)).symm.trans h0_) (by decide), fun h0_ => absurd ((hoff 31 (by kernel_rfl)).symm.trans h0_) (by decide), Q_XA_⟩
                              refine steps_cons ?_ ?_
                              · rintro b a w' ⟨v270, v273, v277, v280, m31_, ha, Q_HO_258000, Q_BK257, Q_HB, Q_HO271, Q_HO274, Q_HO278, Q_HO281, Q_X31_, Q_XA_⟩ hb_ hon hoff
                                refine ⟨_, rfl, fun K hK => ?_⟩
                                have e3 : a.tmps[3]? = some (.pointer (some ⟨gb257, 0, none⟩)) := by rw [ha]; exact (putSel_off rfl).trans rfl
                                have e34 : a.tmps[34]? = some (.bool (!true)) := by rw [ha]; exact putSel_on (e := (7, 34, .bool (!true))) 5 rfl rfl (hon 7 (by kernel_rfl)) rfl
                                replace ha := Aside0.mk ha
                                have HO_258000 := Aside0.mk Q_HO_258000
                                have BK257 := Aside0.mk Q_BK257
                                have HB := Aside0.mk Q_HB
                                refine value_ (w1 := w') (v := .pointer (some ⟨gb257, 0, none⟩)) (wanted_on rfl rfl rfl (e34.trans (by first | rfl | (simp [*]; done)))) rfl ?_ ?_
                                · go_simp
                                  (try simp only [i64_w])
                                  try rfl
                                refine hK.out _ _ ⟨v270, v273, v277, v280, m31_, (by rw [ha.out]; exact putSel_upk 7 hb_ rfl rfl rfl), Q_HO_258000, Q_BK257, Q_HB, fun h0_ _ => absurd ((hoff 20 (by kernel_rfl)).symm.trans h0_) (by decide), fun h0_ _ => absurd ((hoff 23 (by kernel_rfl)).symm.trans h0_) (by decide), fun h0_ => absurd ((hoff 29 (by kernel_rfl)).symm.trans h0_) (by decide), fun h0_ => absurd ((hoff 30 (by kernel_rfl)).symm.trans h0_) (by decide), fun h0_ => absurd ((hoff 31 (by kernel_rfl)).symm.trans h0_) (by decide), Q_XA_⟩
                              refine steps_cons ?_ ?_
                              · rintro b a w' ⟨v270, v273, v277, v280, m31_, ha, Q_HO_258000, Q_BK257, Q_HB, Q_HO271, Q_HO274, Q_HO278, Q_HO281, Q_X31_, Q_XA_⟩ hb_ hon hoff
                                refine ⟨_, rfl, fun K hK => ?_⟩
                                have e36 : a.tmps[36]? = some (.pointer (some ⟨gb257, 0, none⟩)) := by rw [ha]; exact putSel_on (e := (9, 36, .pointer (some ⟨gb257, 0, none⟩))) 7 rfl rfl (hon 9 (by kernel_rfl)) rfl
                                have e34 : a.tmps[34]? = some (.bool (!true)) := by rw [ha]; exact putSel_on (e := (7, 34, .bool (!true))) 5 rfl rfl (hon 7 (by kernel_rfl)) rfl
                                replace ha := Aside0.mk ha
                                have HO_258000 := Aside0.mk Q_HO_258000
                                have BK257 := Aside0.mk Q_BK257
                                have HB := Aside0.mk Q_HB
                                have hc0_ : w'.cell? ⟨gb257, 0, none⟩ = some (.slice (some ad267) t254.length co17) := (blk_cell BK257.out 0).trans rfl
                                refine value_ (w1 := w') (v := .slice (some ad267) t254.length co17) (wanted_on rfl rfl rfl (e34.trans (by first | rfl | (simp [*]; done)))) rfl ?_ ?_
                                · go_simp
                                  (try simp only [i64_w])
                                  try rfl
                                refine hK.out _ _ ⟨v270, v273, v277, v280, m31_, (by rw [ha.out]; exact putSel_upk 8 hb_ rfl rfl rfl), Q_HO_258000, Q_BK257, Q_HB, fun h0_ _ => absurd ((hoff 20 (by kernel_rfl)).symm.trans h0_) (by decide), fun h0_ _ => absurd ((hoff 23 (by kernel_rfl)).symm.trans h0_) (by decide), fun h0_ => absurd ((hoff 29 (by kernel_rfl)).symm.trans h0_) (by decide), fun h0_ => absurd ((hoff 30 (by kernel_rfl)).symm.trans h0_) (by decide), fun h0_ => absurd ((hoff 31 (by kernel_rfl)).symm.trans h0_) (by decide), Q_XA_⟩
                              refine steps_cons ?_ ?_
                              · rintro b a w' ⟨v270, v273, v277, v280, m31_, ha, Q_HO_258000, Q_BK257, Q_HB, Q_HO271, Q_HO274, Q_HO278, Q_HO281, Q_X31_, Q_XA_⟩ hb_ hon hoff
                                refine ⟨_, rfl, fun K hK => ?_⟩
                                have e5 : a.tmps[5]? = some (.int .i64 x5_1) := by rw [ha]; exact (putSel_off rfl).trans rfl
                                have e34 : a.tmps[34]? = some (.bool (!true)) := by rw [ha]; exact putSel_on (e := (7, 34, .bool (!true))) 5 rfl rfl (hon 7 (by kernel_rfl)) rfl
                                replace ha := Aside0.mk ha
                                have HO_258000 := Aside0.mk Q_HO_258000
                                have BK257 := Aside0.mk Q_BK257
                                have HB := Aside0.mk Q_HB
                                refine value_ (w1 := w') (v := .int .i64 x5_1) (wanted_on rfl rfl rfl (e34.trans (by first | rfl | (simp [*]; done)))) rfl ?_ ?_
                                · go_simp
                                  (try simp only [i64_w])
                                  try rfl
                                refine hK.out _ _ ⟨v270, v273, v277, v280, m31_, (by rw [ha.out]; exact putSel_upk 9 hb_ rfl rfl rfl), Q_HO_258000, Q_BK257, Q_HB, fun h0_ _ => absurd ((hoff 20 (by kernel_rfl)).symm.trans h0_) (by decide), fun h0_ _ => absurd ((hoff 23 (by kernel_rfl)).symm.trans h0_) (by decide), fun h0_ => absurd ((hoff 29 (by kernel_rfl)).symm.trans h0_) (by decide), fun h0_ => absurd ((hoff 30 (by kernel_rfl)).symm.trans h0_) (by decide), fun h0_ => absurd ((hoff 31 (by kernel_rfl)).symm.trans h0_) (by decide), Q_XA_⟩
                              refine steps_cons ?_ ?_
                              · rintro b a w' ⟨v270, v273, v277, v280, m31_, ha, Q_HO_258000, Q_BK257, Q_HB, Q_HO271, Q_HO274, Q_HO278, Q_HO281, Q_X31_, Q_XA_⟩ hb_ hon hoff
                                refine ⟨_, rfl, fun K hK => ?_⟩
                                have e37 : a.tmps[37]? = some (.slice (some ad267) t254.length co17) := by rw [ha]; exact putSel_on (e := (10, 37, .slice (some ad267) t254.length co17)) 8 rfl rfl (hon 10 (by kernel_rfl)) rfl
                                have e38 : a.tmps[38]? = some (.int .i64 x5_1) := by rw [ha]; exact putSel_on (e := (11, 38, .int .i64 x5_1)) 9 rfl rfl (hon 11 (by kernel_rfl)) rfl
                                have e34 : a.tmps[34]? = some (.bool (!true)) := by rw [ha]; exact putSel_on (e := (7, 34, .bool (!true))) 5 rfl rfl (hon 7 (by kernel_rfl)) rfl
                                replace ha := Aside0.mk ha
                                have HO_258000 := Aside0.mk Q_HO_258000
                                have BK257 := Aside0.mk Q_BK257
                                have HB := Aside0.mk Q_HB
                                refine value_ (w1 := w') (v := .pointer (some (ad267.add ((x5_1).toNat * 2)))) (wanted_on rfl rfl rfl (e34.trans (by first | rfl | (simp [*]; done)))) rfl ?_ ?_
                                · go_simp
                                  (try simp only [i64_w])
                                  try rfl
                                refine hK.out _ _ ⟨v270, v273, v277, v280, m31_, (by rw [ha.out]; exact putSel_upk 10 hb_ rfl rfl rfl), Q_HO_258000, Q_BK257, Q_HB, fun h0_ _ => absurd ((hoff 20 (by kernel_rfl)).symm.trans h0_) (by decide), fun h0_ _ => absurd ((hoff 23 (by kernel_rfl)).symm.trans h0_) (by decide), fun h0_ => absurd ((hoff 29 (by kernel_rfl)).symm.trans h0_) (by decide), fun h0_ => absurd ((hoff 30 (by kernel_rfl)).symm.trans h0_) (by decide), fun h0_ => absurd ((hoff 31 (by kernel_rfl)).symm.trans h0_) (by decide), Q_XA_⟩
                              refine steps_cons ?_ ?_
                              · rintro b a w' ⟨v270, v273, v277, v280, m31_, ha, Q_HO_258000, Q_BK257, Q_HB, Q_HO271, Q_HO274, Q_HO278, Q_HO281, Q_X31_, Q_XA_⟩ hb_ hon hoff
                                refine ⟨_, rfl, fun K hK => ?_⟩
                                have e39 : a.tmps[39]? = some (.pointer (some (ad267.add ((x5_1).toNat * 2)))) := by rw [ha]; exact putSel_on (e := (12, 39, .pointer (some (ad267.add ((x5_1).toNat * 2))))) 10 rfl rfl (hon 12 (by kernel_rfl)) rfl
                                have e34 : a.tmps[34]? = some (.bool (!true)) := by rw [ha]; exact putSel_on (e := (7, 34, .bool (!true))) 5 rfl rfl (hon 7 (by kernel_rfl)) rfl
                                replace ha := Aside0.mk ha
                                have HO_258000 := Aside0.mk Q_HO_258000
                                have BK257 := Aside0.mk Q_BK257
                                have HB := Aside0.mk Q_HB
                                obtain ⟨ad267_z, e267_z, hx267_0_z, hx267_1_z⟩ := at_T27 (Kd.R_reads' HO_258000.out).2.2 x5_1 (of_eq_true p267) (of_eq_true q267)
                                cases e267_z
                                have hs0_ : w'.cell? (ad267.add ((x5_1).toNat * 2)) = some (.int .i64 ((rd_T27 t254 x5_1).f0)) := (by first | exact hx267_0_z | (have h_ := hx267_0_z; (try simp only [Int.reduceToNat, Nat.zero_mul, Nat.reduceMul, Nat.reduceEqDiff, Go.Addr.add, ↓reduceIte, Addr.add_zero'] at h_); exact h_))
                                have hs1_ : w'.cell? ⟨(ad267.add ((x5_1).toNat * 2)).block, (ad267.add ((x5_1).toNat * 2)).off + 1, none⟩ = some (.int .i64 ((rd_T27 t254 x5_1).f1)) := (by first | exact hx267_1_z | (have h_ := hx267_1_z; (try simp only [Int.reduceToNat, Nat.zero_mul, Nat.reduceMul, Nat.reduceEqDiff, Go.Addr.add, ↓reduceIte, Addr.add_zero'] at h_); exact h_))
                                refine value_ (w1 := w') (v := .agg #[.int .i64 ((rd_T27 t254 x5_1).f0), .int .i64 ((rd_T27 t254 x5_1).f1)]) (wanted_on rfl rfl rfl (e34.trans (by first | rfl | (simp [*]; done)))) rfl ?_ ?_
                                · go_simp
                                  (try simp only [i64_w])
                                  try rfl
                                refine hK.out _ _ ⟨v270, v273, v277, v280, m31_, (by rw [ha.out]; exact putSel_upk 11 hb_ rfl rfl rfl), Q_HO_258000, Q_BK257, Q_HB, fun h0_ _ => absurd ((hoff 20 (by kernel_rfl)).symm.trans h0_) (by decide), fun h0_ _ => absurd ((hoff 23 (by kernel_rfl)).symm.trans h0_) (by decide), fun h0_ => absurd ((hoff 29 (by kernel_rfl)).symm.trans h0_) (by decide), fun h0_ => absurd ((hoff 30 (by kernel_rfl)).symm.trans h0_) (by decide), fun h0_ => absurd ((hoff 31 (by kernel_rfl)).symm.trans h0_) (by decide), Q_XA_⟩
                              refine steps_cons ?_ ?_
                              · rintro b a w' ⟨v270, v273, v277, v280, m31_, ha, Q_HO_258000, Q_BK257, Q_HB, Q_HO271, Q_HO274, Q_HO278, Q_HO281, Q_X31_, Q_XA_⟩ hb_ hon hoff
                                refine ⟨_, rfl, fun K hK => ?_⟩
                                have e35 : a.tmps[35]? = some (.agg #[.slice (some ad267) t254.length co17]) := by rw [ha]; exact putSel_on (e := (8, 35, .agg #[.slice (some ad267) t254.length co17])) 6 rfl rfl (hon 8 (by kernel_rfl)) rfl
                                have e40 : a.tmps[40]? = some (.agg #[.int .i64 ((rd_T27 t254 x5_1).f0), .int .i64 ((rd_T27 t254 x5_1).f1)]) := by rw [ha]; exact putSel_on (e := (13, 40, .agg #[.int .i64 ((rd_T27 t254 x5_1).f0), .int .i64 ((rd_T27 t254 x5_1).f1)])) 11 rfl rfl (hon 13 (by kernel_rfl)) rfl
                                have e34 : a.tmps[34]? = some (.bool (!true)) := by rw [ha]; exact putSel_on (e := (7, 34, .bool (!true))) 5 rfl rfl (hon 7 (by kernel_rfl)) rfl
                                replace ha := Aside0.mk ha
                                have HO_258000 := Aside0.mk Q_HO_258000
                                have BK257 := Aside0.mk Q_BK257
                                have HB := Aside0.mk Q_HB
                                refine goes_ Try.func16 (by kernel_rfl) rfl #[.agg #[.slice (some ad267) t254.length co17], .agg #[.int .i64 ((rd_T27 t254 x5_1).f0), .int .i64 ((rd_T27 t254 x5_1).f1)]] (wanted_on rfl rfl rfl (e34.trans (by first | rfl | (simp [*]; done)))) rfl rfl (by first | (simp only [List.map_toArray, List.map_cons, List.map_nil, Act.eval, Array.getD_eq_getD_getElem?, Option.getD_some, e35, e40, e34]; done) | (simp only [List.map_toArray, List.map_cons, List.map_nil, Act.eval, Array.getD_eq_getD_getElem?, Option.getD_some, e35, e40, e34]; rfl)) ?_
                                with_reducible refine (impl_MapPort.calls k1 _ _ t254 ((rd_T27 t254 x5_1).f0) ((rd_T27 t254 x5_1).f1) t268 _ ?side1 ?side2 A27.out).mono ?_
                                (case side1 => repeat (first | exact (Kd.R_reads' HO_258000.out).2.2 | (with_reducible refine Kd.C_alloc ?_ _) | (with_reducible refine Kd.C_drewN ?_ _) | (with_reducible refine Kd.C_drew ?_)))
                                (case side2 => exact (Kd.R_reads' HO_258000.out).2.1)
                                rintro e w54 ⟨rfl, hb⟩
                                refine ⟨_, rfl, ?_⟩
                                have n0_ := Aside0.mk (Kd.R_below (by (with_reducible repeat (first | apply Kd.R_alloc | apply Kd.R_drewN | apply Kd.R_drew)); exact HO_258000.out) hb)
                                have n1_ := Aside0.mk (blk_below (g := gb257) (o := .cells #[.slice (some ad267) t254.length co17] 32 (0, 0)) (by (with_reducible repeat (first | refine blk_drewN ?_ _ | refine blk_drew ?_ | refine blk_alloc ?_ _)); exact BK257.out) hb)
                                have n2_ := Aside0.mk (below_step (by repeat (first | (with_reducible first | exact HB.out | apply below_alloc | apply pw_below_drewN | apply below_drew1 | refine below_set ?_ GE257.out) | exact HB.out)) hb)
                                clear HO_258000
                                clear BK257
                                clear HB
                                have HO_258000 := n0_
                                have BK257 := n1_
                                have HB := n2_
                                clear n0_ n1_ n2_
                                (try clear hb)
                                (try clear hb2)
                                (try clear hk)
                                (try clear hi)
                                refine hK.out _ _ ⟨v270, v273, v277, v280, m31_, (by rw [ha.out]; exact putSel_upk 12 hb_ rfl rfl rfl), (by (with_reducible repeat (first | apply Kd.R_alloc | apply Kd.R_drewN | apply Kd.R_drew)); exact HO_258000.out), (by (with_reducible repeat (first | refine blk_drewN ?_ _ | refine blk_drew ?_ | refine blk_alloc ?_ _)); exact BK257.out), (by repeat (first | (with_reducible first | exact HB.out | apply below_alloc | apply pw_below_drewN | apply below_drew1 | refine below_set ?_ GE257.out) | exact HB.out)), fun h0_ _ => absurd ((hoff 20 (by kernel_rfl)).symm.trans h0_) (by decide), fun h0_ _ => absurd ((hoff 23 (by kernel_rfl)).symm.trans h0_) (by decide), fun h0_ => absurd ((hoff 29 (by kernel_rfl)).symm.trans h0_) (by decide), fun h0_ => absurd ((hoff 30 (by kernel_rfl)).symm.trans h0_) (by decide), fun h0_ => absurd ((hoff 31 (by kernel_rfl)).symm.trans h0_) (by decide), Q_XA_⟩
                              refine steps_cons ?_ ?_
                              · rintro b a w' ⟨v270, v273, v277, v280, m31_, ha, Q_HO_258000, Q_BK257, Q_HB, Q_HO271, Q_HO274, Q_HO278, Q_HO281, Q_X31_, Q_XA_⟩ hb_ hon hoff
                                refine ⟨_, rfl, fun K hK => ?_⟩
                                have e5 : a.tmps[5]? = some (.int .i64 x5_1) := by rw [ha]; exact (putSel_off rfl).trans rfl
                                have e34 : a.tmps[34]? = some (.bool (!true)) := by rw [ha]; exact putSel_on (e := (7, 34, .bool (!true))) 5 rfl rfl (hon 7 (by kernel_rfl)) rfl
                                replace ha := Aside0.mk ha
                                have HO_258000 := Aside0.mk Q_HO_258000
                                have BK257 := Aside0.mk Q_BK257
                                have HB := Aside0.mk Q_HB
                                refine value_ (w1 := w') (v := .int .i64 x5_1) (wanted_on rfl rfl rfl (e34.trans (by first | rfl | (simp [*]; done)))) rfl ?_ ?_
                                · go_simp
                                  (try simp only [i64_w])
                                  try rfl
                                refine hK.out _ _ ⟨v270, v273, v277, v280, m31_, (by rw [ha.out]; exact putSel_upk 13 hb_ rfl rfl rfl), Q_HO_258000, Q_BK257, Q_HB, fun h0_ _ => absurd ((hoff 20 (by kernel_rfl)).symm.trans h0_) (by decide), fun h0_ _ => absurd ((hoff 23 (by kernel_rfl)).symm.trans h0_) (by decide), fun h0_ => absurd ((hoff 29 (by kernel_rfl)).symm.trans h0_) (by decide), fun h0_ => absurd ((hoff 30 (by kernel_rfl)).symm.trans h0_) (by decide), fun h0_ => absurd ((hoff 31 (by kernel_rfl)).symm.trans h0_) (by decide), Q_XA_⟩
                              refine steps_cons ?_ ?_
                              · rintro b a w' ⟨v270, v273, v277, v280, m31_, ha, Q_HO_258000, Q_BK257, Q_HB, Q_HO271, Q_HO274, Q_HO278, Q_HO281, Q_X31_, Q_XA_⟩ hb_ hon hoff
                                refine ⟨_, rfl, fun K hK => ?_⟩
                                have e42 : a.tmps[42]? = some (.int .i64 x5_1) := by rw [ha]; exact putSel_on (e := (15, 42, .int .i64 x5_1)) 13 rfl rfl (hon 15 (by kernel_rfl)) rfl
                                have e34 : a.tmps[34]? = some (.bool (!true)) := by rw [ha]; exact putSel_on (e := (7, 34, .bool (!true))) 5 rfl rfl (hon 7 (by kernel_rfl)) rfl
                                replace ha := Aside0.mk ha
                                have HO_258000 := Aside0.mk Q_HO_258000
                                have BK257 := Aside0.mk Q_BK257
                                have HB := Aside0.mk Q_HB
                                refine value_ (w1 := w') (v := .int .i64 (wrap64 (500 + x5_1))) (wanted_on rfl rfl rfl (e34.trans (by first | rfl | (simp [*]; done)))) rfl ?_ ?_
                                · go_simp
                                  (try simp only [i64_w])
                                  try rfl
                                refine hK.out _ _ ⟨v270, v273, v277, v280, m31_, (by rw [ha.out]; exact putSel_upk 14 hb_ rfl rfl rfl), Q_HO_258000, Q_BK257, Q_HB, fun h0_ _ => absurd ((hoff 20 (by kernel_rfl)).symm.trans h0_) (by decide), fun h0_ _ => absurd ((hoff 23 (by kernel_rfl)).symm.trans h0_) (by decide), fun h0_ => absurd ((hoff 29 (by kernel_rfl)).symm.trans h0_) (by decide), fun h0_ => absurd ((hoff 30 (by kernel_rfl)).symm.trans h0_) (by decide), fun h0_ => absurd ((hoff 31 (by kernel_rfl)).symm.trans h0_) (by decide), Q_XA_⟩
                              refine steps_cons ?_ ?_
                              · rintro b a w' ⟨v270, v273, v277, v280, m31_, ha, Q_HO_258000, Q_BK257, Q_HB, Q_HO271, Q_HO274, Q_HO278, Q_HO281, Q_X31_, Q_XA_⟩ hb_ hon hoff
                                refine ⟨_, rfl, fun K hK => ?_⟩
                                have e41 : a.tmps[41]? = some (.int .i64 t268) := by rw [ha]; exact putSel_on (e := (14, 41, .int .i64 t268)) 12 rfl rfl (hon 14 (by kernel_rfl)) rfl
                                have e43 : a.tmps[43]? = some (.int .i64 (wrap64 (500 + x5_1))) := by rw [ha]; exact putSel_on (e := (16, 43, .int .i64 (wrap64 (500 + x5_1)))) 14 rfl rfl (hon 16 (by kernel_rfl)) rfl
                                have e34 : a.tmps[34]? = some (.bool (!true)) := by rw [ha]; exact putSel_on (e := (7, 34, .bool (!true))) 5 rfl rfl (hon 7 (by kernel_rfl)) rfl
                                replace ha := Aside0.mk ha
                                have HO_258000 := Aside0.mk Q_HO_258000
                                have BK257 := Aside0.mk Q_BK257
                                have HB := Aside0.mk Q_HB
                                refine value_ (w1 := w') (v := .bool (t268 != (wrap64 (500 + x5_1)))) (wanted_on rfl rfl rfl (e34.trans (by first | rfl | (simp [*]; done)))) rfl ?_ ?_
                                · go_simp
                                  (try simp only [i64_w])
                                  try rfl
                                refine hK.out _ _ ⟨v270, v273, v277, v280, m31_, (by rw [ha.out]; exact putSel_upk 15 hb_ rfl rfl rfl), Q_HO_258000, Q_BK257, Q_HB, fun h0_ _ => absurd ((hoff 20 (by kernel_rfl)).symm.trans h0_) (by decide), fun h0_ _ => absurd ((hoff 23 (by kernel_rfl)).symm.trans h0_) (by decide), fun h0_ => absurd ((hoff 29 (by kernel_rfl)).symm.trans h0_) (by decide), fun h0_ => absurd ((hoff 30 (by kernel_rfl)).symm.trans h0_) (by decide), fun h0_ => absurd ((hoff 31 (by kernel_rfl)).symm.trans h0_) (by decide), Q_XA_⟩
                              refine steps_cons ?_ ?_
                              · rintro b a w' ⟨v270, v273, v277, v280, m31_, ha, Q_HO_258000, Q_BK257, Q_HB, Q_HO271, Q_HO274, Q_HO278, Q_HO281, Q_X31_, Q_XA_⟩ hb_ hon hoff
                                refine ⟨_, rfl, fun K hK => ?_⟩
                                have e34 : a.tmps[34]? = some (.bool (!true)) := by rw [ha]; exact putSel_on (e := (7, 34, .bool (!true))) 5 rfl rfl (hon 7 (by kernel_rfl)) rfl
                                have e44 : a.tmps[44]? = some (.bool (t268 != (wrap64 (500 + x5_1)))) := by rw [ha]; exact putSel_on (e := (17, 44, .bool (t268 != (wrap64 (500 + x5_1))))) 15 rfl rfl (hon 17 (by kernel_rfl)) rfl
                                replace ha := Aside0.mk ha
                                have HO_258000 := Aside0.mk Q_HO_258000
                                have BK257 := Aside0.mk Q_BK257
                                have HB := Aside0.mk Q_HB
                                refine value_ (w1 := w') (v := .bool (t268 != (wrap64 (500 + x5_1)))) (by rfl) rfl ?_ ?_
                                · go_simp
                                  (try simp only [i64_w])
                                  try rfl
                                refine hK.out _ _ ⟨v270, v273, v277, v280, m31_, (by rw [ha.out]; exact putSel_upk 16 hb_ rfl rfl rfl), Q_HO_258000, Q_BK257, Q_HB, fun h0_ _ => absurd ((hoff 20 (by kernel_rfl)).symm.trans h0_) (by decide), fun h0_ _ => absurd ((hoff 23 (by kernel_rfl)).symm.trans h0_) (by decide), fun h0_ => absurd ((hoff 29 (by kernel_rfl)).symm.trans h0_) (by decide), fun h0_ => absurd ((hoff 30 (by kernel_rfl)).symm.trans h0_) (by decide), fun h0_ => absurd ((hoff 31 (by kernel_rfl)).symm.trans h0_) (by decide), Q_XA_⟩
                              refine steps_cons ?_ ?_
                              · rintro b a w' ⟨v270, v273, v277, v280, m31_, ha, Q_HO_258000, Q_BK257, Q_HB, Q_HO271, Q_HO274, Q_HO278, Q_HO281, Q_X31_, Q_XA_⟩ hb_ hon hoff
                                refine ⟨_, rfl, fun K hK => ?_⟩
                                have e45 : a.tmps[45]? = some (.bool (t268 != (wrap64 (500 + x5_1)))) := by rw [ha]; exact putSel_on (e := (18, 45, .bool (t268 != (wrap64 (500 + x5_1))))) 16 rfl rfl (hon 18 (by kernel_rfl)) rfl
                                replace ha := Aside0.mk ha
                                have HO_258000 := Aside0.mk Q_HO_258000
                                have BK257 := Aside0.mk Q_BK257
                                have HB := Aside0.mk Q_HB
                                refine value_ (w1 := w') (v := .bool (t268 != (wrap64 (500 + x5_1)))) (by rfl) rfl ?_ ?_
                                · go_simp
                                  (try simp only [i64_w])
                                  try rfl
                                refine hK.out _ _ ⟨v270, v273, v277, v280, m31_, (by rw [ha.out]; exact putSel_upk 17 hb_ rfl rfl rfl), Q_HO_258000, Q_BK257, Q_HB, fun h0_ _ => absurd ((hoff 20 (by kernel_rfl)).symm.trans h0_) (by decide), fun h0_ _ => absurd ((hoff 23 (by kernel_rfl)).symm.trans h0_) (by decide), fun h0_ => absurd ((hoff 29 (by kernel_rfl)).symm.trans h0_) (by decide), fun h0_ => absurd ((hoff 30 (by kernel_rfl)).symm.trans h0_) (by decide), fun h0_ => absurd ((hoff 31 (by kernel_rfl)).symm.trans h0_) (by decide), Q_XA_⟩
                              refine steps_cons ?_ ?_
                              · rintro b a w' ⟨v270, v273, v277, v280, m31_, ha, Q_HO_258000, Q_BK257, Q_HB, Q_HO271, Q_HO274, Q_HO278, Q_HO281, Q_X31_, Q_XA_⟩ hb_ hon hoff
                                refine ⟨_, rfl, fun K hK => ?_⟩
                                have e46 : a.tmps[46]? = some (.bool (t268 != (wrap64 (500 + x5_1)))) := by rw [ha]; exact putSel_on (e := (19, 46, .bool (t268 != (wrap64 (500 + x5_1))))) 17 rfl rfl (hon 19 (by kernel_rfl)) rfl
                                replace ha := Aside0.mk ha
                                have HO_258000 := Aside0.mk Q_HO_258000
                                have BK257 := Aside0.mk Q_BK257
                                have HB := Aside0.mk Q_HB
                                refine Kd.R_lit_step k27 _ 27 ?hg (N := 47) ?hd (xs := ([] : List (S27))) (inner := []) (ok := fun _ => True) (okp := fun _ => True) ?hr ?hp (fun _ hk => hk) trivial (Below.refl _ _) (Nat.le_refl _) (by simp) ?_; (case hd => rfl); (case hg => exact (wanted_on rfl rfl rfl (e46.trans (by first | rfl | (simp [*]; done))))); (case hr => first | (go_simp; done) | (go_simp; rfl)); (case hp => exact (Reps.none _ _))
                                intro v270 w55 ho56 hb hg_ hnew_
                                clear hg_ hnew_
                                (first | rw [← Ny269.out] at ho56 | (simp only [Int.reduceToNat] at ho56; rw [← Ny269.out] at ho56))
                                have n0_ := Aside0.mk (Kd.R_elder' (by (with_reducible repeat (first | apply Kd.R_alloc | apply Kd.R_drewN | apply Kd.R_drew)); exact HO_258000.out) (Kd.R_base ho56) hb)
                                have n1_ := Aside0.mk (Kd.R_lower (Kd.R_new' ho56 (Kd.R_lt (by (with_reducible repeat (first | apply Kd.R_alloc | apply Kd.R_drewN | apply Kd.R_drew)); exact HO_258000.out))) (below_size (by repeat (first | (with_reducible first | exact HB.out | apply below_alloc | apply pw_below_drewN | apply below_drew1 | refine below_set ?_ GE257.out) | exact HB.out))))
                                have n2_ := Aside0.mk (blk_below (g := gb257) (o := .cells #[.slice (some ad267) t254.length co17] 32 (0, 0)) (by (with_reducible repeat (first | refine blk_drewN ?_ _ | refine blk_drew ?_ | refine blk_alloc ?_ _)); exact BK257.out) hb)
                                have n3_ := Aside0.mk (below_step (by repeat (first | (with_reducible first | exact HB.out | apply below_alloc | apply pw_below_drewN | apply below_drew1 | refine below_set ?_ GE257.out) | exact HB.out)) hb)
                                have z_XA := fun (h9_ : b 29 = true) => (show (up b 20 20 = true → up b 20 23 = false → ApartV v270 v277) ∧ (up b 20 23 = true → up b 20 30 = false → ApartV v273 v277) from ⟨fun _ _ => apart_lt (Kd.R_base ho56) (Kd.R_lt (Q_HO278 h9_)), fun h3_ => absurd ((hoff 23 (by kernel_rfl)).symm.trans h3_) (by decide)⟩)
                                have z_HO278 := fun (h0_ : b 29 = true) => (show Kd.R k27 27 w55 w.heap.size (fun k_ => some k_ ≠ (.slice (some ad267) t254.length co17 : Value).ownBlock) v277 y276 from by first | exact (Kd.R_elder' (by (with_reducible repeat (first | apply Kd.R_alloc | apply Kd.R_drewN | apply Kd.R_drew)); exact (Q_HO278 h0_)) (Kd.R_base ho56) hb) | exact Kd.R_mono (Kd.R_elder' (by (with_reducible repeat (first | apply Kd.R_alloc | apply Kd.R_drewN | apply Kd.R_drew)); exact (Q_HO278 h0_)) (Kd.R_base ho56) hb) (fun _ h_ => by first | trivial | exact h_ | exact h_.1))
                                clear HO_258000
                                clear BK257
                                clear HB
                                have HO_258000 := n0_
                                have HO271 := n1_
                                have BK257 := n2_
                                have HB := n3_
                                clear n0_ n1_ n2_ n3_
                                clear hb ho56
                                refine hK.out _ _ ⟨v270, v273, v277, v280, m31_, (by rw [ha.out]; exact putSel_upk 18 hb_ rfl rfl rfl), (by (with_reducible repeat (first | apply Kd.R_alloc | apply Kd.R_drewN | apply Kd.R_drew)); exact Kd.R_mono HO_258000.out (fun _ hk => by first | exact hk.2 | exact hk.1 | trivial | exact hk)), (by (with_reducible repeat (first | refine blk_drewN ?_ _ | refine blk_drew ?_ | refine blk_alloc ?_ _)); exact BK257.out), (by repeat (first | (with_reducible first | exact HB.out | apply below_alloc | apply pw_below_drewN | apply below_drew1 | refine below_set ?_ GE257.out) | exact HB.out)), fun _ _ => (by (with_reducible repeat (first | apply Kd.R_alloc | apply Kd.R_drewN | apply Kd.R_drew)); exact Kd.R_mono HO271.out (fun _ hk => by first | exact hk.2 | exact hk.1 | trivial | exact hk)), fun h0_ _ => absurd ((hoff 23 (by kernel_rfl)).symm.trans h0_) (by decide), z_HO278, fun h0_ => absurd ((hoff 30 (by kernel_rfl)).symm.trans h0_) (by decide), fun h0_ => absurd ((hoff 31 (by kernel_rfl)).symm.trans h0_) (by decide), z_XA⟩
                              refine steps_cons ?_ ?_
                              · rintro b a w' ⟨v270, v273, v277, v280, m31_, ha, Q_HO_258000, Q_BK257, Q_HB, Q_HO271, Q_HO274, Q_HO278, Q_HO281, Q_X31_, Q_XA_⟩ hb_ hon hoff
                                refine ⟨_, rfl, fun K hK => ?_⟩
                                have e3 : a.tmps[3]? = some (.pointer (some ⟨gb257, 0, none⟩)) := by rw [ha]; exact (putSel_off rfl).trans rfl
                                have e46 : a.tmps[46]? = some (.bool (t268 != (wrap64 (500 + x5_1)))) := by rw [ha]; exact putSel_on (e := (19, 46, .bool (t268 != (wrap64 (500 + x5_1))))) 17 rfl rfl (hon 19 (by kernel_rfl)) rfl
                                replace ha := Aside0.mk ha
                                have HO_258000 := Aside0.mk Q_HO_258000
                                have BK257 := Aside0.mk Q_BK257
                                have HB := Aside0.mk Q_HB
                                refine value_ (w1 := w') (v := .pointer (some ⟨gb257, 0, none⟩)) (wanted_on rfl rfl rfl (e46.trans (by first | rfl | (simp [*]; done)))) rfl ?_ ?_
                                · go_simp
                                  (try simp only [i64_w])
                                  try rfl
                                refine hK.out _ _ ⟨v270, v273, v277, v280, m31_, (by rw [ha.out]; exact putSel_upk 19 hb_ rfl rfl rfl), Q_HO_258000, Q_BK257, Q_HB, Q_HO271, fun h0_ _ => absurd ((hoff 23 (by kernel_rfl)).symm.trans h0_) (by decide), Q_HO278, fun h0_ => absurd ((hoff 30 (by kernel_rfl)).symm.trans h0_) (by decide), fun h0_ => absurd ((hoff 31 (by kernel_rfl)).symm.trans h0_) (by decide), Q_XA_⟩
                              refine steps_cons ?_ ?_
                              · rintro b a w' ⟨v270, v273, v277, v280, m31_, ha, Q_HO_258000, Q_BK257, Q_HB, Q_HO271, Q_HO274, Q_HO278, Q_HO281, Q_X31_, Q_XA_⟩ hb_ hon hoff
                                refine ⟨_, rfl, fun K hK => ?_⟩
                                have e48 : a.tmps[48]? = some (.pointer (some ⟨gb257, 0, none⟩)) := by rw [ha]; exact putSel_on (e := (21, 48, .pointer (some ⟨gb257, 0, none⟩))) 19 rfl rfl (hon 21 (by kernel_rfl)) rfl
                                have e46 : a.tmps[46]? = some (.bool (t268 != (wrap64 (500 + x5_1)))) := by rw [ha]; exact putSel_on (e := (19, 46, .bool (t268 != (wrap64 (500 + x5_1))))) 17 rfl rfl (hon 19 (by kernel_rfl)) rfl
                                replace ha := Aside0.mk ha
                                have HO_258000 := Aside0.mk Q_HO_258000
                                have BK257 := Aside0.mk Q_BK257
                                have HB := Aside0.mk Q_HB
                                have hc0_ : w'.cell? ⟨gb257, 0, none⟩ = some (.slice (some ad267) t254.length co17) := (blk_cell BK257.out 0).trans rfl
                                refine value_ (w1 := w') (v := .slice (some ad267) t254.length co17) (wanted_on rfl rfl rfl (e46.trans (by first | rfl | (simp [*]; done)))) rfl ?_ ?_
                                · go_simp
                                  (try simp only [i64_w])
                                  try rfl
                                refine hK.out _ _ ⟨v270, v273, v277, v280, m31_, (by rw [ha.out]; exact putSel_upk 20 hb_ rfl rfl rfl), Q_HO_258000, Q_BK257, Q_HB, Q_HO271, fun h0_ _ => absurd ((hoff 23 (by kernel_rfl)).symm.trans h0_) (by decide), Q_HO278, fun h0_ => absurd ((hoff 30 (by kernel_rfl)).symm.trans h0_) (by decide), fun h0_ => absurd ((hoff 31 (by kernel_rfl)).symm.trans h0_) (by decide), Q_XA_⟩
                              refine steps_cons ?_ ?_
                              · rintro b a w' ⟨v270, v273, v277, v280, m31_, ha, Q_HO_258000, Q_BK257, Q_HB, Q_HO271, Q_HO274, Q_HO278, Q_HO281, Q_X31_, Q_XA_⟩ hb_ hon hoff
                                refine ⟨_, rfl, fun K hK => ?_⟩
                                have e47 : a.tmps[47]? = some (v270) := by rw [ha]; exact putSel_on (e := (20, 47, v270)) 18 rfl rfl (hon 20 (by kernel_rfl)) rfl
                                have e49 : a.tmps[49]? = some (.slice (some ad267) t254.length co17) := by rw [ha]; exact putSel_on (e := (22, 49, .slice (some ad267) t254.length co17)) 20 rfl rfl (hon 22 (by kernel_rfl)) rfl
                                have e46 : a.tmps[46]? = some (.bool (t268 != (wrap64 (500 + x5_1)))) := by rw [ha]; exact putSel_on (e := (19, 46, .bool (t268 != (wrap64 (500 + x5_1))))) 17 rfl rfl (hon 19 (by kernel_rfl)) rfl
                                replace ha := Aside0.mk ha
                                have HO_258000 := Aside0.mk Q_HO_258000
                                have BK257 := Aside0.mk Q_BK257
                                have HB := Aside0.mk Q_HB
                                have HO271 := Aside0.mk (Q_HO271 (hon 20 (by kernel_rfl)) hb_)
                                refine Kd.R_append_rows_step k27 (w0 := w) w.heap.size (wanted_on rfl rfl rfl (e46.trans (by first | rfl | (simp [*]; done)))) (.tmp 47) (.tmp 49) 30 27 (.agg #[(.int .i64 0), (.int .i64 0)]) 16 rfl Try.underlying30 info27 rfl (by decide) (by omega) v270 y269 t254 _ _ _ (fun k_ => some k_ ≠ (.slice (some ad267) t254.length co17 : Value).ownBlock) (fun _ => False) (by first | (simp only [Act.eval, Array.getD_eq_getD_getElem?, e47, Option.getD_some]; done) | (simp only [Act.eval, Array.getD_eq_getD_getElem?, e47, Option.getD_some]; rfl)) (by first | (simp only [Act.eval, Array.getD_eq_getD_getElem?, e49, Option.getD_some]; done) | (simp only [Act.eval, Array.getD_eq_getD_getElem?, e49, Option.getD_some]; rfl)) ?aO ?aR (fun _ _ h => h) (fun _ h => h.elim) ?aF ?aB ?aS ?aL ?_
                                (case aR => repeat (first | exact (Kd.R_reads' HO_258000.out).2.2 | (with_reducible refine Kd.C_alloc ?_ _) | (with_reducible refine Kd.C_drewN ?_ _) | (with_reducible refine Kd.C_drew ?_)))
                                (case aB => exact (by repeat (first | (with_reducible first | exact HB.out | apply below_alloc | apply pw_below_drewN | apply below_drew1 | refine below_set ?_ GE257.out) | exact HB.out)))
                                (case aF => exact (fun k_ hk => Kd.fresh' (Kd.R_lt (by (with_reducible repeat (first | apply Kd.R_alloc | apply Kd.R_drewN | apply Kd.R_drew)); exact HO_258000.out)) k_ hk))
                                (case aO => exact (by (with_reducible repeat (first | apply Kd.R_alloc | apply Kd.R_drewN | apply Kd.R_drew)); exact HO271.out))
                                (case aS => exact (below_size (by repeat (first | (with_reducible first | exact HB.out | apply below_alloc | apply pw_below_drewN | apply below_drew1 | refine below_set ?_ GE257.out) | exact HB.out))))
                                (case aL => have := LMc29.out; omega)
                                intro v273 w57 ho hb hg hat
                                rw [← Ny272.out] at ho
                                have n0_ := Aside0.mk (Kd.R_after (ok := (fun _ => True)) (any27 HO_258000.out (fun k_ hk_ => ⟨trivial, fun h_ => HO271.out.1 k_ h_.symm hk_.symm⟩)) hg hat)
                                have n1_ := Aside0.mk (blk_grown (g := gb257) (o := .cells #[.slice (some ad267) t254.length co17] 32 (0, 0)) (by (with_reducible repeat (first | refine blk_drewN ?_ _ | refine blk_drew ?_ | refine blk_alloc ?_ _)); exact BK257.out) hg (Kd.R_ne HO271.out BK257.out (by decide)))
                                have n2_ := Aside0.mk (hb)
                                have n3_ := Aside0.mk (ho)
                                have z_XA := fun (h9_ : b 29 = true) => (show (up b 23 20 = true → up b 23 23 = false → ApartV v270 v277) ∧ (up b 23 23 = true → up b 23 30 = false → ApartV v273 v277) from ⟨fun _ h1_ => absurd ((up_self b 23).symm.trans h1_) (by decide), fun _ _ => apart_grown ((Q_XA_ h9_).1 (hon 20 (by kernel_rfl)) hb_) hat (Kd.R_lt (Q_HO278 h9_))⟩)
                                have z_HO278 := fun (h0_ : b 29 = true) => (show Kd.R k27 27 w57 w.heap.size (fun k_ => some k_ ≠ (.slice (some ad267) t254.length co17 : Value).ownBlock) v277 y276 from Kd.R_mono (Kd.R_after (ok := (fun k_ => some k_ ≠ (.slice (some ad267) t254.length co17 : Value).ownBlock)) (any27 (Q_HO278 h0_) (fun k_ hk_ => ⟨(Q_HO278 h0_).1 k_ hk_, fun h_ => (Q_XA_ h0_).1 (hon 20 (by kernel_rfl)) hb_ k_ h_.symm hk_⟩)) hg hat) (fun _ h_ => h_.1))
                                clear HO_258000
                                clear BK257
                                clear HB
                                clear HO271
                                have HO_258000 := n0_
                                have BK257 := n1_
                                have HB := n2_
                                have HO274 := n3_
                                clear n0_ n1_ n2_ n3_
                                clear ho hb hg hat
                                refine hK.out _ _ ⟨v270, v273, v277, v280, m31_, (by rw [ha.out]; exact putSel_upk 21 hb_ rfl rfl rfl), (by (with_reducible repeat (first | apply Kd.R_alloc | apply Kd.R_drewN | apply Kd.R_drew)); exact Kd.R_mono HO_258000.out (fun _ hk => by first | exact hk.2 | exact hk.1 | trivial | exact hk)), (by (with_reducible repeat (first | refine blk_drewN ?_ _ | refine blk_drew ?_ | refine blk_alloc ?_ _)); exact BK257.out), (by repeat (first | (with_reducible first | exact HB.out | apply below_alloc | apply pw_below_drewN | apply below_drew1 | refine below_set ?_ GE257.out) | exact HB.out)), fun _ h1_ => absurd ((up_self b 23).symm.trans h1_) (by decide), fun _ _ => (by (with_reducible repeat (first | apply Kd.R_alloc | apply Kd.R_drewN | apply Kd.R_drew)); exact HO274.out), z_HO278, fun h0_ => absurd ((hoff 30 (by kernel_rfl)).symm.trans h0_) (by decide), fun h0_ => absurd ((hoff 31 (by kernel_rfl)).symm.trans h0_) (by decide), z_XA⟩
                              refine steps_cons ?_ ?_
                              · rintro b a w' ⟨v270, v273, v277, v280, m31_, ha, Q_HO_258000, Q_BK257, Q_HB, Q_HO271, Q_HO274, Q_HO278, Q_HO281, Q_X31_, Q_XA_⟩ hb_ hon hoff
                                refine ⟨_, rfl, fun K hK => ?_⟩
                                have e3 : a.tmps[3]? = some (.pointer (some ⟨gb257, 0, none⟩)) := by rw [ha]; exact (putSel_off rfl).trans rfl
                                have e46 : a.tmps[46]? = some (.bool (t268 != (wrap64 (500 + x5_1)))) := by rw [ha]; exact putSel_on (e := (19, 46, .bool (t268 != (wrap64 (500 + x5_1))))) 17 rfl rfl (hon 19 (by kernel_rfl)) rfl
                                replace ha := Aside0.mk ha
                                have HO_258000 := Aside0.mk Q_HO_258000
                                have BK257 := Aside0.mk Q_BK257
                                have HB := Aside0.mk Q_HB
                                refine value_ (w1 := w') (v := .pointer (some ⟨gb257, 0, none⟩)) (wanted_on rfl rfl rfl (e46.trans (by first | rfl | (simp [*]; done)))) rfl ?_ ?_
                                · go_simp
                                  (try simp only [i64_w])
                                  try rfl
                                refine hK.out _ _ ⟨v270, v273, v277, v280, m31_, (by rw [ha.out]; exact putSel_upk 22 hb_ rfl rfl rfl), Q_HO_258000, Q_BK257, Q_HB, Q_HO271, Q_HO274, fun h0_ => absurd ((hoff 29 (by kernel_rfl)).symm.trans h0_) (by decide), fun h0_ => absurd ((hoff 30 (by kernel_rfl)).symm.trans h0_) (by decide), fun h0_ => absurd ((hoff 31 (by kernel_rfl)).symm.trans h0_) (by decide), Q_XA_⟩
                              refine steps_cons ?_ ?_
                              · rintro b a w' ⟨v270, v273, v277, v280, m31_, ha, Q_HO_258000, Q_BK257, Q_HB, Q_HO271, Q_HO274, Q_HO278, Q_HO281, Q_X31_, Q_XA_⟩ hb_ hon hoff
                                refine ⟨_, rfl, fun K hK => ?_⟩
                                have e51 : a.tmps[51]? = some (.pointer (some ⟨gb257, 0, none⟩)) := by rw [ha]; exact putSel_on (e := (24, 51, .pointer (some ⟨gb257, 0, none⟩))) 22 rfl rfl (hon 24 (by kernel_rfl)) rfl
                                have e46 : a.tmps[46]? = some (.bool (t268 != (wrap64 (500 + x5_1)))) := by rw [ha]; exact putSel_on (e := (19, 46, .bool (t268 != (wrap64 (500 + x5_1))))) 17 rfl rfl (hon 19 (by kernel_rfl)) rfl
                                replace ha := Aside0.mk ha
                                have HO_258000 := Aside0.mk Q_HO_258000
                                have BK257 := Aside0.mk Q_BK257
                                have HB := Aside0.mk Q_HB
                                have hc0_ : w'.cell? ⟨gb257, 0, none⟩ = some (.slice (some ad267) t254.length co17) := (blk_cell BK257.out 0).trans rfl
                                refine value_ (w1 := w') (v := .slice (some ad267) t254.length co17) (wanted_on rfl rfl rfl (e46.trans (by first | rfl | (simp [*]; done)))) rfl ?_ ?_
                                · go_simp
                                  (try simp only [i64_w])
                                  try rfl
                                refine hK.out _ _ ⟨v270, v273, v277, v280, m31_, (by rw [ha.out]; exact putSel_upk 23 hb_ rfl rfl rfl), Q_HO_258000, Q_BK257, Q_HB, Q_HO271, Q_HO274, fun h0_ => absurd ((hoff 29 (by kernel_rfl)).symm.trans h0_) (by decide), fun h0_ => absurd ((hoff 30 (by kernel_rfl)).symm.trans h0_) (by decide), fun h0_ => absurd ((hoff 31 (by kernel_rfl)).symm.trans h0_) (by decide), Q_XA_⟩
                              refine steps_cons ?_ ?_
                              · rintro b a w' ⟨v270, v273, v277, v280, m31_, ha, Q_HO_258000, Q_BK257, Q_HB, Q_HO271, Q_HO274, Q_HO278, Q_HO281, Q_X31_, Q_XA_⟩ hb_ hon hoff
                                refine ⟨_, rfl, fun K hK => ?_⟩
                                have e5 : a.tmps[5]? = some (.int .i64 x5_1) := by rw [ha]; exact (putSel_off rfl).trans rfl
                                have e46 : a.tmps[46]? = some (.bool (t268 != (wrap64 (500 + x5_1)))) := by rw [ha]; exact putSel_on (e := (19, 46, .bool (t268 != (wrap64 (500 + x5_1))))) 17 rfl rfl (hon 19 (by kernel_rfl)) rfl
                                replace ha := Aside0.mk ha
                                have HO_258000 := Aside0.mk Q_HO_258000
                                have BK257 := Aside0.mk Q_BK257
                                have HB := Aside0.mk Q_HB
                                refine value_ (w1 := w') (v := .int .i64 x5_1) (wanted_on rfl rfl rfl (e46.trans (by first | rfl | (simp [*]; done)))) rfl ?_ ?_
                                · go_simp
                                  (try simp only [i64_w])
                                  try rfl
                                refine hK.out _ _ ⟨v270, v273, v277, v280, m31_, (by rw [ha.out]; exact putSel_upk 24 hb_ rfl rfl rfl), Q_HO_258000, Q_BK257, Q_HB, Q_HO271, Q_HO274, fun h0_ => absurd ((hoff 29 (by kernel_rfl)).symm.trans h0_) (by decide), fun h0_ => absurd ((hoff 30 (by kernel_rfl)).symm.trans h0_) (by decide), fun h0_ => absurd ((hoff 31 (by kernel_rfl)).symm.trans h0_) (by decide), Q_XA_⟩
                              refine steps_cons ?_ ?_
                              · rintro b a w' ⟨v270, v273, v277, v280, m31_, ha, Q_HO_258000, Q_BK257, Q_HB, Q_HO271, Q_HO274, Q_HO278, Q_HO281, Q_X31_, Q_XA_⟩ hb_ hon hoff
                                refine ⟨_, rfl, fun K hK => ?_⟩
                                have e52 : a.tmps[52]? = some (.slice (some ad267) t254.length co17) := by rw [ha]; exact putSel_on (e := (25, 52, .slice (some ad267) t254.length co17)) 23 rfl rfl (hon 25 (by kernel_rfl)) rfl
                                have e53 : a.tmps[53]? = some (.int .i64 x5_1) := by rw [ha]; exact putSel_on (e := (26, 53, .int .i64 x5_1)) 24 rfl rfl (hon 26 (by kernel_rfl)) rfl
                                have e46 : a.tmps[46]? = some (.bool (t268 != (wrap64 (500 + x5_1)))) := by rw [ha]; exact putSel_on (e := (19, 46, .bool (t268 != (wrap64 (500 + x5_1))))) 17 rfl rfl (hon 19 (by kernel_rfl)) rfl
                                replace ha := Aside0.mk ha
                                have HO_258000 := Aside0.mk Q_HO_258000
                                have BK257 := Aside0.mk Q_BK257
                                have HB := Aside0.mk Q_HB
                                refine value_ (w1 := w') (v := .pointer (some (ad267.add ((x5_1).toNat * 2)))) (wanted_on rfl rfl rfl (e46.trans (by first | rfl | (simp [*]; done)))) rfl ?_ ?_
                                · go_simp
                                  (try simp only [i64_w])
                                  try rfl
                                refine hK.out _ _ ⟨v270, v273, v277, v280, m31_, (by rw [ha.out]; exact putSel_upk 25 hb_ rfl rfl rfl), Q_HO_258000, Q_BK257, Q_HB, Q_HO271, Q_HO274, fun h0_ => absurd ((hoff 29 (by kernel_rfl)).symm.trans h0_) (by decide), fun h0_ => absurd ((hoff 30 (by kernel_rfl)).symm.trans h0_) (by decide), fun h0_ => absurd ((hoff 31 (by kernel_rfl)).symm.trans h0_) (by decide), Q_XA_⟩
                              refine steps_cons ?_ ?_
                              · rintro b a w' ⟨v270, v273, v277, v280, m31_, ha, Q_HO_258000, Q_BK257, Q_HB, Q_HO271, Q_HO274, Q_HO278, Q_HO281, Q_X31_, Q_XA_⟩ hb_ hon hoff
                                refine ⟨_, rfl, fun K hK => ?_⟩
                                have e54 : a.tmps[54]? = some (.pointer (some (ad267.add ((x5_1).toNat * 2)))) := by rw [ha]; exact putSel_on (e := (27, 54, .pointer (some (ad267.add ((x5_1).toNat * 2))))) 25 rfl rfl (hon 27 (by kernel_rfl)) rfl
                                have e46 : a.tmps[46]? = some (.bool (t268 != (wrap64 (500 + x5_1)))) := by rw [ha]; exact putSel_on (e := (19, 46, .bool (t268 != (wrap64 (500 + x5_1))))) 17 rfl rfl (hon 19 (by kernel_rfl)) rfl
                                replace ha := Aside0.mk ha
                                have HO_258000 := Aside0.mk Q_HO_258000
                                have BK257 := Aside0.mk Q_BK257
                                have HB := Aside0.mk Q_HB
                                obtain ⟨ad275_z, e275_z, hx275_0_z, hx275_1_z⟩ := at_T27 (Kd.R_reads' HO_258000.out).2.2 x5_1 (of_eq_true p275) (of_eq_true q275)
                                cases e275_z
                                have hs2_ : w'.cell? (ad267.add ((x5_1).toNat * 2)) = some (.int .i64 ((rd_T27 t254 x5_1).f0)) := (by first | exact hx275_0_z | (have h_ := hx275_0_z; (try simp only [Int.reduceToNat, Nat.zero_mul, Nat.reduceMul, Nat.reduceEqDiff, Go.Addr.add, ↓reduceIte, Addr.add_zero'] at h_); exact h_))
                                have hs3_ : w'.cell? ⟨(ad267.add ((x5_1).toNat * 2)).block, (ad267.add ((x5_1).toNat * 2)).off + 1, none⟩ = some (.int .i64 ((rd_T27 t254 x5_1).f1)) := (by first | exact hx275_1_z | (have h_ := hx275_1_z; (try simp only [Int.reduceToNat, Nat.zero_mul, Nat.reduceMul, Nat.reduceEqDiff, Go.Addr.add, ↓reduceIte, Addr.add_zero'] at h_); exact h_))
                                refine value_ (w1 := w') (v := .agg #[.int .i64 ((rd_T27 t254 x5_1).f0), .int .i64 ((rd_T27 t254 x5_1).f1)]) (wanted_on rfl rfl rfl (e46.trans (by first | rfl | (simp [*]; done)))) rfl ?_ ?_
                                · go_simp
                                  (try simp only [i64_w])
                                  try rfl
                                refine hK.out _ _ ⟨v270, v273, v277, v280, m31_, (by rw [ha.out]; exact putSel_upk 26 hb_ rfl rfl rfl), Q_HO_258000, Q_BK257, Q_HB, Q_HO271, Q_HO274, fun h0_ => absurd ((hoff 29 (by kernel_rfl)).symm.trans h0_) (by decide), fun h0_ => absurd ((hoff 30 (by kernel_rfl)).symm.trans h0_) (by decide), fun h0_ => absurd ((hoff 31 (by kernel_rfl)).symm.trans h0_) (by decide), Q_XA_⟩
                              refine steps_cons ?_ ?_
                              · rintro b a w' ⟨v270, v273, v277, v280, m31_, ha, Q_HO_258000, Q_BK257, Q_HB, Q_HO271, Q_HO274, Q_HO278, Q_HO281, Q_X31_, Q_XA_⟩ hb_ hon hoff
                                refine ⟨_, rfl, fun K hK => ?_⟩
                                have e55 : a.tmps[55]? = some (.agg #[.int .i64 ((rd_T27 t254 x5_1).f0), .int .i64 ((rd_T27 t254 x5_1).f1)]) := by rw [ha]; exact putSel_on (e := (28, 55, .agg #[.int .i64 ((rd_T27 t254 x5_1).f0), .int .i64 ((rd_T27 t254 x5_1).f1)])) 26 rfl rfl (hon 28 (by kernel_rfl)) rfl
                                have e46 : a.tmps[46]? = some (.bool (t268 != (wrap64 (500 + x5_1)))) := by rw [ha]; exact putSel_on (e := (19, 46, .bool (t268 != (wrap64 (500 + x5_1))))) 17 rfl rfl (hon 19 (by kernel_rfl)) rfl
                                replace ha := Aside0.mk ha
                                have HO_258000 := Aside0.mk Q_HO_258000
                                have BK257 := Aside0.mk Q_BK257
                                have HB := Aside0.mk Q_HB
                                refine Kd.R_lit_step k27 _ 27 ?hg (N := 56) ?hd (xs := ([(⟨(rd_T27 t254 x5_1).f0, (rd_T27 t254 x5_1).f1⟩ : S27)] : List (S27))) (inner := [.int .i64 ((rd_T27 t254 x5_1).f0), .int .i64 ((rd_T27 t254 x5_1).f1)]) (ok := fun _ => True) (okp := fun _ => True) ?hr ?hp (fun _ hk => hk) trivial (Below.refl _ _) (Nat.le_refl _) (by simp) ?_; (case hd => rfl); (case hg => exact (wanted_on rfl rfl rfl (e46.trans (by first | rfl | (simp [*]; done))))); (case hr => first | (go_simp; done) | (go_simp; rfl)); (case hp => exact (Reps.c2 (show Kd.M k27 _ _ _ (⟨(rd_T27 t254 x5_1).f0, (rd_T27 t254 x5_1).f1⟩ : S27) [.int .i64 ((rd_T27 t254 x5_1).f0), .int .i64 ((rd_T27 t254 x5_1).f1)] from (k27_mkM _ _ _ (⟨(rd_T27 t254 x5_1).f0, (rd_T27 t254 x5_1).f1⟩ : S27) )) (Reps.none _ _)))
                                intro v277 w55 ho56 hb hg_ hnew_
                                clear hg_ hnew_
                                (first | rw [← Ny276.out] at ho56 | (simp only [Int.reduceToNat] at ho56; rw [← Ny276.out] at ho56))
                                have n0_ := Aside0.mk (Kd.R_elder' (by (with_reducible repeat (first | apply Kd.R_alloc | apply Kd.R_drewN | apply Kd.R_drew)); exact HO_258000.out) (Kd.R_base ho56) hb)
                                have n1_ := Aside0.mk (Kd.R_lower (Kd.R_new' ho56 (Kd.R_lt (by (with_reducible repeat (first | apply Kd.R_alloc | apply Kd.R_drewN | apply Kd.R_drew)); exact HO_258000.out))) (below_size (by repeat (first | (with_reducible first | exact HB.out | apply below_alloc | apply pw_below_drewN | apply below_drew1 | refine below_set ?_ GE257.out) | exact HB.out))))
                                have n2_ := Aside0.mk (blk_below (g := gb257) (o := .cells #[.slice (some ad267) t254.length co17] 32 (0, 0)) (by (with_reducible repeat (first | refine blk_drewN ?_ _ | refine blk_drew ?_ | refine blk_alloc ?_ _)); exact BK257.out) hb)
                                have n3_ := Aside0.mk (below_step (by repeat (first | (with_reducible first | exact HB.out | apply below_alloc | apply pw_below_drewN | apply below_drew1 | refine below_set ?_ GE257.out) | exact HB.out)) hb)
                                have z_XA := fun (_ : up b 29 29 = true) => (show (b 20 = true → b 23 = false → ApartV v270 v277) ∧ (b 23 = true → b 30 = false → ApartV v273 v277) from ⟨fun h0_ h1_ => apart_gt (Kd.R_base ho56) (Kd.R_lt (Q_HO271 h0_ h1_)), fun h0_ h1_ => apart_gt (Kd.R_base ho56) (Kd.R_lt (Q_HO274 h0_ h1_))⟩)
                                have z_HO271 := fun (h0_ : b 20 = true) (h1_ : b 23 = false) => (show Kd.R k27 27 w55 w.heap.size (fun k_ => some k_ ≠ (.slice (some ad267) t254.length co17 : Value).ownBlock) v270 y269 from by first | exact (Kd.R_elder' (by (with_reducible repeat (first | apply Kd.R_alloc | apply Kd.R_drewN | apply Kd.R_drew)); exact (Q_HO271 h0_ h1_)) (Kd.R_base ho56) hb) | exact Kd.R_mono (Kd.R_elder' (by (with_reducible repeat (first | apply Kd.R_alloc | apply Kd.R_drewN | apply Kd.R_drew)); exact (Q_HO271 h0_ h1_)) (Kd.R_base ho56) hb) (fun _ h_ => by first | trivial | exact h_ | exact h_.1))
                                have z_HO274 := fun (h0_ : b 23 = true) (h1_ : b 30 = false) => (show Kd.R k27 27 w55 w.heap.size (fun k_ => some k_ ≠ (.slice (some ad267) t254.length co17 : Value).ownBlock) v273 y272 from by first | exact (Kd.R_elder' (by (with_reducible repeat (first | apply Kd.R_alloc | apply Kd.R_drewN | apply Kd.R_drew)); exact (Q_HO274 h0_ h1_)) (Kd.R_base ho56) hb) | exact Kd.R_mono (Kd.R_elder' (by (with_reducible repeat (first | apply Kd.R_alloc | apply Kd.R_drewN | apply Kd.R_drew)); exact (Q_HO274 h0_ h1_)) (Kd.R_base ho56) hb) (fun _ h_ => by first | trivial | exact h_ | exact h_.1))
                                clear HO_258000
                                clear BK257
                                clear HB
                                have HO_258000 := n0_
                                have HO278 := n1_
                                have BK257 := n2_
                                have HB := n3_
                                clear n0_ n1_ n2_ n3_
                                clear hb ho56
                                refine hK.out _ _ ⟨v270, v273, v277, v280, m31_, (by rw [ha.out]; exact putSel_upk 27 hb_ rfl rfl rfl), (by (with_reducible repeat (first | apply Kd.R_alloc | apply Kd.R_drewN | apply Kd.R_drew)); exact Kd.R_mono HO_258000.out (fun _ hk => by first | exact hk.2 | exact hk.1 | trivial | exact hk)), (by (with_reducible repeat (first | refine blk_drewN ?_ _ | refine blk_drew ?_ | refine blk_alloc ?_ _)); exact BK257.out), (by repeat (first | (with_reducible first | exact HB.out | apply below_alloc | apply pw_below_drewN | apply below_drew1 | refine below_set ?_ GE257.out) | exact HB.out)), z_HO271, z_HO274, fun _ => (by (with_reducible repeat (first | apply Kd.R_alloc | apply Kd.R_drewN | apply Kd.R_drew)); exact Kd.R_mono HO278.out (fun _ hk => by first | exact hk.2 | exact hk.1 | trivial | exact hk)), fun h0_ => absurd ((hoff 30 (by kernel_rfl)).symm.trans h0_) (by decide), fun h0_ => absurd ((hoff 31 (by kernel_rfl)).symm.trans h0_) (by decide), z_XA⟩
                              refine steps_cons ?_ ?_
                              · rintro b a w' ⟨v270, v273, v277, v280, m31_, ha, Q_HO_258000, Q_BK257, Q_HB, Q_HO271, Q_HO274, Q_HO278, Q_HO281, Q_X31_, Q_XA_⟩ hb_ hon hoff
                                refine ⟨_, rfl, fun K hK => ?_⟩
                                have e50 : a.tmps[50]? = some (v273) := by rw [ha]; exact putSel_on (e := (23, 50, v273)) 21 rfl rfl (hon 23 (by kernel_rfl)) rfl
                                have e56 : a.tmps[56]? = some (v277) := by rw [ha]; exact putSel_on (e := (29, 56, v277)) 27 rfl rfl (hon 29 (by kernel_rfl)) rfl
                                have e46 : a.tmps[46]? = some (.bool (t268 != (wrap64 (500 + x5_1)))) := by rw [ha]; exact putSel_on (e := (19, 46, .bool (t268 != (wrap64 (500 + x5_1))))) 17 rfl rfl (hon 19 (by kernel_rfl)) rfl
                                replace ha := Aside0.mk ha
                                have HO_258000 := Aside0.mk Q_HO_258000
                                have BK257 := Aside0.mk Q_BK257
                                have HB := Aside0.mk Q_HB
                                have HO274 := Aside0.mk (Q_HO274 (hon 23 (by kernel_rfl)) hb_)
                                have XA30_ := Aside0.mk ((Q_XA_ (hon 29 (by kernel_rfl))).2 (hon 23 (by kernel_rfl)) hb_)
                                have HO278 := Aside0.mk (Q_HO278 (hon 29 (by kernel_rfl)))
                                obtain ⟨Ao61, co61, eo61⟩ := Kd.R_slice HO278.out
                                (first | subst eo61 | (injection eo61 with f1_ f2_ f3_; have f4_ := f1_.symm; have f5_ := f3_.symm; clear f1_ f2_ f3_; subst f4_; subst f5_))
                                refine Kd.R_append_rows_step k27 (w0 := w) w.heap.size (wanted_on rfl rfl rfl (e46.trans (by first | rfl | (simp [*]; done)))) (.tmp 50) (.tmp 56) 30 27 (.agg #[(.int .i64 0), (.int .i64 0)]) 16 rfl Try.underlying30 info27 rfl (by decide) (by omega) v273 y272 y276 _ _ _ (fun k_ => some k_ ≠ (.slice (some ad267) t254.length co17 : Value).ownBlock ∧ some k_ ≠ (.slice Ao61 y276.length co61 : Value).ownBlock) (fun _ => False) (by first | (simp only [Act.eval, Array.getD_eq_getD_getElem?, e50, Option.getD_some]; done) | (simp only [Act.eval, Array.getD_eq_getD_getElem?, e50, Option.getD_some]; rfl)) (by first | (simp only [Act.eval, Array.getD_eq_getD_getElem?, e56, Option.getD_some]; done) | (simp only [Act.eval, Array.getD_eq_getD_getElem?, e56, Option.getD_some]; rfl)) ?aO ?aR (fun _ _ h => h) (fun _ h => h.elim) ?aF ?aB ?aS ?aL ?_
                                (case aR => repeat (first | exact (Kd.R_reads' HO278.out).2.2 | (with_reducible refine Kd.C_alloc ?_ _) | (with_reducible refine Kd.C_drewN ?_ _) | (with_reducible refine Kd.C_drew ?_)))
                                (case aB => exact (by repeat (first | (with_reducible first | exact HB.out | apply below_alloc | apply pw_below_drewN | apply below_drew1 | refine below_set ?_ GE257.out) | exact HB.out)))
                                (case aF => exact (fun k_ hk => ⟨Kd.fresh' (Kd.R_lt (by (with_reducible repeat (first | apply Kd.R_alloc | apply Kd.R_drewN | apply Kd.R_drew)); exact HO_258000.out)) k_ hk, Kd.fresh' (Kd.R_lt (by (with_reducible repeat (first | apply Kd.R_alloc | apply Kd.R_drewN | apply Kd.R_drew)); exact HO278.out)) k_ hk⟩))
                                (case aO => exact (any27 HO274.out (fun k_ hk_ => ⟨HO274.out.1 k_ hk_, fun h_ => XA30_.out k_ hk_ h_.symm⟩)))
                                (case aS => exact (below_size (by repeat (first | (with_reducible first | exact HB.out | apply below_alloc | apply pw_below_drewN | apply below_drew1 | refine below_set ?_ GE257.out) | exact HB.out))))
                                (case aL => have := LMc30.out; omega)
                                intro v280 w60 ho hb hg hat
                                rw [← Ny279.out] at ho
                                have n0_ := Aside0.mk (Kd.R_mono (ok' := fun _ => True) (Kd.R_after (ok := (fun _ => True)) (any27 HO_258000.out (fun k_ hk_ => ⟨trivial, fun h_ => HO274.out.1 k_ h_.symm hk_.symm⟩)) hg hat) (fun _ _ => trivial))
                                have n1_ := Aside0.mk (blk_grown (g := gb257) (o := .cells #[.slice (some ad267) t254.length co17] 32 (0, 0)) (by (with_reducible repeat (first | refine blk_drewN ?_ _ | refine blk_drew ?_ | refine blk_alloc ?_ _)); exact BK257.out) hg (Kd.R_ne HO274.out BK257.out (by decide)))
                                have n2_ := Aside0.mk (Kd.R_mono (Kd.R_after (ok := (fun k_ => some k_ ≠ (.slice (some ad267) t254.length co17 : Value).ownBlock)) (any27 HO278.out (fun k_ hk_ => ⟨HO278.out.1 k_ hk_, fun h_ => XA30_.out k_ h_.symm hk_⟩)) hg hat) (fun _ h_ => h_.1))
                                have n3_ := Aside0.mk (hb)
                                have n4_ := Aside0.mk (ho)
                                clear HO_258000
                                clear BK257
                                clear HO278
                                clear HB
                                clear HO274
                                have HO_258000 := n0_
                                have BK257 := n1_
                                have HO278 := n2_
                                have HB := n3_
                                have HO281 := n4_
                                clear n0_ n1_ n2_ n3_ n4_
                                clear ho hb hg hat
                                obtain ⟨Ao62, co62, eo62⟩ := Kd.R_slice HO281.out
                                (first | subst eo62 | (injection eo62 with f1_ f2_ f3_; have f4_ := f1_.symm; have f5_ := f3_.symm; clear f1_ f2_ f3_; subst f4_; subst f5_))
                                refine hK.out _ _ ⟨v270, v273, .slice Ao61 y276.length co61, .slice Ao62 y279.length co62, m31_, (by rw [ha.out]; exact putSel_upk 28 hb_ rfl rfl rfl), (by (with_reducible repeat (first | apply Kd.R_alloc | apply Kd.R_drewN | apply Kd.R_drew)); exact HO_258000.out), (by (with_reducible repeat (first | refine blk_drewN ?_ _ | refine blk_drew ?_ | refine blk_alloc ?_ _)); exact BK257.out), (by repeat (first | (with_reducible first | exact HB.out | apply below_alloc | apply pw_below_drewN | apply below_drew1 | refine below_set ?_ GE257.out) | exact HB.out)), fun _ h1_ => absurd ((hon 23 (by kernel_rfl)).symm.trans h1_) (by decide), fun _ h1_ => absurd ((up_self b 30).symm.trans h1_) (by decide), fun _ => (by (with_reducible repeat (first | apply Kd.R_alloc | apply Kd.R_drewN | apply Kd.R_drew)); exact HO278.out), fun _ => (by (with_reducible repeat (first | apply Kd.R_alloc | apply Kd.R_drewN | apply Kd.R_drew)); exact Kd.R_mono HO281.out (fun _ hk => hk.1)), fun h0_ => absurd ((hoff 31 (by kernel_rfl)).symm.trans h0_) (by decide), fun _ => ⟨fun _ h1_ => absurd ((hon 23 (by kernel_rfl)).symm.trans h1_) (by decide), fun _ h1_ => absurd ((up_self b 30).symm.trans h1_) (by decide)⟩⟩
                              refine steps_cons ?_ ?_
                              · rintro b a w' ⟨v270, v273, v277, v280, m31_, ha, Q_HO_258000, Q_BK257, Q_HB, Q_HO271, Q_HO274, Q_HO278, Q_HO281, Q_X31_, Q_XA_⟩ hb_ hon hoff
                                refine ⟨_, rfl, fun K hK => ?_⟩
                                have e57 : a.tmps[57]? = some (v280) := by rw [ha]; exact putSel_on (e := (30, 57, v280)) 28 rfl rfl (hon 30 (by kernel_rfl)) rfl
                                have e46 : a.tmps[46]? = some (.bool (t268 != (wrap64 (500 + x5_1)))) := by rw [ha]; exact putSel_on (e := (19, 46, .bool (t268 != (wrap64 (500 + x5_1))))) 17 rfl rfl (hon 19 (by kernel_rfl)) rfl
                                replace ha := Aside0.mk ha
                                have HO_258000 := Aside0.mk Q_HO_258000
                                have BK257 := Aside0.mk Q_BK257
                                have HB := Aside0.mk Q_HB
                                have HO278 := Aside0.mk (Q_HO278 (hon 29 (by kernel_rfl)))
                                have HO281 := Aside0.mk (Q_HO281 (hon 30 (by kernel_rfl)))
                                obtain ⟨Ao31_0, co31_0, eo_⟩ := Kd.R_slice HO281.out
                                subst eo_
                                refine value_ (w1 := w') (v := .agg #[.slice Ao31_0 y279.length co31_0]) (wanted_on rfl rfl rfl (e46.trans (by first | rfl | (simp [*]; done)))) rfl ?_ ?_
                                · go_simp
                                  (try simp only [i64_w])
                                  try rfl
                                refine hK.out _ _ ⟨v270, v273, v277, .slice Ao31_0 y279.length co31_0, (.agg #[.slice Ao31_0 y279.length co31_0]), (by rw [ha.out]; exact putSel_upk 29 hb_ rfl rfl rfl), Q_HO_258000, Q_BK257, Q_HB, fun _ h1_ => absurd ((hon 23 (by kernel_rfl)).symm.trans h1_) (by decide), fun _ h1_ => absurd ((hon 30 (by kernel_rfl)).symm.trans h1_) (by decide), Q_HO278, Q_HO281, fun _ => rfl, Q_XA_⟩
                              refine steps_cons ?_ ?_
                              · rintro b a w' ⟨v270, v273, v277, v280, m31_, ha, Q_HO_258000, Q_BK257, Q_HB, Q_HO271, Q_HO274, Q_HO278, Q_HO281, Q_X31_, Q_XA_⟩ hb_ hon hoff
                                refine ⟨_, rfl, fun K hK => ?_⟩
                                have e58 : a.tmps[58]? = some (m31_) := by rw [ha]; exact putSel_on (e := (31, 58, m31_)) 29 rfl rfl (hon 31 (by kernel_rfl)) rfl
                                rw [Q_X31_ (hon 31 (by kernel_rfl))] at e58
                                have e46 : a.tmps[46]? = some (.bool (t268 != (wrap64 (500 + x5_1)))) := by rw [ha]; exact putSel_on (e := (19, 46, .bool (t268 != (wrap64 (500 + x5_1))))) 17 rfl rfl (hon 19 (by kernel_rfl)) rfl
                                replace ha := Aside0.mk ha
                                have HO_258000 := Aside0.mk Q_HO_258000
                                have BK257 := Aside0.mk Q_BK257
                                have HB := Aside0.mk Q_HB
                                have HO278 := Aside0.mk (Q_HO278 (hon 29 (by kernel_rfl)))
                                have HO281 := Aside0.mk (Q_HO281 (hon 30 (by kernel_rfl)))
                                obtain ⟨Ao63, co63, eo63⟩ := Kd.R_slice HO281.out
                                (first | subst eo63 | (injection eo63 with f1_ f2_ f3_; have f4_ := f1_.symm; have f5_ := f3_.symm; clear f1_ f2_ f3_; subst f4_; subst f5_))
                                refine goes_ Try.func18 (by kernel_rfl) rfl #[.agg #[.slice Ao63 y279.length co63]] (wanted_on rfl rfl rfl (e46.trans (by first | rfl | (simp [*]; done)))) rfl rfl (by first | (simp only [List.map_toArray, List.map_cons, List.map_nil, Act.eval, Array.getD_eq_getD_getElem?, Option.getD_some, e58, e46]; done) | (simp only [List.map_toArray, List.map_cons, List.map_nil, Act.eval, Array.getD_eq_getD_getElem?, Option.getD_some, e58, e46]; rfl)) ?_
                                with_reducible refine (impl_MapOk.calls k1 _ _ y279 false _ ?side1 ?side2 A31.out).mono ?_
                                (case side1 => repeat (first | exact (Kd.R_reads' HO281.out).2.2 | (with_reducible refine Kd.C_alloc ?_ _) | (with_reducible refine Kd.C_drewN ?_ _) | (with_reducible refine Kd.C_drew ?_)))
                                (case side2 => exact (Kd.R_reads' HO281.out).2.1)
                                rintro e w64 ⟨rfl, hb⟩
                                refine ⟨_, rfl, ?_⟩
                                have n0_ := Aside0.mk (Kd.R_below (by (with_reducible repeat (first | apply Kd.R_alloc | apply Kd.R_drewN | apply Kd.R_drew)); exact HO_258000.out) hb)
                                have n1_ := Aside0.mk (Kd.R_below (by (with_reducible repeat (first | apply Kd.R_alloc | apply Kd.R_drewN | apply Kd.R_drew)); exact HO278.out) hb)
                                have n2_ := Aside0.mk (Kd.R_below (by (with_reducible repeat (first | apply Kd.R_alloc | apply Kd.R_drewN | apply Kd.R_drew)); exact HO281.out) hb)
                                have n3_ := Aside0.mk (blk_below (g := gb257) (o := .cells #[.slice (some ad267) t254.length co17] 32 (0, 0)) (by (with_reducible repeat (first | refine blk_drewN ?_ _ | refine blk_drew ?_ | refine blk_alloc ?_ _)); exact BK257.out) hb)
                                have n4_ := Aside0.mk (below_step (by repeat (first | (with_reducible first | exact HB.out | apply below_alloc | apply pw_below_drewN | apply below_drew1 | refine below_set ?_ GE257.out) | exact HB.out)) hb)
                                clear HO_258000
                                clear HO278
                                clear HO281
                                clear BK257
                                clear HB
                                have HO_258000 := n0_
                                have HO278 := n1_
                                have HO281 := n2_
                                have BK257 := n3_
                                have HB := n4_
                                clear n0_ n1_ n2_ n3_ n4_
                                (try clear hb)
                                (try clear hb2)
                                (try clear hk)
                                (try clear hi)
                                refine hK.out _ _ ⟨v270, v273, v277, .slice Ao63 y279.length co63, m31_, (by rw [ha.out]; exact putSel_upk 30 hb_ rfl rfl rfl), (by (with_reducible repeat (first | apply Kd.R_alloc | apply Kd.R_drewN | apply Kd.R_drew)); exact HO_258000.out), (by (with_reducible repeat (first | refine blk_drewN ?_ _ | refine blk_drew ?_ | refine blk_alloc ?_ _)); exact BK257.out), (by repeat (first | (with_reducible first | exact HB.out | apply below_alloc | apply pw_below_drewN | apply below_drew1 | refine below_set ?_ GE257.out) | exact HB.out)), fun _ h1_ => absurd ((hon 23 (by kernel_rfl)).symm.trans h1_) (by decide), fun _ h1_ => absurd ((hon 30 (by kernel_rfl)).symm.trans h1_) (by decide), fun _ => (by (with_reducible repeat (first | apply Kd.R_alloc | apply Kd.R_drewN | apply Kd.R_drew)); exact HO278.out), fun _ => (by (with_reducible repeat (first | apply Kd.R_alloc | apply Kd.R_drewN | apply Kd.R_drew)); exact HO281.out), Q_X31_, Q_XA_⟩
                              refine steps_cons ?_ ?_
                              · rintro b a w' ⟨v270, v273, v277, v280, m31_, ha, Q_HO_258000, Q_BK257, Q_HB, Q_HO271, Q_HO274, Q_HO278, Q_HO281, Q_X31_, Q_XA_⟩ hb_ hon hoff
                                refine ⟨_, rfl, fun K hK => ?_⟩
                                have e46 : a.tmps[46]? = some (.bool (t268 != (wrap64 (500 + x5_1)))) := by rw [ha]; exact putSel_on (e := (19, 46, .bool (t268 != (wrap64 (500 + x5_1))))) 17 rfl rfl (hon 19 (by kernel_rfl)) rfl
                                have e59 : a.tmps[59]? = some (.bool false) := by rw [ha]; exact putSel_on (e := (32, 59, .bool false)) 30 rfl rfl (hon 32 (by kernel_rfl)) rfl
                                replace ha := Aside0.mk ha
                                have HO_258000 := Aside0.mk Q_HO_258000
                                have BK257 := Aside0.mk Q_BK257
                                have HB := Aside0.mk Q_HB
                                have HO278 := Aside0.mk (Q_HO278 (hon 29 (by kernel_rfl)))
                                have HO281 := Aside0.mk (Q_HO281 (hon 30 (by kernel_rfl)))
                                refine value_ (w1 := w') (v := .bool false) (by rfl) rfl ?_ ?_
                                · go_simp
                                  (try simp only [i64_w])
                                  try rfl
                                refine hK.out _ _ ⟨v270, v273, v277, v280, m31_, (by rw [ha.out]; exact putSel_upk 31 hb_ rfl rfl rfl), Q_HO_258000, Q_BK257, Q_HB, fun _ h1_ => absurd ((hon 23 (by kernel_rfl)).symm.trans h1_) (by decide), fun _ h1_ => absurd ((hon 30 (by kernel_rfl)).symm.trans h1_) (by decide), Q_HO278, Q_HO281, Q_X31_, Q_XA_⟩
                              exact steps_nil
                            rintro b a w63 hall ⟨v270, v273, v277, v280, m31_, ha, Q_HO_258000, Q_BK257, Q_HB, Q_HO271, Q_HO274, Q_HO278, Q_HO281, Q_X31_, Q_XA_⟩
                            clear BK257 HB HO_258000
                            have hb1_ := hall 1 (by kernel_rfl)
                            have hb3_ := hall 3 (by kernel_rfl)
                            have hb4_ := hall 4 (by kernel_rfl)
                            have hb5_ := hall 5 (by kernel_rfl)
                            have hb6_ := hall 6 (by kernel_rfl)
                            have hb7_ := hall 7 (by kernel_rfl)
                            have hb8_ := hall 8 (by kernel_rfl)
                            have hb9_ := hall 9 (by kernel_rfl)
                            have hb10_ := hall 10 (by kernel_rfl)
                            have hb11_ := hall 11 (by kernel_rfl)
                            have hb12_ := hall 12 (by kernel_rfl)
                            have hb13_ := hall 13 (by kernel_rfl)
                            have hb14_ := hall 14 (by kernel_rfl)
                            have hb15_ := hall 15 (by kernel_rfl)
                            have hb16_ := hall 16 (by kernel_rfl)
                            have hb17_ := hall 17 (by kernel_rfl)
                            have hb18_ := hall 18 (by kernel_rfl)
                            have hb19_ := hall 19 (by kernel_rfl)
                            have hb20_ := hall 20 (by kernel_rfl)
                            have hb21_ := hall 21 (by kernel_rfl)
                            have hb22_ := hall 22 (by kernel_rfl)
                            have hb23_ := hall 23 (by kernel_rfl)
                            have hb24_ := hall 24 (by kernel_rfl)
                            have hb25_ := hall 25 (by kernel_rfl)
                            have hb26_ := hall 26 (by kernel_rfl)
                            have hb27_ := hall 27 (by kernel_rfl)
                            have hb28_ := hall 28 (by kernel_rfl)
                            have hb29_ := hall 29 (by kernel_rfl)
                            have hb30_ := hall 30 (by kernel_rfl)
                            have hb31_ := hall 31 (by kernel_rfl)
                            have hb32_ := hall 32 (by kernel_rfl)
                            have hb33_ := hall 33 (by kernel_rfl)
                            subst ha
                            obtain rfl := Q_X31_ hb31_
                            simp only [putSel, hb1_, hb3_, hb4_, hb5_, hb6_, hb7_, hb8_, hb9_, hb10_, hb11_, hb12_, hb13_, hb14_, hb15_, hb16_, hb17_, hb18_, hb19_, hb20_, hb21_, hb22_, hb23_, hb24_, hb25_, hb26_, hb27_, hb28_, hb29_, hb30_, hb31_, hb32_, hb33_, if_true, Act.put, List.setIfInBounds_toArray, List.set_cons_zero, List.set_cons_succ]
                            have HO_258000 := Aside0.mk Q_HO_258000
                            clear Q_HO_258000
                            have BK257 := Aside0.mk Q_BK257
                            clear Q_BK257
                            have HB := Aside0.mk Q_HB
                            clear Q_HB
                            clear Q_HO271
                            clear Q_HO274
                            have HO278 := Aside0.mk (Q_HO278 hb29_)
                            clear Q_HO278
                            have HO281 := Aside0.mk (Q_HO281 hb30_)
                            clear Q_HO281
                            clear hall hb1_ hb3_ hb4_ hb5_ hb6_ hb7_ hb8_ hb9_ hb10_ hb11_ hb12_ hb13_ hb14_ hb15_ hb16_ hb17_ hb18_ hb19_ hb20_ hb21_ hb22_ hb23_ hb24_ hb25_ hb26_ hb27_ hb28_ hb29_ hb30_ hb31_ hb32_ hb33_
                            obtain ⟨Ao64, co64, eo64⟩ := Kd.R_slice HO281.out
                            (first | subst eo64 | (injection eo64 with f1_ f2_ f3_; have f4_ := f1_.symm; have f5_ := f3_.symm; clear f1_ f2_ f3_; subst f4_; subst f5_))
                            try go_wp2
                            go_roundg k1
                            case measure => have := HK1.out; omega
                            case rel => exact ⟨(wrap64 (x5_1 + 1)), (by first | rfl | (simp; done) | (simp [*]; done)), H', ⟨by have := HK1.out; omega⟩, ⟨by (with_reducible repeat (first | apply Kd.R_alloc | apply Kd.R_drewN | apply Kd.R_drew)); exact Kd.R_mono HO_258000.out (fun _ hk => trivial)⟩, ⟨by (with_reducible repeat (first | refine blk_drewN ?_ _ | refine blk_drew ?_ | refine blk_alloc ?_ _)); exact BK257.out⟩, ⟨by repeat (first | (with_reducible first | exact HB.out | apply below_alloc | apply pw_below_drewN | apply below_drew1 | refine below_set ?_ GE257.out) | exact HB.out)⟩⟩
                        · rw [if_neg c30] at H
                          exact absurd H (by simp)
                      · rw [if_neg c29] at H
                        exact absurd H (by simp)
                    · rw [if_neg c28] at H
                      have c28b0 : (t268 == (wrap64 (500 + x5_1))) = false := beq_eq_false_iff_ne.mpr c28
                      have c28b1 : (t268 != (wrap64 (500 + x5_1))) = true := bne_iff_ne.mpr c28
                      first
                        | exact absurd (H.trans (congrArg some HR_.out)) (by decide)
                        | (
                            obtain rfl := Option.some.inj H
                            have hcz65_0 : wr.cell? ⟨gb257, 0, none⟩ = some (.slice Ao17 t254.length co17) := (blk_cell BK257.out 0).trans rfl
                            have hfz65_0 := blk_frozen BK257.out 0
                            try go_wp2
                            have n0_ := Aside0.mk (Kd.R_drew HO_258000.out)
                            have n1_ := Aside0.mk (blk_drew BK257.out)
                            have n2_ := Aside0.mk (below_drew1 HB.out)
                            clear HO_258000
                            clear BK257
                            clear HB
                            have HO_258000 := n0_
                            have BK257 := n1_
                            have HB := n2_
                            clear n0_ n1_ n2_
                            have q67 : (x5_1 : Int) ≤ ((t254.length : Int) : Int) := of_decide_eq_true (by first | (with_reducible assumption) | assumption)
                            obtain ⟨i067, hi067, _, hsz67, _⟩ := info_parts info27
                            have hroom67 : t254.length ≤ co17 := (Kd.R_reads' HO_258000.out).2.1
                            have hC67 : Kd.C k27 _ Ao17 t254.length t254 := (Kd.R_reads' HO_258000.out).2.2
                            have hcut67 := cut_to (P := Try.prog) 30 27 .i64 Try.underlying30 hi067 Ao17 t254.length co17 x5_1 (of_decide_eq_true (by first | (with_reducible assumption) | assumption)) q67 hroom67
                            have hr67 := Kd.C_take (m := (x5_1 : Int).toNat) hC67 (by omega)
                            have hy67 : y262.length = (x5_1 : Int).toNat := (by rw [Ny262.out, List.length_take]; omega)
                            rw [← Ny262.out] at hr67
                            rw [← hy67] at hcut67
                            have HR265 := Aside0.mk hr67
                            have HC265 := Aside0.mk (show y262.length ≤ co17 from by omega)
                            clear hr67 hC67 hroom67 hi067 hsz67
                            have KY67 := Aside0.mk hy67
                            clear hy67
                            have KL67 := Aside0.mk (show (x5_1 : Int).toNat ≤ t254.length from by omega)
                            replace q67 := eq_true q67
                            have p267 : 0 ≤ (x5_1 : Int) := of_decide_eq_true (by first | (with_reducible assumption) | assumption)
                            have q267 : x5_1 < (t254.length : Int) := of_decide_eq_true (by first | (with_reducible assumption) | assumption)
                            obtain ⟨ad267, e267, hx267_0, hx267_1⟩ := at_T27 (Kd.R_reads' HO_258000.out).2.2 x5_1 p267 q267
                            cases e267
                            replace p267 := eq_true p267
                            replace q267 := eq_true q267
                            refine start_ (n := 34) (S := fun w' => w'.cell? ⟨gb257, 0, none⟩ = some (.slice (some ad267) t254.length co17) ∧ w'.cell? (ad267.add ((x5_1).toNat * 2)) = some (.int .i64 ((rd_T27 t254 x5_1).f0)) ∧ w'.cell? ⟨(ad267.add ((x5_1).toNat * 2)).block, (ad267.add ((x5_1).toNat * 2)).off + 1, none⟩ = some (.int .i64 ((rd_T27 t254 x5_1).f1))) (ds := []) #[false, false, false, false, false, false, false, false, false, false, false, false, false, false, false, false, false, false, false, false, false, false, false, false, false, false, false, false, false, false, false, false, false, false] (by kernel_rfl) rfl rfl ⟨(blk_cell BK257.out 0).trans rfl, hx267_0, hx267_1⟩ (fun hHeld => ?_); refine with_tabW laws_FnMapOk.tab12 laws_FnMapOk.bits12 (fun HT_ HW_ => ?_)
                            generalize wr.drew = w66 at HO_258000 BK257 HB HR265 hx267_0 hx267_1 hHeld ⊢
                            refine pure_ (i := 0) (N := some 27) (v := ?_) (a' := ?_) #[true, false, false, false, false, false, false, false, false, false, false, false, false, false, false, false, false, false, false, false, false, false, false, false, false, false, false, false, false, false, false, false, false, false] rfl rfl (any_of HT_.out (by kernel_rfl)) (fun _ _ _ h => h) (Or.inl ⟨by rfl, ?_⟩) ?_ ?_
                            rotate_left
                            · intro w'
                              go_simp
                              with_reducible rfl
                            rotate_left
                            · simp only [Act.put, List.setIfInBounds_toArray, List.set_cons_zero, List.set_cons_succ, i64_w, i32_w]
                              rfl
                            refine pure_ (i := 2) (N := some 29) (v := ?_) (a' := ?_) #[true, false, true, false, false, false, false, false, false, false, false, false, false, false, false, false, false, false, false, false, false, false, false, false, false, false, false, false, false, false, false, false, false, false] rfl rfl (any_of HT_.out (by kernel_rfl)) (fun _ _ _ h => h) (Or.inl ⟨by rfl, ?_⟩) ?_ ?_
                            rotate_left
                            · intro w'
                              go_simp
                              with_reducible rfl
                            rotate_left
                            · simp only [Act.put, List.setIfInBounds_toArray, List.set_cons_zero, List.set_cons_succ, i64_w, i32_w]
                              rfl
                            refine take_ (i := 1) (N := some 28) (v := ?_) (a' := ?_) #[true, true, true, false, false, false, false, false, false, false, false, false, false, false, false, false, false, false, false, false, false, false, false, false, false, false, false, false, false, false, false, false, false, false] rfl rfl (take_ofW HT_.out HW_.out (by kernel_rfl)) (fun _ _ _ h => h) (Or.inl ⟨by rfl, ?_⟩) hHeld ?_ ?_
                            rotate_left
                            · rintro w' ⟨s0, s1, s2⟩
                              go_simp
                              with_reducible rfl
                            rotate_left
                            · simp only [Act.put, List.setIfInBounds_toArray, List.set_cons_zero, List.set_cons_succ, i64_w, i32_w]
                              rfl
                            refine pure_ (i := 3) (N := some 30) (v := ?_) (a' := ?_) #[true, true, true, true, false, false, false, false, false, false, false, false, false, false, false, false, false, false, false, false, false, false, false, false, false, false, false, false, false, false, false, false, false, false] rfl rfl (any_of HT_.out (by kernel_rfl)) (fun _ _ _ h => h) (Or.inl ⟨by rfl, ?_⟩) ?_ ?_
                            rotate_left
                            · intro w'
                              go_simp
                              with_reducible rfl
                            rotate_left
                            · simp only [Act.put, List.setIfInBounds_toArray, List.set_cons_zero, List.set_cons_succ, i64_w, i32_w]
                              rfl
                            refine pure_ (i := 4) (N := some 31) (v := ?_) (a' := ?_) #[true, true, true, true, true, false, false, false, false, false, false, false, false, false, false, false, false, false, false, false, false, false, false, false, false, false, false, false, false, false, false, false, false, false] rfl rfl (any_of HT_.out (by kernel_rfl)) (fun _ _ _ h => h) (Or.inl ⟨by rfl, ?_⟩) ?_ ?_
                            rotate_left
                            · intro w'
                              go_simp
                              with_reducible rfl
                            rotate_left
                            · simp only [Act.put, List.setIfInBounds_toArray, List.set_cons_zero, List.set_cons_succ, i64_w, i32_w]
                              rfl
                            refine one_ (i := 5) (N := some 32) #[true, true, true, true, true, true, false, false, false, false, false, false, false, false, false, false, false, false, false, false, false, false, false, false, false, false, false, false, false, false, false, false, false, false] rfl rfl (one_of HT_.out (by kernel_rfl)) (by decide) (fun K hK => ?_)
                            refine goes_ Try.func18 (by kernel_rfl) rfl #[.agg #[.slice (some ad267) y262.length co17]] (by rfl) rfl rfl (by (try simp only [List.map_toArray, List.map_cons, List.map_nil]); first | done | rfl | (simp only [List.length_drop, List.length_take]; rfl)) ?_
                            with_reducible refine (impl_MapOk.calls k1 _ _ y262 true _ ?side1 ?side2 A25.out).mono ?_
                            (case side1 => repeat (first | exact (by repeat (first | (with_reducible exact HR265.out) | (with_reducible refine Kd.C_alloc ?_ _) | (with_reducible refine Kd.C_drewN ?_ _) | (with_reducible refine Kd.C_drew ?_) | exact HR265.out)) | (with_reducible refine Kd.C_alloc ?_ _) | (with_reducible refine Kd.C_drewN ?_ _) | (with_reducible refine Kd.C_drew ?_)))
                            (case side2 => exact HC265.out)
                            rintro e w68 ⟨rfl, hb⟩
                            have HS1_ := (hb.cell (World.block_lt_of_cell? _ _ (hHeld.2.1))).trans (hHeld.2.1)
                            have HS2_ := (hb.cell (World.block_lt_of_cell? _ _ (hHeld.2.2))).trans (hHeld.2.2)
                            refine ⟨_, rfl, ?_⟩
                            have n0_ := Aside0.mk (Kd.R_below (by (with_reducible repeat (first | apply Kd.R_alloc | apply Kd.R_drewN | apply Kd.R_drew)); exact HO_258000.out) hb)
                            have n1_ := Aside0.mk (blk_below (g := gb257) (o := .cells #[.slice (some ad267) t254.length co17] 32 (0, 0)) (by (with_reducible repeat (first | refine blk_drewN ?_ _ | refine blk_drew ?_ | refine blk_alloc ?_ _)); exact BK257.out) hb)
                            have n2_ := Aside0.mk (Kd.C_below (by repeat (first | (with_reducible exact HR265.out) | (with_reducible refine Kd.C_alloc ?_ _) | (with_reducible refine Kd.C_drewN ?_ _) | (with_reducible refine Kd.C_drew ?_) | exact HR265.out)) hb)
                            have n3_ := Aside0.mk (below_step (by repeat (first | (with_reducible first | exact HB.out | apply below_alloc | apply pw_below_drewN | apply below_drew1 | refine below_set ?_ GE257.out) | exact HB.out)) hb)
                            clear HO_258000
                            clear BK257
                            clear HR265
                            clear HB
                            have HO_258000 := n0_
                            have BK257 := n1_
                            have HR265 := n2_
                            have HB := n3_
                            clear n0_ n1_ n2_ n3_
                            (try clear hb)
                            (try clear hb2)
                            (try clear hk)
                            (try clear hi)
                            refine hK.out _ _ ⟨(blk_cell BK257.out 0).trans rfl, HS1_, HS2_⟩ (fun hHeld => ?_)
                            clear hK K
                            refine norm_ (a' := ?_) ?_ ?_
                            rotate_left
                            · show Act.put _ (some 32) _ = _
                              simp only [Act.put, List.setIfInBounds_toArray, List.set_cons_zero, List.set_cons_succ, i64_w, i32_w]
                              rfl
                            refine pure_ (i := 6) (N := some 33) (v := ?_) (a' := ?_) #[true, true, true, true, true, true, true, false, false, false, false, false, false, false, false, false, false, false, false, false, false, false, false, false, false, false, false, false, false, false, false, false, false, false] rfl rfl (any_of HT_.out (by kernel_rfl)) (fun _ _ _ h => h) (Or.inl ⟨by rfl, ?_⟩) ?_ ?_
                            rotate_left
                            · intro w'
                              go_simp
                              with_reducible rfl
                            rotate_left
                            · simp only [Act.put, List.setIfInBounds_toArray, List.set_cons_zero, List.set_cons_succ, i64_w, i32_w]
                              rfl
                            refine pure_ (i := 7) (N := some 34) (v := ?_) (a' := ?_) #[true, true, true, true, true, true, true, true, false, false, false, false, false, false, false, false, false, false, false, false, false, false, false, false, false, false, false, false, false, false, false, false, false, false] rfl rfl (any_of HT_.out (by kernel_rfl)) (fun _ _ _ h => h) (Or.inl ⟨by rfl, ?_⟩) ?_ ?_
                            rotate_left
                            · intro w'
                              go_simp
                              with_reducible rfl
                            rotate_left
                            · simp only [Act.put, List.setIfInBounds_toArray, List.set_cons_zero, List.set_cons_succ, i64_w, i32_w]
                              rfl
                            refine pure_ (i := 9) (N := some 36) (v := ?_) (a' := ?_) #[true, true, true, true, true, true, true, true, false, true, false, false, false, false, false, false, false, false, false, false, false, false, false, false, false, false, false, false, false, false, false, false, false, false] rfl rfl (any_of HT_.out (by kernel_rfl)) (fun _ _ _ h => h) (Or.inl ⟨by rfl, ?_⟩) ?_ ?_
                            rotate_left
                            · intro w'
                              go_simp
                              with_reducible rfl
                            rotate_left
                            · simp only [Act.put, List.setIfInBounds_toArray, List.set_cons_zero, List.set_cons_succ, i64_w, i32_w]
                              rfl
                            refine pure_ (i := 11) (N := some 38) (v := ?_) (a' := ?_) #[true, true, true, true, true, true, true, true, false, true, false, true, false, false, false, false, false, false, false, false, false, false, false, false, false, false, false, false, false, false, false, false, false, false] rfl rfl (any_of HT_.out (by kernel_rfl)) (fun _ _ _ h => h) (Or.inl ⟨by rfl, ?_⟩) ?_ ?_
                            rotate_left
                            · intro w'
                              go_simp
                              with_reducible rfl
                            rotate_left
                            · simp only [Act.put, List.setIfInBounds_toArray, List.set_cons_zero, List.set_cons_succ, i64_w, i32_w]
                              rfl
                            refine pure_ (i := 15) (N := some 42) (v := ?_) (a' := ?_) #[true, true, true, true, true, true, true, true, false, true, false, true, false, false, false, true, false, false, false, false, false, false, false, false, false, false, false, false, false, false, false, false, false, false] rfl rfl (any_of HT_.out (by kernel_rfl)) (fun _ _ _ h => h) (Or.inl ⟨by rfl, ?_⟩) ?_ ?_
                            rotate_left
                            · intro w'
                              go_simp
                              with_reducible rfl
                            rotate_left
                            · simp only [Act.put, List.setIfInBounds_toArray, List.set_cons_zero, List.set_cons_succ, i64_w, i32_w]
                              rfl
                            refine pure_ (i := 16) (N := some 43) (v := ?_) (a' := ?_) #[true, true, true, true, true, true, true, true, false, true, false, true, false, false, false, true, true, false, false, false, false, false, false, false, false, false, false, false, false, false, false, false, false, false] rfl rfl (any_of HT_.out (by kernel_rfl)) (fun _ _ _ h => h) (Or.inl ⟨by rfl, ?_⟩) ?_ ?_
                            rotate_left
                            · intro w'
                              go_simp
                              with_reducible rfl
                            rotate_left
                            · simp only [Act.put, List.setIfInBounds_toArray, List.set_cons_zero, List.set_cons_succ, i64_w, i32_w]
                              rfl
                            refine take_ (i := 8) (N := some 35) (v := ?_) (a' := ?_) #[true, true, true, true, true, true, true, true, true, true, false, true, false, false, false, true, true, false, false, false, false, false, false, false, false, false, false, false, false, false, false, false, false, false] rfl rfl (take_ofW HT_.out HW_.out (by kernel_rfl)) (fun _ _ _ h => h) (Or.inl ⟨by rfl, ?_⟩) hHeld ?_ ?_
                            rotate_left
                            · rintro w' ⟨s0, s1, s2⟩
                              go_simp
                              with_reducible rfl
                            rotate_left
                            · simp only [Act.put, List.setIfInBounds_toArray, List.set_cons_zero, List.set_cons_succ, i64_w, i32_w]
                              rfl
                            refine take_ (i := 10) (N := some 37) (v := ?_) (a' := ?_) #[true, true, true, true, true, true, true, true, true, true, true, true, false, false, false, true, true, false, false, false, false, false, false, false, false, false, false, false, false, false, false, false, false, false] rfl rfl (take_ofW HT_.out HW_.out (by kernel_rfl)) (fun _ _ _ h => h) (Or.inl ⟨by rfl, ?_⟩) hHeld ?_ ?_
                            rotate_left
                            · rintro w' ⟨s0, s1, s2⟩
                              go_simp
                              with_reducible rfl
                            rotate_left
                            · simp only [Act.put, List.setIfInBounds_toArray, List.set_cons_zero, List.set_cons_succ, i64_w, i32_w]
                              rfl
                            refine pure_ (i := 12) (N := some 39) (v := ?_) (a' := ?_) #[true, true, true, true, true, true, true, true, true, true, true, true, true, false, false, true, true, false, false, false, false, false, false, false, false, false, false, false, false, false, false, false, false, false] rfl rfl (any_of HT_.out (by kernel_rfl)) (fun _ _ _ h => h) (Or.inl ⟨by rfl, ?_⟩) ?_ ?_
                            rotate_left
                            · intro w'
                              go_simp
                              with_reducible rfl
                            rotate_left
                            · simp only [Act.put, List.setIfInBounds_toArray, List.set_cons_zero, List.set_cons_succ, i64_w, i32_w]
                              rfl
                            refine take_ (i := 13) (N := some 40) (v := ?_) (a' := ?_) #[true, true, true, true, true, true, true, true, true, true, true, true, true, true, false, true, true, false, false, false, false, false, false, false, false, false, false, false, false, false, false, false, false, false] rfl rfl (take_ofW HT_.out HW_.out (by kernel_rfl)) (fun _ _ _ h => h) (Or.inl ⟨by rfl, ?_⟩) hHeld ?_ ?_
                            rotate_left
                            · rintro w' ⟨s0, s1, s2⟩
                              go_simp
                              with_reducible rfl
                            rotate_left
                            · simp only [Act.put, List.setIfInBounds_toArray, List.set_cons_zero, List.set_cons_succ, i64_w, i32_w]
                              rfl
                            refine one_ (i := 14) (N := some 41) #[true, true, true, true, true, true, true, true, true, true, true, true, true, true, true, true, true, false, false, false, false, false, false, false, false, false, false, false, false, false, false, false, false, false] rfl rfl (one_of HT_.out (by kernel_rfl)) (by decide) (fun K hK => ?_)
                            refine goes_ Try.func16 (by kernel_rfl) rfl #[.agg #[.slice (some ad267) t254.length co17], .agg #[.int .i64 ((rd_T27 t254 x5_1).f0), .int .i64 ((rd_T27 t254 x5_1).f1)]] (by rfl) rfl rfl (by (try simp only [List.map_toArray, List.map_cons, List.map_nil]); first | done | rfl | (simp only [List.length_drop, List.length_take]; rfl)) ?_
                            with_reducible refine (impl_MapPort.calls k1 _ _ t254 ((rd_T27 t254 x5_1).f0) ((rd_T27 t254 x5_1).f1) t268 _ ?side1 ?side2 A27.out).mono ?_
                            (case side1 => repeat (first | exact (Kd.R_reads' HO_258000.out).2.2 | (with_reducible refine Kd.C_alloc ?_ _) | (with_reducible refine Kd.C_drewN ?_ _) | (with_reducible refine Kd.C_drew ?_)))
                            (case side2 => exact (Kd.R_reads' HO_258000.out).2.1)
                            rintro e w69 ⟨rfl, hb⟩
                            have HS1_ := (hb.cell (World.block_lt_of_cell? _ _ (hHeld.2.1))).trans (hHeld.2.1)
                            have HS2_ := (hb.cell (World.block_lt_of_cell? _ _ (hHeld.2.2))).trans (hHeld.2.2)
                            refine ⟨_, rfl, ?_⟩
                            have n0_ := Aside0.mk (Kd.R_below (by (with_reducible repeat (first | apply Kd.R_alloc | apply Kd.R_drewN | apply Kd.R_drew)); exact HO_258000.out) hb)
                            have n1_ := Aside0.mk (blk_below (g := gb257) (o := .cells #[.slice (some ad267) t254.length co17] 32 (0, 0)) (by (with_reducible repeat (first | refine blk_drewN ?_ _ | refine blk_drew ?_ | refine blk_alloc ?_ _)); exact BK257.out) hb)
                            have n2_ := Aside0.mk (Kd.C_below (by repeat (first | (with_reducible exact HR265.out) | (with_reducible refine Kd.C_alloc ?_ _) | (with_reducible refine Kd.C_drewN ?_ _) | (with_reducible refine Kd.C_drew ?_) | exact HR265.out)) hb)
                            have n3_ := Aside0.mk (below_step (by repeat (first | (with_reducible first | exact HB.out | apply below_alloc | apply pw_below_drewN | apply below_drew1 | refine below_set ?_ GE257.out) | exact HB.out)) hb)
                            clear HO_258000
                            clear BK257
                            clear HR265
                            clear HB
                            have HO_258000 := n0_
                            have BK257 := n1_
                            have HR265 := n2_
                            have HB := n3_
                            clear n0_ n1_ n2_ n3_
                            (try clear hb)
                            (try clear hb2)
                            (try clear hk)
                            (try clear hi)
                            refine hK.out _ _ ⟨(blk_cell BK257.out 0).trans rfl, HS1_, HS2_⟩ (fun hHeld => ?_)
                            clear hK K
                            refine norm_ (a' := ?_) ?_ ?_
                            rotate_left
                            · show Act.put _ (some 41) _ = _
                              simp only [Act.put, List.setIfInBounds_toArray, List.set_cons_zero, List.set_cons_succ, i64_w, i32_w]
                              rfl
                            refine pure_ (i := 17) (N := some 44) (v := ?_) (a' := ?_) #[true, true, true, true, true, true, true, true, true, true, true, true, true, true, true, true, true, true, false, false, false, false, false, false, false, false, false, false, false, false, false, false, false, false] rfl rfl (any_of HT_.out (by kernel_rfl)) (fun _ _ _ h => h) (Or.inl ⟨by rfl, ?_⟩) ?_ ?_
                            rotate_left
                            · intro w'
                              go_simp
                              with_reducible rfl
                            rotate_left
                            · simp only [Act.put, List.setIfInBounds_toArray, List.set_cons_zero, List.set_cons_succ, i64_w, i32_w]
                              rfl
                            refine pure_ (i := 18) (N := some 45) (v := ?_) (a' := ?_) #[true, true, true, true, true, true, true, true, true, true, true, true, true, true, true, true, true, true, true, false, false, false, false, false, false, false, false, false, false, false, false, false, false, false] rfl rfl (any_of HT_.out (by kernel_rfl)) (fun _ _ _ h => h) (Or.inl ⟨by rfl, ?_⟩) ?_ ?_
                            rotate_left
                            · intro w'
                              go_simp
                              with_reducible rfl
                            rotate_left
                            · simp only [Act.put, List.setIfInBounds_toArray, List.set_cons_zero, List.set_cons_succ, i64_w, i32_w]
                              rfl
                            refine pure_ (i := 19) (N := some 46) (v := ?_) (a' := ?_) #[true, true, true, true, true, true, true, true, true, true, true, true, true, true, true, true, true, true, true, true, false, false, false, false, false, false, false, false, false, false, false, false, false, false] rfl rfl (any_of HT_.out (by kernel_rfl)) (fun _ _ _ h => h) (Or.inl ⟨by rfl, ?_⟩) ?_ ?_
                            rotate_left
                            · intro w'
                              go_simp
                              with_reducible rfl
                            rotate_left
                            · simp only [Act.put, List.setIfInBounds_toArray, List.set_cons_zero, List.set_cons_succ, i64_w, i32_w]
                              rfl
                            refine pure_ (i := 20) (N := some 47) (v := undef) (a' := ?_) #[true, true, true, true, true, true, true, true, true, true, true, true, true, true, true, true, true, true, true, true, true, false, false, false, false, false, false, false, false, false, false, false, false, false] rfl rfl (any_of HT_.out (by kernel_rfl)) (fun _ _ _ h => h) (Or.inr ⟨by rfl, rfl⟩) ?_ ?_
                            rotate_left
                            · simp only [Act.put, List.setIfInBounds_toArray, List.set_cons_zero, List.set_cons_succ, i64_w, i32_w]
                              rfl
                            refine pure_ (i := 21) (N := some 48) (v := undef) (a' := ?_) #[true, true, true, true, true, true, true, true, true, true, true, true, true, true, true, true, true, true, true, true, true, true, false, false, false, false, false, false, false, false, false, false, false, false] rfl rfl (any_of HT_.out (by kernel_rfl)) (fun _ _ _ h => h) (Or.inr ⟨by rfl, rfl⟩) ?_ ?_
                            rotate_left
                            · simp only [Act.put, List.setIfInBounds_toArray, List.set_cons_zero, List.set_cons_succ, i64_w, i32_w]
                              rfl
                            refine pure_ (i := 22) (N := some 49) (v := undef) (a' := ?_) #[true, true, true, true, true, true, true, true, true, true, true, true, true, true, true, true, true, true, true, true, true, true, true, false, false, false, false, false, false, false, false, false, false, false] rfl rfl (any_of HT_.out (by kernel_rfl)) (fun _ _ _ h => h) (Or.inr ⟨by rfl, rfl⟩) ?_ ?_
                            rotate_left
                            · simp only [Act.put, List.setIfInBounds_toArray, List.set_cons_zero, List.set_cons_succ, i64_w, i32_w]
                              rfl
                            refine pure_ (i := 23) (N := some 50) (v := undef) (a' := ?_) #[true, true, true, true, true, true, true, true, true, true, true, true, true, true, true, true, true, true, true, true, true, true, true, true, false, false, false, false, false, false, false, false, false, false] rfl rfl (any_of HT_.out (by kernel_rfl)) (fun _ _ _ h => h) (Or.inr ⟨by rfl, rfl⟩) ?_ ?_
                            rotate_left
                            · simp only [Act.put, List.setIfInBounds_toArray, List.set_cons_zero, List.set_cons_succ, i64_w, i32_w]
                              rfl
                            refine pure_ (i := 24) (N := some 51) (v := undef) (a' := ?_) #[true, true, true, true, true, true, true, true, true, true, true, true, true, true, true, true, true, true, true, true, true, true, true, true, true, false, false, false, false, false, false, false, false, false] rfl rfl (any_of HT_.out (by kernel_rfl)) (fun _ _ _ h => h) (Or.inr ⟨by rfl, rfl⟩) ?_ ?_
                            rotate_left
                            · simp only [Act.put, List.setIfInBounds_toArray, List.set_cons_zero, List.set_cons_succ, i64_w, i32_w]
                              rfl
                            refine pure_ (i := 25) (N := some 52) (v := undef) (a' := ?_) #[true, true, true, true, true, true, true, true, true, true, true, true, true, true, true, true, true, true, true, true, true, true, true, true, true, true, false, false, false, false, false, false, false, false] rfl rfl (any_of HT_.out (by kernel_rfl)) (fun _ _ _ h => h) (Or.inr ⟨by rfl, rfl⟩) ?_ ?_
                            rotate_left
                            · simp only [Act.put, List.setIfInBounds_toArray, List.set_cons_zero, List.set_cons_succ, i64_w, i32_w]
                              rfl
                            refine pure_ (i := 26) (N := some 53) (v := undef) (a' := ?_) #[true, true, true, true, true, true, true, true, true, true, true, true, true, true, true, true, true, true, true, true, true, true, true, true, true, true, true, false, false, false, false, false, false, false] rfl rfl (any_of HT_.out (by kernel_rfl)) (fun _ _ _ h => h) (Or.inr ⟨by rfl, rfl⟩) ?_ ?_
                            rotate_left
                            · simp only [Act.put, List.setIfInBounds_toArray, List.set_cons_zero, List.set_cons_succ, i64_w, i32_w]
                              rfl
                            refine pure_ (i := 27) (N := some 54) (v := undef) (a' := ?_) #[true, true, true, true, true, true, true, true, true, true, true, true, true, true, true, true, true, true, true, true, true, true, true, true, true, true, true, true, false, false, false, false, false, false] rfl rfl (any_of HT_.out (by kernel_rfl)) (fun _ _ _ h => h) (Or.inr ⟨by rfl, rfl⟩) ?_ ?_
                            rotate_left
                            · simp only [Act.put, List.setIfInBounds_toArray, List.set_cons_zero, List.set_cons_succ, i64_w, i32_w]
                              rfl
                            refine pure_ (i := 28) (N := some 55) (v := undef) (a' := ?_) #[true, true, true, true, true, true, true, true, true, true, true, true, true, true, true, true, true, true, true, true, true, true, true, true, true, true, true, true, true, false, false, false, false, false] rfl rfl (any_of HT_.out (by kernel_rfl)) (fun _ _ _ h => h) (Or.inr ⟨by rfl, rfl⟩) ?_ ?_
                            rotate_left
                            · simp only [Act.put, List.setIfInBounds_toArray, List.set_cons_zero, List.set_cons_succ, i64_w, i32_w]
                              rfl
                            refine pure_ (i := 29) (N := some 56) (v := undef) (a' := ?_) #[true, true, true, true, true, true, true, true, true, true, true, true, true, true, true, true, true, true, true, true, true, true, true, true, true, true, true, true, true, true, false, false, false, false] rfl rfl (any_of HT_.out (by kernel_rfl)) (fun _ _ _ h => h) (Or.inr ⟨by rfl, rfl⟩) ?_ ?_
                            rotate_left
                            · simp only [Act.put, List.setIfInBounds_toArray, List.set_cons_zero, List.set_cons_succ, i64_w, i32_w]
                              rfl
                            refine pure_ (i := 30) (N := some 57) (v := undef) (a' := ?_) #[true, true, true, true, true, true, true, true, true, true, true, true, true, true, true, true, true, true, true, true, true, true, true, true, true, true, true, true, true, true, true, false, false, false] rfl rfl (any_of HT_.out (by kernel_rfl)) (fun _ _ _ h => h) (Or.inr ⟨by rfl, rfl⟩) ?_ ?_
                            rotate_left
                            · simp only [Act.put, List.setIfInBounds_toArray, List.set_cons_zero, List.set_cons_succ, i64_w, i32_w]
                              rfl
                            refine pure_ (i := 31) (N := some 58) (v := undef) (a' := ?_) #[true, true, true, true, true, true, true, true, true, true, true, true, true, true, true, true, true, true, true, true, true, true, true, true, true, true, true, true, true, true, true, true, false, false] rfl rfl (any_of HT_.out (by kernel_rfl)) (fun _ _ _ h => h) (Or.inr ⟨by rfl, rfl⟩) ?_ ?_
                            rotate_left
                            · simp only [Act.put, List.setIfInBounds_toArray, List.set_cons_zero, List.set_cons_succ, i64_w, i32_w]
                              rfl
                            refine pure_ (i := 32) (N := some 59) (v := undef) (a' := ?_) #[true, true, true, true, true, true, true, true, true, true, true, true, true, true, true, true, true, true, true, true, true, true, true, true, true, true, true, true, true, true, true, true, true, false] rfl rfl (any_of HT_.out (by kernel_rfl)) (fun _ _ _ h => h) (Or.inr ⟨by rfl, rfl⟩) ?_ ?_
                            rotate_left
                            · simp only [Act.put, List.setIfInBounds_toArray, List.set_cons_zero, List.set_cons_succ, i64_w, i32_w]
                              rfl
                            refine pure_ (i := 33) (N := some 60) (v := ?_) (a' := ?_) #[true, true, true, true, true, true, true, true, true, true, true, true, true, true, true, true, true, true, true, true, true, true, true, true, true, true, true, true, true, true, true, true, true, true] rfl rfl (any_of HT_.out (by kernel_rfl)) (fun _ _ _ h => h) (Or.inl ⟨by rfl, ?_⟩) ?_ ?_
                            rotate_left
                            · intro w'
                              go_simp
                              with_reducible rfl
                            rotate_left
                            · simp only [Act.put, List.setIfInBounds_toArray, List.set_cons_zero, List.set_cons_succ, i64_w, i32_w]
                              rfl
                            refine done_ (done_of HT_.out (by kernel_rfl)) ?_
                            try go_wp2
                            go_ret
                            exact ⟨by first | rfl | (simp [errW_none, errW_some] <;> rfl) | (simp [*, errW_none, errW_some] <;> rfl), by repeat (first | (with_reducible first | exact HB.out | apply below_alloc | apply pw_below_drewN | apply below_drew1 | refine below_set ?_ GE257.out) | exact HB.out)⟩
                          )
                  · replace c26 := Bool.eq_false_iff.mpr c26
                    subst c26
                    have H1 : (some false) = some r := by rw [if_neg (show ¬ (false = true) by decide)] at H; exact H
                    clear H
                    have H := H1
                    clear H1
                    exact absurd (H.trans (congrArg some HR_.out)) (by simp)
                · rw [if_neg c24] at H
                  exact absurd H (by simp)
              · rw [if_neg c23] at H
                exact absurd H (by simp)
            · rw [if_neg c22] at H
              have c22b0 : decide (x5_1 < (t254.length : Int)) = false := decide_eq_false c22
              clear c22
              replace H := Option.bind_eq_some_iff.mp H
              obtain ⟨t261, A740, H⟩ := H
              replace H : (some t261) = some r := H
              have A74 := Aside0.mk A740
              clear A740
              first
                | exact absurd (H.trans (congrArg some HR_.out)) (by decide)
                | (
                    obtain rfl := Option.some.inj H
                    have hcz75_0 : wr.cell? ⟨gb257, 0, none⟩ = some (.slice Ao17 t254.length co17) := (blk_cell BK257.out 0).trans rfl
                    have hfz75_0 := blk_frozen BK257.out 0
                    go_wp2_with (first | ((with_reducible refine gate_callee (f := 20) rfl ?_); refine goesL_ (some 61) rfl rfl Try.func20 (by kernel_rfl) rfl #[] rfl (by (try simp only [List.map_toArray, List.map_cons, List.map_nil]); first | done | rfl | (simp only [List.length_drop, List.length_take]; rfl)) ?_; (with_reducible refine (laws_haOk.calls  t261 _ A74.out).mono ?_); rintro e w76 ⟨rfl, hb⟩; refine ⟨_, rfl, ?_⟩; have n0_ := Aside0.mk (Kd.R_below (by (with_reducible repeat (first | apply Kd.R_alloc | apply Kd.R_drewN | apply Kd.R_drew)); exact HO_258000.out) hb); have n1_ := Aside0.mk (blk_below (g := gb257) (o := .cells #[.slice Ao17 t254.length co17] 32 (0, 0)) (by (with_reducible repeat (first | refine blk_drewN ?_ _ | refine blk_drew ?_ | refine blk_alloc ?_ _)); exact BK257.out) hb); have n2_ := Aside0.mk (below_step (by repeat (first | (with_reducible first | exact HB.out | apply below_alloc | apply pw_below_drewN | apply below_drew1 | refine below_set ?_ GE257.out) | exact HB.out)) hb); clear HO_258000; clear BK257; clear HB; have HO_258000 := n0_; have BK257 := n1_; have HB := n2_; clear n0_ n1_ n2_; (try clear hb); (try clear hb2); (try clear hk); (try clear hi)))
                    go_ret
                    exact ⟨by first | rfl | (simp [errW_none, errW_some] <;> rfl) | (simp [*, errW_none, errW_some] <;> rfl), by repeat (first | (with_reducible first | exact HB.out | apply below_alloc | apply pw_below_drewN | apply below_drew1 | refine below_set ?_ GE257.out) | exact HB.out)⟩
                  )
      · replace c14 := Bool.eq_false_iff.mpr c14
        subst c14
        have H1 : ((laws_haOk.f).bind fun t260 => (some t260)) = some r := by rw [if_neg (show ¬ (false = true) by decide)] at H; exact H
        clear H
        have H := H1
        clear H1
        replace H := Option.bind_eq_some_iff.mp H
        obtain ⟨t260, A770, H⟩ := H
        replace H : (some t260) = some r := H
        have A77 := Aside0.mk A770
        clear A770
        first
          | exact absurd (H.trans (congrArg some HR_.out)) (by decide)
          | (
              obtain rfl := Option.some.inj H
              go_enter Try.func6, Try.ntmps6
              go_wp2_with (first | ((with_reducible refine gate_callee (f := 19) rfl ?_); refine goesL_ (some 10) rfl rfl Try.func19 (by kernel_rfl) rfl #[.slice A0 l0.length c0] rfl (by (try simp only [List.map_toArray, List.map_cons, List.map_nil]); first | done | rfl | (simp only [List.length_drop, List.length_take]; rfl)) ?_; (with_reducible refine (spec_DrawMapOk.calls k _ _ l0 t254 _ ?side1 ?side2 A3.out).mono ?_); (case side1 => repeat (first | exact HR0.out | (with_reducible refine Kd.C_alloc ?_ _) | (with_reducible refine Kd.C_drewN ?_ _) | (with_reducible refine Kd.C_drew ?_))); (case side2 => exact HC0.out); rintro e w78 ⟨v255, rfl, ho0, hb⟩; refine ⟨_, rfl, ?_⟩; have n0_ := Aside0.mk (Kd.R_lower ho0 (below_size (by repeat (first | (with_reducible first | exact HB.out | apply below_alloc | apply pw_below_drewN | apply below_drew1) | exact HB.out)))); have n1_ := Aside0.mk (below_step (by repeat (first | (with_reducible first | exact HB.out | apply below_alloc | apply pw_below_drewN | apply below_drew1) | exact HB.out)) hb); clear HB; have HO256 := n0_; have HB := n1_; clear n0_ n1_; (try clear hb); (try clear hb2); (try clear hk); (try clear hi); (try clear ho0)) | ((with_reducible refine gate_dst (N := 3) rfl ?_); (try (refine gate_guard (by rfl) ?_; dsimp only)); refine box_event ?hg (N := 3) ?hd (cs := #[.slice none 0 0]) (t := 32) ?hr ?_; (case hd => rfl); (case hg => rfl); (case hr => first | (go_simp; done) | (go_simp; rfl)); intro gb257 hg w79 hbox hb; have n0_ := Aside0.mk (Kd.R_below (by (with_reducible repeat (first | apply Kd.R_alloc | apply Kd.R_drewN | apply Kd.R_drew)); exact HO256.out) hb); have n1_ := Aside0.mk (below_step (by repeat (first | (with_reducible first | exact HB.out | apply below_alloc | apply pw_below_drewN | apply below_drew1) | exact HB.out)) hb); have n2_ := Aside0.mk (hbox); have n3_ := Aside0.mk ((by rw [hg]; exact (below_size (by repeat (first | (with_reducible first | exact HB.out | apply below_alloc | apply pw_below_drewN | apply below_drew1) | exact HB.out))) : w.heap.size ≤ gb257)); have n4_ := Aside0.mk ((by rw [hg]; exact (below_size (by repeat (first | (with_reducible first | exact HB.out | apply below_alloc | apply pw_below_drewN | apply below_drew1) | exact HB.out))) : w.heap.size ≤ gb257)); clear HO256; clear HB; have HO256 := n0_; have HB := n1_; have BK257 := n2_; have GW257 := n3_; have GE257 := n4_; clear n0_ n1_ n2_ n3_ n4_; clear hb hbox hg; obtain ⟨Ao80, co80, eo80⟩ := Kd.R_slice HO256.out; subst eo80; have hcz81_0 : w79.cell? ⟨gb257, 0, none⟩ = some (.slice none 0 0) := (blk_cell BK257.out 0).trans rfl; have hfz81_0 := blk_frozen BK257.out 0) | ((with_reducible refine gate_callee (f := 18) rfl ?_); refine goesL_ (some 12) rfl rfl Try.func18 (by kernel_rfl) rfl #[.agg #[.slice Ao80 t254.length co80]] rfl (by (try simp only [List.map_toArray, List.map_cons, List.map_nil]); first | done | rfl | (simp only [List.length_drop, List.length_take]; rfl)) ?_; (with_reducible refine (impl_MapOk.calls k _ _ t254 false _ ?side1 ?side2 A4.out).mono ?_); (case side1 => refine (Kd.R_reads' (e := 27) (base := w.heap.size) (ok := fun k_ => True) (n := t254.length) (c := co80) ?_).2.2; exact (by (with_reducible repeat (first | apply Kd.R_alloc | apply Kd.R_drewN | apply Kd.R_drew)); exact (Kd.R_mono (Kd.R_far (p := ⟨gb257, 0, none⟩) (Kd.R_types HO256.out BK257.out (by decide)) (fun _ hk => hk.2) (.slice Ao80 t254.length co80)) (fun _ h_ => h_.1)))); (case side2 => exact (Kd.R_reads' HO256.out).2.1); rintro e w82 ⟨rfl, hb⟩; refine ⟨_, rfl, ?_⟩; have n0_ := Aside0.mk (Kd.R_below (by (with_reducible repeat (first | apply Kd.R_alloc | apply Kd.R_drewN | apply Kd.R_drew)); exact (Kd.R_mono (Kd.R_far (p := ⟨gb257, 0, none⟩) (Kd.R_types HO256.out BK257.out (by decide)) (fun _ hk => hk.2) (.slice Ao80 t254.length co80)) (fun _ h_ => h_.1))) hb); have n1_ := Aside0.mk (blk_below (g := gb257) (o := .cells #[.slice Ao80 t254.length co80] 32 (0, 0)) (by (with_reducible repeat (first | refine blk_drewN ?_ _ | refine blk_drew ?_ | refine blk_alloc ?_ _)); refine blk_put (cs := #[.slice none 0 0]) ?_ 0 _ rfl; (with_reducible repeat (first | refine blk_drewN ?_ _ | refine blk_drew ?_ | refine blk_alloc ?_ _)); exact BK257.out) hb); have n2_ := Aside0.mk (below_step (by repeat (first | (with_reducible first | exact HB.out | apply below_alloc | apply pw_below_drewN | apply below_drew1 | refine below_set ?_ GE257.out) | exact HB.out)) hb); clear HO256; clear BK257; clear HB; have HO256 := n0_; have BK257 := n1_; have HB := n2_; clear n0_ n1_ n2_; (try clear hb); (try clear hb2); (try clear hk); (try clear hi); have hcz83_0 : w82.cell? ⟨gb257, 0, none⟩ = some (.slice Ao80 t254.length co80) := (blk_cell BK257.out 0).trans rfl; have hfz83_0 := blk_frozen BK257.out 0) | ((with_reducible refine gate_callee (f := 17) rfl ?_); refine goesL_ (some 15) rfl rfl Try.func17 (by kernel_rfl) rfl #[.agg #[.slice Ao80 t254.length co80]] rfl (by (try simp only [List.map_toArray, List.map_cons, List.map_nil]); first | done | rfl | (simp only [List.length_drop, List.length_take]; rfl)) ?_; (with_reducible refine (spec_MapOk.calls k _ _ t254 t259 _ ?side1 ?side2 A5.out).mono ?_); (case side1 => repeat (first | exact (Kd.R_reads' HO256.out).2.2 | (with_reducible refine Kd.C_alloc ?_ _) | (with_reducible refine Kd.C_drewN ?_ _) | (with_reducible refine Kd.C_drew ?_))); (case side2 => exact (Kd.R_reads' HO256.out).2.1); rintro e w84 ⟨rfl, hb⟩; refine ⟨_, rfl, ?_⟩; have n0_ := Aside0.mk (Kd.R_below (by (with_reducible repeat (first | apply Kd.R_alloc | apply Kd.R_drewN | apply Kd.R_drew)); exact HO256.out) hb); have n1_ := Aside0.mk (blk_below (g := gb257) (o := .cells #[.slice Ao80 t254.length co80] 32 (0, 0)) (by (with_reducible repeat (first | refine blk_drewN ?_ _ | refine blk_drew ?_ | refine blk_alloc ?_ _)); exact BK257.out) hb); have n2_ := Aside0.mk (below_step (by repeat (first | (with_reducible first | exact HB.out | apply below_alloc | apply pw_below_drewN | apply below_drew1 | refine below_set ?_ GE257.out) | exact HB.out)) hb); clear HO256; clear BK257; clear HB; have HO256 := n0_; have BK257 := n1_; have HB := n2_; clear n0_ n1_ n2_; (try clear hb); (try clear hb2); (try clear hk); (try clear hi)) | ((with_reducible refine gate_callee (f := 20) rfl ?_); refine goesL_ (some 19) rfl rfl Try.func20 (by kernel_rfl) rfl #[] rfl (by (try simp only [List.map_toArray, List.map_cons, List.map_nil]); first | done | rfl | (simp only [List.length_drop, List.length_take]; rfl)) ?_; (with_reducible refine (laws_haOk.calls  t260 _ A77.out).mono ?_); rintro e w85 ⟨rfl, hb⟩; refine ⟨_, rfl, ?_⟩; have n0_ := Aside0.mk (Kd.R_below (by (with_reducible repeat (first | apply Kd.R_alloc | apply Kd.R_drewN | apply Kd.R_drew)); exact HO256.out) hb); have n1_ := Aside0.mk (blk_below (g := gb257) (o := .cells #[.slice Ao80 t254.length co80] 32 (0, 0)) (by (with_reducible repeat (first | refine blk_drewN ?_ _ | refine blk_drew ?_ | refine blk_alloc ?_ _)); exact BK257.out) hb); have n2_ := Aside0.mk (below_step (by repeat (first | (with_reducible first | exact HB.out | apply below_alloc | apply pw_below_drewN | apply below_drew1 | refine below_set ?_ GE257.out) | exact HB.out)) hb); clear HO256; clear BK257; clear HB; have HO256 := n0_; have BK257 := n1_; have HB := n2_; clear n0_ n1_ n2_; (try clear hb); (try clear hb2); (try clear hk); (try clear hi)))
              go_ret
              exact ⟨by first | rfl | (simp [errW_none, errW_some] <;> rfl) | (simp [*, errW_none, errW_some] <;> rfl), by repeat (first | (with_reducible first | exact HB.out | apply below_alloc | apply pw_below_drewN | apply below_drew1 | refine below_set ?_ GE257.out) | exact HB.out)⟩
            )

/-- THE ONE PURE STATEMENT of laws_FnMapOk: yours. -/
def laws_FnMapOk.Pure : Prop := ∀ (l0 : List Int), l0.length ≤ maxLen → l0.length * 1 ≤ 140737488351232 → (∀ x ∈ l0, (Lit.int .u8 x).wf = true) → ∃ k, laws_FnMapOk.f k l0 = some true
theorem laws_FnMapOk.walk (P : laws_FnMapOk.Pure) (a0 : Option Addr) (len0 cap0 : Nat) (z0 : List Int) (w : World) (w0 : (a0 = none ∧ len0 = 0 ∧ cap0 = 0 ∧ z0 = []) ∨ ∃ x, a0 = some x ∧ len0 ≤ cap0 ∧ cap0 ≤ maxLen ∧ z0.length = cap0 ∧ (∀ i, i < z0.length → w.cell? (x.add i) = some (.int .u8 (z0.getD i 0))) ∧ ∀ n ∈ z0, (Lit.int .u8 n).wf = true) (y0 : len0 * 1 ≤ 140737488351232) :
    Calls Try.prog 6 #[.slice a0 len0 cap0] w fun e w' => e = .returned (.bool true) ∧ Below w.heap.size w w' := by
  obtain ⟨l0, rfl, hr0, hm0, hw0, hc0⟩ := ReadsInt.ofRowC w0
  obtain ⟨k, h⟩ := P l0 hm0 y0 hw0
  refine (laws_FnMapOk.calls k _ _ l0 true rfl w (Kd.C_of_reads (d := (0 : Int)) (h1 := fun _ => rfl) hr0) hc0 h).mono ?_
  rintro e w' ⟨rfl, hd⟩
  exact ⟨rfl, hd⟩

end Go.Proofs.Ytlofgoahgnllkaa.QFnMapOk
