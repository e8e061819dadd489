-- Laid by a program of this repo (wip/tools/sprint.py): print.py's functions and walks; the contracts named 'BY HAND' are proved by hand.
import Derived.Test.YtdfoelhpeeanlaaDoorQFnSegReadx2
import Derived.Test.YtdfoelhpeeanlaaDoorQFnSegReadx1
import Derived.Test.YtdfoelhpeeanlaaDoorQFnSegReadx0
import Derived.Test.YtdfoelhpeeanlaaDoorQFnSegReadx3
import Derived.Test.YtdfoelhpeeanlaaDoorQFnSegReadx4
namespace Go.Proofs.YtdfoelhpeeanlaaDoor.QFnSegRead
open Go.RowKit Go.Proofs.YtdfoelhpeeanlaaDoorW.PrintWords Go.Proofs.YtdfoelhpeeanlaaDoorW.PrintLast Go.Proofs.YtdfoelhpeeanlaaDoorW.PrintMore
attribute [local go_sem] max2_int min2_int max_two min_two max_three min_three max_four min_four   -- for this text's walks alone
set_option linter.unusedVariables false
set_option linter.unusedSimpArgs false

/-! ### impl_SegBytes: function 13 -/
def impl_SegBytes.l0 : Nat → List Int → List Int → Int → Int → Int → Int → Int → Int → Int → Int → ByteArray → Option (List Int)
 | 0, _, _, _, _, _, _, _, _, _, _, _ => none
 | k + 1, x3, x30, x31, x32, x153000, x153001, x153002, x153003, x153004, x153005, x153006 => if x32 < x31 then (if 0 ≤ x32 then (if x32 < (x30.length : Int) then ((impl_two.f (rd x30 x32)).bind fun t161 => (if x3.length + t161.length < 140737488355328 then (impl_SegBytes.l0 k (x3 ++ t161) x30 x31 (wrap64 (x32 + 1)) x153000 x153001 x153002 x153003 x153004 x153005 x153006) else (none))) else (none)) else (none)) else (if x3.length < 140737488355328 then ((some (x3 ++ [((x153006.size : Int)) % 256] : List Int)).bind fun y167 => (if y167.length + x153006.size < 140737488355328 then ((some (y167 ++ bytesOf x153006 : List Int)).bind fun y170 => ((impl_SegSum.f k y170).bind fun t173 => ((impl_two.f t173).bind fun t174 => (if y170.length + t174.length < 140737488355328 then (some (y170 ++ t174)) else (none))))) else (none))) else (none))
def impl_SegBytes.f (k : Nat) (a0_0 : Int) (a0_1 : Int) (a0_2 : Int) (a0_3 : Int) (a0_4 : Int) (a0_5 : Int) (a0_6 : ByteArray) : Option (List Int) := (impl_SegOk.f k a0_0 a0_1 a0_2 a0_3 a0_4 a0_5 a0_6).bind fun t153 => (if t153 = true then (if 0 ≤ 281474976710656 then ((some (([a0_0, a0_1, a0_2, a0_3, a0_4, a0_5] : List Int) : List Int)).bind fun y157 => (impl_SegBytes.l0 k (List.replicate 0 0) y157 (y157.length : Int) 0 a0_0 a0_1 a0_2 a0_3 a0_4 a0_5 a0_6)) else (none)) else (some ([] : List Int)))
theorem impl_SegBytes.mono_l : ∀ k, (∀ y0 y1 y2 y3 y4 y5 y6 y7 y8 y9 y10, LeO (impl_SegBytes.l0 k y0 y1 y2 y3 y4 y5 y6 y7 y8 y9 y10) (impl_SegBytes.l0 (k + 1) y0 y1 y2 y3 y4 y5 y6 y7 y8 y9 y10))
 | 0 => fun _ _ _ _ _ _ _ _ _ _ _ r h => by simp [impl_SegBytes.l0] at h
 | k + 1 => by
  have ih0 := impl_SegBytes.mono_l k
  ·intro y0 y1 y2 y3 y4 y5 y6 y7 y8 y9 y10
   unfold impl_SegBytes.l0
   repeat' first
   | (with_reducible exact ih0 _ _ _ _ _ _ _ _ _ _ _)
   | (with_reducible exact impl_SegOk.mono _ _ _ _ _ _ _ _)
   | (with_reducible exact impl_SegSum.mono _ _)
   | (with_reducible exact LeO.refl _)
   | (with_reducible exact LeO.none _)
   | (with_reducible refine LeO.ite ?_ ?_)
   | (with_reducible refine LeO.bind ?_ (fun _ => ?_))
   | exact ih0 _ _ _ _ _ _ _ _ _ _ _
   | exact impl_SegOk.mono _ _ _ _ _ _ _ _
   | exact impl_SegSum.mono _ _
   | exact LeO.none _
   | refine LeO.ite ?_ ?_
   | refine LeO.bind ?_ (fun _ => ?_)
theorem impl_SegBytes.mono : ∀ a0 a1 a2 a3 a4 a5 a6 k, LeO (impl_SegBytes.f k a0 a1 a2 a3 a4 a5 a6) (impl_SegBytes.f (k + 1) a0 a1 a2 a3 a4 a5 a6) := by
 intro a0 a1 a2 a3 a4 a5 a6 k
 have ih0 := impl_SegBytes.mono_l k
 unfold impl_SegBytes.f
 repeat' first
   | (with_reducible exact ih0 _ _ _ _ _ _ _ _ _ _ _)
   | (with_reducible exact impl_SegOk.mono _ _ _ _ _ _ _ _)
   | (with_reducible exact impl_SegSum.mono _ _)
   | (with_reducible exact LeO.refl _)
   | (with_reducible exact LeO.none _)
   | (with_reducible refine LeO.ite ?_ ?_)
   | (with_reducible refine LeO.bind ?_ (fun _ => ?_))
   | exact ih0 _ _ _ _ _ _ _ _ _ _ _
   | exact impl_SegOk.mono _ _ _ _ _ _ _ _
   | exact impl_SegSum.mono _ _
   | exact LeO.none _
   | refine LeO.ite ?_ ?_
   | refine LeO.bind ?_ (fun _ => ?_)
set_option maxHeartbeats 8000000 in
set_option maxRecDepth 100000 in
theorem impl_SegBytes.calls (k : Nat) (a0_0 : Int) (a0_1 : Int) (a0_2 : Int) (a0_3 : Int) (a0_4 : Int) (a0_5 : Int) (a0_6 : ByteArray) (r : List Int) (w : World) (h : impl_SegBytes.f k a0_0 a0_1 a0_2 a0_3 a0_4 a0_5 a0_6 = some r) :
  Calls Tryd.prog 13 #[.agg #[.int .i64 a0_0, .int .i64 a0_1, .int .i64 a0_2, .int .i64 a0_3, .int .i64 a0_4, .int .i64 a0_5, .string a0_6]] w fun e w' => ∃ v0_ : Value, e = .returned (v0_) ∧ Kd.R (Kd.int .u8) 5 w' w.heap.size (fun _ => True) v0_ r ∧ Below w.heap.size w w' := by
 have hu26 := Tryd.underlying26
 have HB := Aside0.mk (Below.refl w.heap.size w)
 have H : ((impl_SegOk.f k a0_0 a0_1 a0_2 a0_3 a0_4 a0_5 a0_6).bind fun t153 => (if t153 = true then (if 0 ≤ 281474976710656 then ((some (([a0_0, a0_1, a0_2, a0_3, a0_4, a0_5] : List Int) : List Int)).bind fun y157 => (impl_SegBytes.l0 k (List.replicate 0 0) y157 (y157.length : Int) 0 a0_0 a0_1 a0_2 a0_3 a0_4 a0_5 a0_6)) else (none)) else (some ([] : List Int)))) = some r := h
 clear h
 replace H := Option.bind_eq_some_iff.mp H
 obtain ⟨t153, A20, H⟩ := H
 replace H : (if t153 = true then (if 0 ≤ 281474976710656 then ((some (([a0_0, a0_1, a0_2, a0_3, a0_4, a0_5] : List Int) : List Int)).bind fun y157 => (impl_SegBytes.l0 k (List.replicate 0 0) y157 (y157.length : Int) 0 a0_0 a0_1 a0_2 a0_3 a0_4 a0_5 a0_6)) else (none)) else (some ([] : List Int))) = some r := H
 have A2 := Aside0.mk A20
 clear A20
 by_cases c3 : t153 = true
 ·subst c3
  have H1 : (if 0 ≤ 281474976710656 then ((some (([a0_0, a0_1, a0_2, a0_3, a0_4, a0_5] : List Int) : List Int)).bind fun y157 => (impl_SegBytes.l0 k (List.replicate 0 0) y157 (y157.length : Int) 0 a0_0 a0_1 a0_2 a0_3 a0_4 a0_5 a0_6)) else (none)) = some r := by rw [if_pos rfl] at H; exact H
  clear H
  have H := H1
  clear H1
  by_cases c4 : 0 ≤ 281474976710656
  ·rw [if_pos c4] at H
   have c4b0 := eq_true c4
   have c4b1 : decide (0 ≤ 281474976710656) = true := decide_eq_true c4
   clear c4
   obtain ⟨y154, hy154⟩ : ∃ y_ : List Int, y_ = (List.replicate 0 0) := ⟨_, rfl⟩
   replace H : ((some (([a0_0, a0_1, a0_2, a0_3, a0_4, a0_5] : List Int) : List Int)).bind fun y157 => (impl_SegBytes.l0 k y154 y157 (y157.length : Int) 0 a0_0 a0_1 a0_2 a0_3 a0_4 a0_5 a0_6)) = some r := by first | (rw [hy154]; with_reducible exact H) | (have H2_ := (Option.bind_some _ _).symm.trans H; rw [hy154]; with_reducible exact H2_) | (have H2_ := (Option.bind_some _ _).symm.trans H; with_reducible exact H2_) | with_reducible exact H | (rw [hy154]; exact H) | exact H
   have Ny154 := Aside0.mk hy154
   clear hy154
   obtain ⟨y157, hy157⟩ : ∃ y_ : List Int, y_ = (([a0_0, a0_1, a0_2, a0_3, a0_4, a0_5] : List Int)) := ⟨_, rfl⟩
   replace H : (impl_SegBytes.l0 k y154 y157 (y157.length : Int) 0 a0_0 a0_1 a0_2 a0_3 a0_4 a0_5 a0_6) = some r := by first | (rw [hy157]; with_reducible exact H) | (have H2_ := (Option.bind_some _ _).symm.trans H; rw [hy157]; with_reducible exact H2_) | (have H2_ := (Option.bind_some _ _).symm.trans H; with_reducible exact H2_) | with_reducible exact H | (rw [hy157]; exact H) | exact H
   have Ny157 := Aside0.mk hy157
   clear hy157
   have H' := Aside0.mk H
   clear H
   have HSZ := Aside0.mk (seg_size a0_0 a0_1 a0_2 a0_3 a0_4 a0_5 a0_6 k A2.out)
   go_enter Tryd.func13, Tryd.ntmps13
   go_wp2_with (first | ((with_reducible refine gate_dst (N := 1) rfl ?_); refine box_event ?hg (N := 1) ?hd (cs := #[.int .i64 a0_0, .int .i64 a0_1, .int .i64 a0_2, .int .i64 a0_3, .int .i64 a0_4, .int .i64 a0_5, .string a0_6]) (t := 26) ?hr ?_; (case hd => rfl); (case hg => rfl); (case hr => first | (go_simp; done) | (go_simp; rfl)); intro gb152 hg w5 hbox hb; have n0_ := Aside0.mk (below_step Z35 hb); have n1_ := Aside0.mk (hbox); have n2_ := Aside0.mk ((Z93 : w.heap.size ≤ gb152)); have n3_ := Aside0.mk ((Z93 : w.heap.size ≤ gb152)); clear HB; have HB := n0_; have BK152 := n1_; have GW152 := n2_; have GE152 := n3_; clear n0_ n1_ n2_ n3_; clear hb hbox hg; have hcz6_0 : w5.cell? ⟨gb152, 0, none⟩ = some (.int .i64 a0_0) := (blk_cell BK152.out 0).trans rfl; have hcz6_1 : w5.cell? ⟨gb152, 1, none⟩ = some (.int .i64 a0_1) := (blk_cell BK152.out 1).trans rfl; have hcz6_2 : w5.cell? ⟨gb152, 2, none⟩ = some (.int .i64 a0_2) := (blk_cell BK152.out 2).trans rfl; have hcz6_3 : w5.cell? ⟨gb152, 3, none⟩ = some (.int .i64 a0_3) := (blk_cell BK152.out 3).trans rfl; have hcz6_4 : w5.cell? ⟨gb152, 4, none⟩ = some (.int .i64 a0_4) := (blk_cell BK152.out 4).trans rfl; have hcz6_5 : w5.cell? ⟨gb152, 5, none⟩ = some (.int .i64 a0_5) := (blk_cell BK152.out 5).trans rfl; have hcz6_6 : w5.cell? ⟨gb152, 6, none⟩ = some (.string a0_6) := (blk_cell BK152.out 6).trans rfl; have hfz6_0 := blk_frozen BK152.out 0; have hfz6_1 := blk_frozen BK152.out 1; have hfz6_2 := blk_frozen BK152.out 2; have hfz6_3 := blk_frozen BK152.out 3; have hfz6_4 := blk_frozen BK152.out 4; have hfz6_5 := blk_frozen BK152.out 5; have hfz6_6 := blk_frozen BK152.out 6) | ((with_reducible refine gate_callee (f := 16) rfl ?_); refine goesL_ (some 7) rfl rfl Tryd.func16 (by kernel_rfl) rfl #[.agg #[.int .i64 a0_0, .int .i64 a0_1, .int .i64 a0_2, .int .i64 a0_3, .int .i64 a0_4, .int .i64 a0_5, .string a0_6]] rfl Z37 ?_; (with_reducible refine (impl_SegOk.calls k a0_0 a0_1 a0_2 a0_3 a0_4 a0_5 a0_6 true _ A2.out).mono ?_); rintro e w7 ⟨rfl, hb⟩; refine ⟨_, rfl, ?_⟩; have n0_ := Aside0.mk (blk_below (g := gb152) (o := .cells #[.int .i64 a0_0, .int .i64 a0_1, .int .i64 a0_2, .int .i64 a0_3, .int .i64 a0_4, .int .i64 a0_5, .string a0_6] 26 (0, 0)) Z22 hb); have n1_ := Aside0.mk (below_step Z46 hb); clear BK152; clear HB; have BK152 := n0_; have HB := n1_; clear n0_ n1_; (try clear hb); have hcz8_0 : w7.cell? ⟨gb152, 0, none⟩ = some (.int .i64 a0_0) := (blk_cell BK152.out 0).trans rfl; have hcz8_1 : w7.cell? ⟨gb152, 1, none⟩ = some (.int .i64 a0_1) := (blk_cell BK152.out 1).trans rfl; have hcz8_2 : w7.cell? ⟨gb152, 2, none⟩ = some (.int .i64 a0_2) := (blk_cell BK152.out 2).trans rfl; have hcz8_3 : w7.cell? ⟨gb152, 3, none⟩ = some (.int .i64 a0_3) := (blk_cell BK152.out 3).trans rfl; have hcz8_4 : w7.cell? ⟨gb152, 4, none⟩ = some (.int .i64 a0_4) := (blk_cell BK152.out 4).trans rfl; have hcz8_5 : w7.cell? ⟨gb152, 5, none⟩ = some (.int .i64 a0_5) := (blk_cell BK152.out 5).trans rfl; have hcz8_6 : w7.cell? ⟨gb152, 6, none⟩ = some (.string a0_6) := (blk_cell BK152.out 6).trans rfl; have hfz8_0 := blk_frozen BK152.out 0; have hfz8_1 := blk_frozen BK152.out 1; have hfz8_2 := blk_frozen BK152.out 2; have hfz8_3 := blk_frozen BK152.out 3; have hfz8_4 := blk_frozen BK152.out 4; have hfz8_5 := blk_frozen BK152.out 5; have hfz8_6 := blk_frozen BK152.out 6) | ((with_reducible refine gate_dst (N := 13) rfl ?_); refine Lib.R_makecap (Kd.int .u8) _ 5 rfl (N := 13) rfl 22 _ _ rfl 0 rfl rfl Tryd.underlying22 (.int .u8 0) 1 info5 rfl (by decide) (by omega) 0 (ok := fun _ => True) (okp := fun _ => True) rfl (fun _ hk => hk) trivial Z38 Z38 (Below.refl _ _) (Nat.le_refl _) ?_; intro v155 w9 ho10 hb hg_ hnew_; clear hg_ hnew_; (first | rw [← Ny154.out] at ho10 | (simp only [Int.reduceToNat] at ho10; rw [← Ny154.out] at ho10)); have n0_ := Aside0.mk (Kd.R_lower ho10 (below_size Z46)); have n1_ := Aside0.mk (blk_below (g := gb152) (o := .cells #[.int .i64 a0_0, .int .i64 a0_1, .int .i64 a0_2, .int .i64 a0_3, .int .i64 a0_4, .int .i64 a0_5, .string a0_6] 26 (0, 0)) Z22 hb); have n2_ := Aside0.mk (below_step Z46 hb); clear BK152; clear HB; have HO156 := n0_; have BK152 := n1_; have HB := n2_; clear n0_ n1_ n2_; clear hb ho10; have hcz11_0 : w9.cell? ⟨gb152, 0, none⟩ = some (.int .i64 a0_0) := (blk_cell BK152.out 0).trans rfl; have hcz11_1 : w9.cell? ⟨gb152, 1, none⟩ = some (.int .i64 a0_1) := (blk_cell BK152.out 1).trans rfl; have hcz11_2 : w9.cell? ⟨gb152, 2, none⟩ = some (.int .i64 a0_2) := (blk_cell BK152.out 2).trans rfl; have hcz11_3 : w9.cell? ⟨gb152, 3, none⟩ = some (.int .i64 a0_3) := (blk_cell BK152.out 3).trans rfl; have hcz11_4 : w9.cell? ⟨gb152, 4, none⟩ = some (.int .i64 a0_4) := (blk_cell BK152.out 4).trans rfl; have hcz11_5 : w9.cell? ⟨gb152, 5, none⟩ = some (.int .i64 a0_5) := (blk_cell BK152.out 5).trans rfl; have hcz11_6 : w9.cell? ⟨gb152, 6, none⟩ = some (.string a0_6) := (blk_cell BK152.out 6).trans rfl; have hfz11_0 := blk_frozen BK152.out 0; have hfz11_1 := blk_frozen BK152.out 1; have hfz11_2 := blk_frozen BK152.out 2; have hfz11_3 := blk_frozen BK152.out 3; have hfz11_4 := blk_frozen BK152.out 4; have hfz11_5 := blk_frozen BK152.out 5; have hfz11_6 := blk_frozen BK152.out 6) | ((with_reducible refine gate_dst (N := 30) rfl ?_); refine Kd.R_lit (Kd.int .i64) _ 3 ?hg (N := 30) ?hd (xs := ([a0_0, a0_1, a0_2, a0_3, a0_4, a0_5] : List Int)) (inner := [.int .i64 a0_0, .int .i64 a0_1, .int .i64 a0_2, .int .i64 a0_3, .int .i64 a0_4, .int .i64 a0_5]) (ok := fun _ => True) (okp := fun _ => True) ?hr ?hp (fun _ hk => hk) trivial (Below.refl _ _) (Nat.le_refl _) (by simp) ?_; (case hd => rfl); (case hg => rfl); (case hr => first | (go_simp; done) | (go_simp; rfl)); (case hp => exact (Reps.one (show Kd.M (Kd.int .i64) _ _ _ a0_0 [.int .i64 a0_0] from rfl) (Reps.one (show Kd.M (Kd.int .i64) _ _ _ a0_1 [.int .i64 a0_1] from rfl) (Reps.one (show Kd.M (Kd.int .i64) _ _ _ a0_2 [.int .i64 a0_2] from rfl) (Reps.one (show Kd.M (Kd.int .i64) _ _ _ a0_3 [.int .i64 a0_3] from rfl) (Reps.one (show Kd.M (Kd.int .i64) _ _ _ a0_4 [.int .i64 a0_4] from rfl) (Reps.one (show Kd.M (Kd.int .i64) _ _ _ a0_5 [.int .i64 a0_5] from rfl) (Reps.none _ _)))))))); intro v158 w12 ho13 hb hg_ hnew_; clear hg_ hnew_; (first | rw [← Ny157.out] at ho13 | (simp only [Int.reduceToNat] at ho13; rw [← Ny157.out] at ho13)); have n0_ := Aside0.mk (Kd.R_below (by (with_reducible repeat (first | apply Kd.R_alloc | apply Kd.R_drewN | apply Kd.R_drew)); exact HO156.out) hb); have n1_ := Aside0.mk (Kd.R_lower ho13 (below_size Z46)); have n2_ := Aside0.mk (blk_below (g := gb152) (o := .cells #[.int .i64 a0_0, .int .i64 a0_1, .int .i64 a0_2, .int .i64 a0_3, .int .i64 a0_4, .int .i64 a0_5, .string a0_6] 26 (0, 0)) Z22 hb); have n3_ := Aside0.mk (below_step Z46 hb); clear HO156; clear BK152; clear HB; have HO156 := n0_; have HO159 := n1_; have BK152 := n2_; have HB := n3_; clear n0_ n1_ n2_ n3_; clear hb ho13; obtain ⟨Ao14, co14, eo14⟩ := Kd.R_slice HO159.out; subst eo14))
   go_loopg [3, 32] k (fun kq v3 v32 w' => ∃ (x3_1 : List Int) (x32_1 : Int), v32 = .int .i64 x32_1 ∧ Aside0 (impl_SegBytes.l0 kq x3_1 y157 (y157.length : Int) x32_1 a0_0 a0_1 a0_2 a0_3 a0_4 a0_5 a0_6 = some r) ∧ Aside0 (kq ≤ k) ∧ Aside0 (Kd.R (Kd.int .u8) 5 w' w.heap.size (fun _ => True) v3 x3_1) ∧ Aside0 (Kd.R (Kd.int .i64) 3 w' w.heap.size (fun _ => True) (.slice Ao14 y157.length co14) y157) ∧ Aside0 (w'.heap[gb152]? = some (.cells #[.int .i64 a0_0, .int .i64 a0_1, .int .i64 a0_2, .int .i64 a0_3, .int .i64 a0_4, .int .i64 a0_5, .string a0_6] 26 (0, 0))) ∧ Aside0 (Below w.heap.size w w'))
   case atStart => exact ⟨(y154), (0), Z1, H', ⟨Nat.le_refl _⟩, ⟨by (with_reducible repeat (first | apply Kd.R_alloc | apply Kd.R_drewN | apply Kd.R_drew)); exact HO156.out⟩, ⟨by (with_reducible repeat (first | apply Kd.R_alloc | apply Kd.R_drewN | apply Kd.R_drew)); exact HO159.out⟩, ⟨by (with_reducible repeat (first | refine blk_drewN ?_ _ | refine blk_drew ?_ | refine blk_alloc ?_ _)); exact BK152.out⟩, ⟨by repeat (first | (with_reducible first | exact HB.out | apply below_alloc | apply pw_below_drewN | apply below_drew1 | refine below_set ?_ GE152.out) | exact HB.out)⟩⟩
   case round =>
    clear H'
    try clear c1
    try clear p2
    try clear c3
    try clear c4
    try clear c4b0
    try clear c4b1
    try clear c13
    try clear hcz11_0
    try clear hcz11_1
    try clear hcz11_2
    try clear hcz11_3
    try clear hcz11_4
    try clear hcz11_5
    try clear hcz11_6
    try clear hcz6_0
    try clear hcz6_1
    try clear hcz6_2
    try clear hcz6_3
    try clear hcz6_4
    try clear hcz6_5
    try clear hcz6_6
    try clear hcz8_0
    try clear hcz8_1
    try clear hcz8_2
    try clear hcz8_3
    try clear hcz8_4
    try clear hcz8_5
    try clear hcz8_6
    try clear hfz11_0
    try clear hfz11_1
    try clear hfz11_2
    try clear hfz11_3
    try clear hfz11_4
    try clear hfz11_5
    try clear hfz11_6
    try clear hfz6_0
    try clear hfz6_1
    try clear hfz6_2
    try clear hfz6_3
    try clear hfz6_4
    try clear hfz6_5
    try clear hfz6_6
    try clear hfz8_0
    try clear hfz8_1
    try clear hfz8_2
    try clear hfz8_3
    try clear hfz8_4
    try clear hfz8_5
    try clear hfz8_6
    obtain ⟨x3_1, x32_1, rfl, HA, HK1, HO_3, HO_30, BK152, HB⟩ := hrel
    cases gk with
    | zero => exact absurd HA.out (by simp [impl_SegBytes.l0])
    | succ k1 =>
     have H := HA.out
     clear HA
     simp only [impl_SegBytes.l0] at H
     by_cases c15 : x32_1 < (y157.length : Int)
     ·rw [if_pos c15] at H
      have c15b0 : decide (x32_1 < (y157.length : Int)) = true := decide_eq_true c15
      clear c15
      by_cases c16 : 0 ≤ x32_1
      ·rw [if_pos c16] at H
       have c16b0 : decide (0 ≤ x32_1) = true := decide_eq_true c16
       clear c16
       by_cases c17 : x32_1 < (y157.length : Int)
       ·rw [if_pos c17] at H
        have c17b0 : decide (x32_1 < (y157.length : Int)) = true := decide_eq_true c17
        clear c17
        replace H := Option.bind_eq_some_iff.mp H
        obtain ⟨t161, A180, H⟩ := H
        replace H : (if x3_1.length + t161.length < 140737488355328 then (impl_SegBytes.l0 k1 (x3_1 ++ t161) y157 (y157.length : Int) (wrap64 (x32_1 + 1)) a0_0 a0_1 a0_2 a0_3 a0_4 a0_5 a0_6) else (none)) = some r := H
        have A18 := Aside0.mk A180
        clear A180
        by_cases c19 : x3_1.length + t161.length < 140737488355328
        ·rw [if_pos c19] at H
         have LMc19 := Aside0.mk c19
         clear c19
         obtain ⟨y164, hy164⟩ : ∃ y_ : List Int, y_ = (x3_1 ++ t161) := ⟨_, rfl⟩
         replace H : (impl_SegBytes.l0 k1 y164 y157 (y157.length : Int) (wrap64 (x32_1 + 1)) a0_0 a0_1 a0_2 a0_3 a0_4 a0_5 a0_6) = some r := by first | (rw [hy164]; with_reducible exact H) | (have H2_ := (Option.bind_some _ _).symm.trans H; rw [hy164]; with_reducible exact H2_) | (have H2_ := (Option.bind_some _ _).symm.trans H; with_reducible exact H2_) | with_reducible exact H | (rw [hy164]; exact H) | exact H
         have Ny164 := Aside0.mk hy164
         clear hy164
         have H' := Aside0.mk H
         clear H
         have p160 : 0 ≤ (x32_1 : Int) := of_decide_eq_true Z2
         have q160 : x32_1 < (y157.length : Int) := of_decide_eq_true Z2
         obtain ⟨ad160, e160, hx160_0⟩ := Kd.at_int (Kd.R_reads' HO_30.out).2.2 x32_1 p160 q160
         cases e160
         replace p160 := eq_true p160
         replace q160 := eq_true q160
         go_wp2_with (first | ((with_reducible refine gate_callee (f := 28) rfl ?_); refine goesL_ (some 38) rfl rfl Tryd.func28 (by kernel_rfl) rfl #[.int .i64 (rd y157 x32_1)] rfl Z37 ?_; (with_reducible refine (impl_two.calls (rd y157 x32_1) t161 _ A18.out).mono ?_); rintro e w20 ⟨v162, rfl, ho0, hb⟩; refine ⟨_, rfl, ?_⟩; have n0_ := Aside0.mk (Kd.R_elder' Z3 (Kd.R_base ho0) hb); have n1_ := Aside0.mk (Kd.R_below Z5 hb); have n2_ := Aside0.mk (Kd.R_lower (Kd.R_new' ho0 (Kd.R_lt Z3)) (below_size Z46)); have n3_ := Aside0.mk (blk_below (g := gb152) (o := .cells #[.int .i64 a0_0, .int .i64 a0_1, .int .i64 a0_2, .int .i64 a0_3, .int .i64 a0_4, .int .i64 a0_5, .string a0_6] 26 (0, 0)) Z22 hb); have n4_ := Aside0.mk (below_step Z46 hb); clear HO_3; clear HO_30; clear BK152; clear HB; have HO_3 := n0_; have HO_30 := n1_; have HO163 := n2_; have BK152 := n3_; have HB := n4_; clear n0_ n1_ n2_ n3_ n4_; (try clear hb); (try clear ho0); obtain ⟨Ao22, co22, eo22⟩ := Kd.R_slice HO163.out; subst eo22) | ((with_reducible refine gate_builtin (b := .append) (xs := #[.tmp 36, .tmp 38]) rfl ?_); at_builtin; refine Kd.R_append_rows (Kd.int .u8) (w0 := w) w.heap.size rfl (.tmp 36) (.tmp 38) 22 5 (.int .u8 0) 1 rfl Tryd.underlying22 info5 rfl (by decide) (by omega) u3 x3_1 t161 _ _ _ (fun k_ => some k_ ≠ (.slice Ao22 t161.length co22 : Value).ownBlock) (fun _ => False) rfl rfl ?aO ?aR (fun _ _ h => h) (fun _ h => h.elim) ?aF ?aB ?aS ?aL ?_; (case aR => repeat (first | exact (Kd.R_reads' HO163.out).2.2 | (with_reducible refine Kd.C_alloc ?_ _) | (with_reducible refine Kd.C_drewN ?_ _) | (with_reducible refine Kd.C_drew ?_))); (case aB => exact Z46); (case aF => exact (fun k_ hk => Kd.fresh' (Kd.R_lt Z6) k_ hk)); (case aO => exact (by (with_reducible repeat (first | apply Kd.R_alloc | apply Kd.R_drewN | apply Kd.R_drew)); exact Kd.R_mono HO_3.out (fun _ hk => hk.2))); (case aS => exact (below_size Z46)); (case aL => have := LMc19.out; omega); intro v165 w21 ho hb hg hat; rw [← Ny164.out] at ho; have n0_ := Aside0.mk (Kd.R_over' Z5 (Kd.R_typed Z3) (by decide) hg); have n1_ := Aside0.mk (blk_grown (g := gb152) (o := .cells #[.int .i64 a0_0, .int .i64 a0_1, .int .i64 a0_2, .int .i64 a0_3, .int .i64 a0_4, .int .i64 a0_5, .string a0_6] 26 (0, 0)) Z22 hg (Kd.R_ne HO_3.out BK152.out (by decide))); have n2_ := Aside0.mk (Kd.R_after (ok := (fun _ => True)) Z6 hg hat); have n3_ := Aside0.mk (hb); have n4_ := Aside0.mk (ho); clear HO_30; clear BK152; clear HO163; clear HB; clear HO_3; have HO_30 := n0_; have BK152 := n1_; have HO163 := n2_; have HB := n3_; have HO166 := n4_; clear n0_ n1_ n2_ n3_ n4_; clear ho hb hg hat))
         go_roundg k1
         case measure => have := HK1.out; omega
         case rel => exact ⟨(y164), (wrap64 (x32_1 + 1)), Z1, H', ⟨by have := HK1.out; omega⟩, ⟨by (with_reducible repeat (first | apply Kd.R_alloc | apply Kd.R_drewN | apply Kd.R_drew)); exact Kd.R_mono HO166.out (fun _ hk => trivial)⟩, ⟨by (with_reducible repeat (first | apply Kd.R_alloc | apply Kd.R_drewN | apply Kd.R_drew)); exact HO_30.out⟩, ⟨by (with_reducible repeat (first | refine blk_drewN ?_ _ | refine blk_drew ?_ | refine blk_alloc ?_ _)); exact BK152.out⟩, ⟨by repeat (first | (with_reducible first | exact HB.out | apply below_alloc | apply pw_below_drewN | apply below_drew1 | refine below_set ?_ GE152.out) | exact HB.out)⟩⟩
        ·rw [if_neg c19] at H
         exact absurd H (by simp)
       ·rw [if_neg c17] at H
        exact absurd H (by simp)
      ·rw [if_neg c16] at H
       exact absurd H (by simp)
     ·rw [if_neg c15] at H
      have c15b0 : decide (x32_1 < (y157.length : Int)) = false := decide_eq_false c15
      clear c15
      by_cases c23 : x3_1.length < 140737488355328
      ·rw [if_pos c23] at H
       have LMc23 := Aside0.mk c23
       clear c23
       obtain ⟨y167, hy167⟩ : ∃ y_ : List Int, y_ = (x3_1 ++ [((a0_6.size : Int)) % 256]) := ⟨_, rfl⟩
       replace H : (if y167.length + a0_6.size < 140737488355328 then ((some (y167 ++ bytesOf a0_6 : List Int)).bind fun y170 => ((impl_SegSum.f k1 y170).bind fun t173 => ((impl_two.f t173).bind fun t174 => (if y170.length + t174.length < 140737488355328 then (some (y170 ++ t174)) else (none))))) else (none)) = some r := by first | (rw [hy167]; with_reducible exact H) | (have H2_ := (Option.bind_some _ _).symm.trans H; rw [hy167]; with_reducible exact H2_) | (have H2_ := (Option.bind_some _ _).symm.trans H; with_reducible exact H2_) | with_reducible exact H | (rw [hy167]; exact H) | exact H
       have Ny167 := Aside0.mk hy167
       clear hy167
       by_cases c24 : y167.length + a0_6.size < 140737488355328
       ·rw [if_pos c24] at H
        have LMc24 := Aside0.mk c24
        clear c24
        obtain ⟨y170, hy170⟩ : ∃ y_ : List Int, y_ = (y167 ++ bytesOf a0_6) := ⟨_, rfl⟩
        replace H : ((impl_SegSum.f k1 y170).bind fun t173 => ((impl_two.f t173).bind fun t174 => (if y170.length + t174.length < 140737488355328 then (some (y170 ++ t174)) else (none)))) = some r := by first | (rw [hy170]; with_reducible exact H) | (have H2_ := (Option.bind_some _ _).symm.trans H; rw [hy170]; with_reducible exact H2_) | (have H2_ := (Option.bind_some _ _).symm.trans H; with_reducible exact H2_) | with_reducible exact H | (rw [hy170]; exact H) | exact H
        have Ny170 := Aside0.mk hy170
        clear hy170
        replace H := Option.bind_eq_some_iff.mp H
        obtain ⟨t173, A250, H⟩ := H
        replace H : ((impl_two.f t173).bind fun t174 => (if y170.length + t174.length < 140737488355328 then (some (y170 ++ t174)) else (none))) = some r := H
        have A25 := Aside0.mk A250
        clear A250
        replace H := Option.bind_eq_some_iff.mp H
        obtain ⟨t174, A260, H⟩ := H
        replace H : (if y170.length + t174.length < 140737488355328 then (some (y170 ++ t174)) else (none)) = some r := H
        have A26 := Aside0.mk A260
        clear A260
        by_cases c27 : y170.length + t174.length < 140737488355328
        ·rw [if_pos c27] at H
         have LMc27 := Aside0.mk c27
         clear c27
         obtain ⟨y177, hy177⟩ : ∃ y_ : List Int, y_ = (y170 ++ t174) := ⟨_, rfl⟩
         replace H : (some y177) = some r := by first | (rw [hy177]; with_reducible exact H) | (have H2_ := (Option.bind_some _ _).symm.trans H; rw [hy177]; with_reducible exact H2_) | (have H2_ := (Option.bind_some _ _).symm.trans H; with_reducible exact H2_) | with_reducible exact H | (rw [hy177]; exact H) | exact H
         have Ny177 := Aside0.mk hy177
         clear hy177
         obtain rfl := Option.some.inj H
         have hcz28_0 : wr.cell? ⟨gb152, 0, none⟩ = some (.int .i64 a0_0) := (blk_cell BK152.out 0).trans rfl
         have hcz28_1 : wr.cell? ⟨gb152, 1, none⟩ = some (.int .i64 a0_1) := (blk_cell BK152.out 1).trans rfl
         have hcz28_2 : wr.cell? ⟨gb152, 2, none⟩ = some (.int .i64 a0_2) := (blk_cell BK152.out 2).trans rfl
         have hcz28_3 : wr.cell? ⟨gb152, 3, none⟩ = some (.int .i64 a0_3) := (blk_cell BK152.out 3).trans rfl
         have hcz28_4 : wr.cell? ⟨gb152, 4, none⟩ = some (.int .i64 a0_4) := (blk_cell BK152.out 4).trans rfl
         have hcz28_5 : wr.cell? ⟨gb152, 5, none⟩ = some (.int .i64 a0_5) := (blk_cell BK152.out 5).trans rfl
         have hcz28_6 : wr.cell? ⟨gb152, 6, none⟩ = some (.string a0_6) := (blk_cell BK152.out 6).trans rfl
         have hfz28_0 := blk_frozen BK152.out 0
         have hfz28_1 := blk_frozen BK152.out 1
         have hfz28_2 := blk_frozen BK152.out 2
         have hfz28_3 := blk_frozen BK152.out 3
         have hfz28_4 := blk_frozen BK152.out 4
         have hfz28_5 := blk_frozen BK152.out 5
         have hfz28_6 := blk_frozen BK152.out 6
         go_wp2_with (first | ((with_reducible refine gate_builtin (b := .append) (xs := #[.tmp 41, .tmp 46]) rfl ?_); at_builtin; refine Kd.R_append (Kd.int .u8) (w0 := w) w.heap.size rfl (.tmp 41) (.tmp 46) 22 5 (.int .u8 0) 1 rfl Tryd.underlying22 info5 rfl (by decide) (by omega) u3 x3_1 (((a0_6.size : Int)) % 256) [.int .u8 (((a0_6.size : Int)) % 256)] (fun _ => True) (fun _ => False) rfl rfl ?aP (fun _ hk => hk.elim) ?aF ?aO ?aB ?aS ?aL ?_; (case aP => exact rfl); (case aB => exact Z46); (case aF => exact (fun _ _ => trivial)); (case aO => exact Z3); (case aS => exact (below_size Z46)); (case aL => have := LMc23.out; omega); intro v168 w29 ho hb hg hat; rw [← Ny167.out] at ho; have n0_ := Aside0.mk (Kd.R_over' Z5 (Kd.R_typed Z3) (by decide) hg); have n1_ := Aside0.mk (blk_grown (g := gb152) (o := .cells #[.int .i64 a0_0, .int .i64 a0_1, .int .i64 a0_2, .int .i64 a0_3, .int .i64 a0_4, .int .i64 a0_5, .string a0_6] 26 (0, 0)) Z22 hg (Kd.R_ne HO_3.out BK152.out (by decide))); have n2_ := Aside0.mk (hb); have n3_ := Aside0.mk (ho); clear HO_30; clear BK152; clear HB; clear HO_3; have HO_30 := n0_; have BK152 := n1_; have HB := n2_; have HO169 := n3_; clear n0_ n1_ n2_ n3_; clear ho hb hg hat; have hcz30_0 : w29.cell? ⟨gb152, 0, none⟩ = some (.int .i64 a0_0) := (blk_cell BK152.out 0).trans rfl; have hcz30_1 : w29.cell? ⟨gb152, 1, none⟩ = some (.int .i64 a0_1) := (blk_cell BK152.out 1).trans rfl; have hcz30_2 : w29.cell? ⟨gb152, 2, none⟩ = some (.int .i64 a0_2) := (blk_cell BK152.out 2).trans rfl; have hcz30_3 : w29.cell? ⟨gb152, 3, none⟩ = some (.int .i64 a0_3) := (blk_cell BK152.out 3).trans rfl; have hcz30_4 : w29.cell? ⟨gb152, 4, none⟩ = some (.int .i64 a0_4) := (blk_cell BK152.out 4).trans rfl; have hcz30_5 : w29.cell? ⟨gb152, 5, none⟩ = some (.int .i64 a0_5) := (blk_cell BK152.out 5).trans rfl; have hcz30_6 : w29.cell? ⟨gb152, 6, none⟩ = some (.string a0_6) := (blk_cell BK152.out 6).trans rfl; have hfz30_0 := blk_frozen BK152.out 0; have hfz30_1 := blk_frozen BK152.out 1; have hfz30_2 := blk_frozen BK152.out 2; have hfz30_3 := blk_frozen BK152.out 3; have hfz30_4 := blk_frozen BK152.out 4; have hfz30_5 := blk_frozen BK152.out 5; have hfz30_6 := blk_frozen BK152.out 6) | (at_builtin; refine print_append_str (w0 := w) w.heap.size rfl (.tmp 48) _ 22 9 5 rfl Tryd.underlying22 Tryd.underlying9 info5 v168 y167 a0_6 rfl rfl ?aO ?aB ?aS ?aL ?_; (case aB => exact Z46); (case aO => exact (Kd.own_of_R Z7)); (case aS => exact (below_size Z46)); (case aL => have := LMc24.out; omega); intro v171 w31 ho0 hb hg; have ho := Kd.R_of_own (h1 := fun _ => rfl) (ok := fun _ => True) ho0 (fun _ _ => trivial); clear ho0; have hat := True.intro; rw [← Ny170.out] at ho; change Kd.R (Kd.int .u8) 5 w31 w.heap.size (fun _ => True) v171 y170 at ho; have n0_ := Aside0.mk (Kd.R_over' Z5 (Kd.R_typed Z7) (by decide) hg); have n1_ := Aside0.mk (blk_grown (g := gb152) (o := .cells #[.int .i64 a0_0, .int .i64 a0_1, .int .i64 a0_2, .int .i64 a0_3, .int .i64 a0_4, .int .i64 a0_5, .string a0_6] 26 (0, 0)) Z22 hg (Kd.R_ne HO169.out BK152.out (by decide))); have n2_ := Aside0.mk (hb); have n3_ := Aside0.mk (ho); clear HO_30; clear BK152; clear HB; clear HO169; have HO_30 := n0_; have BK152 := n1_; have HB := n2_; have HO172 := n3_; clear n0_ n1_ n2_ n3_; clear ho hb hg hat; obtain ⟨Ao32, co32, eo32⟩ := Kd.R_slice HO172.out; subst eo32) | ((with_reducible refine gate_callee (f := 18) rfl ?_); refine goesL_ (some 54) rfl rfl Tryd.func18 (by kernel_rfl) rfl #[.slice Ao32 y170.length co32] rfl Z37 ?_; (with_reducible refine (impl_SegSum.calls k1 _ _ y170 t173 _ ?side1 ?side2 A25.out).mono ?_); (case side1 => repeat (first | exact (Kd.R_reads' HO172.out).2.2 | (with_reducible refine Kd.C_alloc ?_ _) | (with_reducible refine Kd.C_drewN ?_ _) | (with_reducible refine Kd.C_drew ?_))); (case side2 => exact (Kd.R_reads' HO172.out).2.1); rintro e w' ⟨rfl, ⟨nd, rfl⟩⟩; refine ⟨_, rfl, ?_⟩) | ((with_reducible refine gate_callee (f := 28) rfl ?_); refine goesL_ (some 55) rfl rfl Tryd.func28 (by kernel_rfl) rfl #[.int .i64 t173] rfl Z37 ?_; (with_reducible refine (impl_two.calls t173 t174 _ A26.out).mono ?_); rintro e w33 ⟨v175, rfl, ho0, hb⟩; refine ⟨_, rfl, ?_⟩; have n0_ := Aside0.mk (Kd.R_below Z5 hb); have n1_ := Aside0.mk (Kd.R_elder' Z8 (Kd.R_base ho0) hb); have n2_ := Aside0.mk (Kd.R_lower (Kd.R_new' ho0 (Kd.R_lt Z8)) (below_size Z46)); have n3_ := Aside0.mk (blk_below (g := gb152) (o := .cells #[.int .i64 a0_0, .int .i64 a0_1, .int .i64 a0_2, .int .i64 a0_3, .int .i64 a0_4, .int .i64 a0_5, .string a0_6] 26 (0, 0)) Z22 hb); have n4_ := Aside0.mk (below_step Z46 hb); clear HO_30; clear HO172; clear BK152; clear HB; have HO_30 := n0_; have HO172 := n1_; have HO176 := n2_; have BK152 := n3_; have HB := n4_; clear n0_ n1_ n2_ n3_ n4_; (try clear hb); (try clear ho0); obtain ⟨Ao35, co35, eo35⟩ := Kd.R_slice HO176.out; subst eo35) | ((with_reducible refine gate_builtin (b := .append) (xs := #[.tmp 52, .tmp 55]) rfl ?_); at_builtin; refine Kd.R_append_rows (Kd.int .u8) (w0 := w) w.heap.size rfl (.tmp 52) (.tmp 55) 22 5 (.int .u8 0) 1 rfl Tryd.underlying22 info5 rfl (by decide) (by omega) (.slice Ao32 y170.length co32) y170 t174 _ _ _ (fun k_ => some k_ ≠ (.slice Ao35 t174.length co35 : Value).ownBlock) (fun _ => False) rfl rfl ?aO ?aR (fun _ _ h => h) (fun _ h => h.elim) ?aF ?aB ?aS ?aL ?_; (case aR => repeat (first | exact (Kd.R_reads' HO176.out).2.2 | (with_reducible refine Kd.C_alloc ?_ _) | (with_reducible refine Kd.C_drewN ?_ _) | (with_reducible refine Kd.C_drew ?_))); (case aB => exact Z46); (case aF => exact (fun k_ hk => Kd.fresh' (Kd.R_lt Z9) k_ hk)); (case aO => exact (by (with_reducible repeat (first | apply Kd.R_alloc | apply Kd.R_drewN | apply Kd.R_drew)); exact Kd.R_mono HO172.out (fun _ hk => hk.2))); (case aS => exact (below_size Z46)); (case aL => have := LMc27.out; omega); intro v178 w34 ho hb hg hat; rw [← Ny177.out] at ho; have n0_ := Aside0.mk (Kd.R_over' Z5 (Kd.R_typed Z8) (by decide) hg); have n1_ := Aside0.mk (blk_grown (g := gb152) (o := .cells #[.int .i64 a0_0, .int .i64 a0_1, .int .i64 a0_2, .int .i64 a0_3, .int .i64 a0_4, .int .i64 a0_5, .string a0_6] 26 (0, 0)) Z22 hg (Kd.R_ne HO172.out BK152.out (by decide))); have n2_ := Aside0.mk (Kd.R_after (ok := (fun _ => True)) Z9 hg hat); have n3_ := Aside0.mk (hb); have n4_ := Aside0.mk (ho); clear HO_30; clear BK152; clear HO176; clear HB; clear HO172; have HO_30 := n0_; have BK152 := n1_; have HO176 := n2_; have HB := n3_; have HO179 := n4_; clear n0_ n1_ n2_ n3_ n4_; clear ho hb hg hat))
         go_ret
         exact ⟨_, by first | rfl | (simp [errW_none, errW_some] <;> rfl) | (simp [*, errW_none, errW_some] <;> rfl), by (with_reducible repeat (first | apply Kd.R_alloc | apply Kd.R_drewN | apply Kd.R_drew)); exact Kd.R_mono HO179.out (fun _ hk => trivial), by repeat (first | (with_reducible first | exact HB.out | apply below_alloc | apply pw_below_drewN | apply below_drew1 | refine below_set ?_ GE152.out) | exact HB.out)⟩
        ·rw [if_neg c27] at H
         exact absurd H (by simp)
       ·rw [if_neg c24] at H
        exact absurd H (by simp)
      ·rw [if_neg c23] at H
       exact absurd H (by simp)
  ·rw [if_neg c4] at H
   exact absurd H (by simp)
 ·replace c3 := Bool.eq_false_iff.mpr c3
  subst c3
  have H1 : (some ([] : List Int)) = some r := by rw [if_neg (show ¬ (false = true) by decide)] at H; exact H
  clear H
  have H := H1
  clear H1
  obtain rfl := Option.some.inj H
  go_enter Tryd.func13, Tryd.ntmps13
  go_wp2_with (first | ((with_reducible refine gate_dst (N := 1) rfl ?_); refine box_event ?hg (N := 1) ?hd (cs := #[.int .i64 a0_0, .int .i64 a0_1, .int .i64 a0_2, .int .i64 a0_3, .int .i64 a0_4, .int .i64 a0_5, .string a0_6]) (t := 26) ?hr ?_; (case hd => rfl); (case hg => rfl); (case hr => first | (go_simp; done) | (go_simp; rfl)); intro gb152 hg w36 hbox hb; have n0_ := Aside0.mk (below_step Z35 hb); have n1_ := Aside0.mk (hbox); have n2_ := Aside0.mk ((Z93 : w.heap.size ≤ gb152)); have n3_ := Aside0.mk ((Z93 : w.heap.size ≤ gb152)); clear HB; have HB := n0_; have BK152 := n1_; have GW152 := n2_; have GE152 := n3_; clear n0_ n1_ n2_ n3_; clear hb hbox hg; have hcz37_0 : w36.cell? ⟨gb152, 0, none⟩ = some (.int .i64 a0_0) := (blk_cell BK152.out 0).trans rfl; have hcz37_1 : w36.cell? ⟨gb152, 1, none⟩ = some (.int .i64 a0_1) := (blk_cell BK152.out 1).trans rfl; have hcz37_2 : w36.cell? ⟨gb152, 2, none⟩ = some (.int .i64 a0_2) := (blk_cell BK152.out 2).trans rfl; have hcz37_3 : w36.cell? ⟨gb152, 3, none⟩ = some (.int .i64 a0_3) := (blk_cell BK152.out 3).trans rfl; have hcz37_4 : w36.cell? ⟨gb152, 4, none⟩ = some (.int .i64 a0_4) := (blk_cell BK152.out 4).trans rfl; have hcz37_5 : w36.cell? ⟨gb152, 5, none⟩ = some (.int .i64 a0_5) := (blk_cell BK152.out 5).trans rfl; have hcz37_6 : w36.cell? ⟨gb152, 6, none⟩ = some (.string a0_6) := (blk_cell BK152.out 6).trans rfl; have hfz37_0 := blk_frozen BK152.out 0; have hfz37_1 := blk_frozen BK152.out 1; have hfz37_2 := blk_frozen BK152.out 2; have hfz37_3 := blk_frozen BK152.out 3; have hfz37_4 := blk_frozen BK152.out 4; have hfz37_5 := blk_frozen BK152.out 5; have hfz37_6 := blk_frozen BK152.out 6) | ((with_reducible refine gate_callee (f := 16) rfl ?_); refine goesL_ (some 7) rfl rfl Tryd.func16 (by kernel_rfl) rfl #[.agg #[.int .i64 a0_0, .int .i64 a0_1, .int .i64 a0_2, .int .i64 a0_3, .int .i64 a0_4, .int .i64 a0_5, .string a0_6]] rfl Z37 ?_; (with_reducible refine (impl_SegOk.calls k a0_0 a0_1 a0_2 a0_3 a0_4 a0_5 a0_6 false _ A2.out).mono ?_); rintro e w38 ⟨rfl, hb⟩; refine ⟨_, rfl, ?_⟩; have n0_ := Aside0.mk (blk_below (g := gb152) (o := .cells #[.int .i64 a0_0, .int .i64 a0_1, .int .i64 a0_2, .int .i64 a0_3, .int .i64 a0_4, .int .i64 a0_5, .string a0_6] 26 (0, 0)) Z22 hb); have n1_ := Aside0.mk (below_step Z46 hb); clear BK152; clear HB; have BK152 := n0_; have HB := n1_; clear n0_ n1_; (try clear hb)))
  go_ret
  exact ⟨_, by first | rfl | (simp [errW_none, errW_some] <;> rfl) | (simp [*, errW_none, errW_some] <;> rfl), by first | exact Kd.R_nil _ _ _ _ _ | exact Kd.N_nil _ _ _ _ _ | exact Kd.V_nil _ _ _ _ _ | exact Kd.Q_nil _ _ _ _ _ | exact Kd.S_nil _ _ _ _ _, by repeat (first | (with_reducible first | exact HB.out | apply below_alloc | apply pw_below_drewN | apply below_drew1 | refine below_set ?_ GE152.out) | exact HB.out)⟩

/-! ### impl_SegRead: function 8 -/
def impl_SegRead.f (k : Nat) (l0 : List Int) : Option (Int × Int × Int × Int × Int × Int × ByteArray × Bool) := if (∀ x ∈ l0, 0 ≤ x ∧ x ≤ 255) ∧ l0.length ≤ 140737488351232 then spec_SegRead.f k l0 else none
theorem impl_SegRead.mono : ∀ a0 k, LeO (impl_SegRead.f k a0) (impl_SegRead.f (k + 1) a0) := by
 intro a0 k
 unfold impl_SegRead.f
 repeat' first
   | (with_reducible exact spec_SegRead.mono _ _)
   | (with_reducible exact LeO.refl _)
   | (with_reducible exact LeO.none _)
   | (with_reducible refine LeO.ite ?_ ?_)
   | (with_reducible refine LeO.bind ?_ (fun _ => ?_))
   | exact spec_SegRead.mono _ _
   | exact LeO.none _
   | refine LeO.ite ?_ ?_
   | refine LeO.bind ?_ (fun _ => ?_)
-- BY HAND
def segStep (n x : Int) : Int := (n * 257 + x) % 65521
def sumF (l : List Int) : Int := l.foldl segStep 1
theorem step_eq {n x : Int} (h0 : 0 ≤ n) (h1 : n ≤ 65520) (x0 : 0 ≤ x) (x1 : x ≤ 255) : Int.tmod (wrap64 ((wrap64 (n * 257)) + (wrap64 x))) 65521 = segStep n x := by
 rw [Lib.wrap_id (x := n * 257) (by omega) (by omega), Lib.wrap_id (x := x) (by omega) (by omega), Lib.wrap_id (by omega) (by omega)]
 rw [Int.tmod_eq_emod_of_nonneg (by omega)]; rfl
theorem step_bd (n x : Int) : 0 ≤ segStep n x ∧ segStep n x ≤ 65520 := by
 unfold segStep; omega
theorem fold_bd : ∀ (l : List Int) (n : Int), 0 ≤ n → n ≤ 65520 → 0 ≤ l.foldl segStep n ∧ l.foldl segStep n ≤ 65520
 | [], n, h0, h1 => ⟨h0, h1⟩
 | x :: l, n, _, _ => fold_bd l _ (step_bd n x).1 (step_bd n x).2
theorem sumF_bd (l : List Int) : 0 ≤ sumF l ∧ sumF l ≤ 65520 := fold_bd l 1 (by omega) (by omega)
theorem spec_sum (l : List Int) (hl : l.length ≤ 140737488351232) (hb : Lib.Bytes l) (d : Nat) : ∀ (k i : Nat) (n : Int), i ≤ l.length → l.length - i = d → d < k → 0 ≤ n → n ≤ 65520 →
  spec_SegSum.l0 k l n (i : Int) = some ((l.drop i).foldl segStep n) := by
 induction d with
 | zero =>
  intro k i n hi hd hk h0 h1
  obtain ⟨k, rfl⟩ : ∃ m, k = m + 1 := ⟨k - 1, by omega⟩
  simp only [spec_SegSum.l0]; rw [if_neg (by omega), List.drop_eq_nil_of_le (by omega)]; rfl
 | succ d ih =>
  intro k i n hi hd hk h0 h1
  obtain ⟨k, rfl⟩ : ∃ m, k = m + 1 := ⟨k - 1, by omega⟩
  have hr := Lib.bytes_rd hb i
  simp only [spec_SegSum.l0]
  rw [if_pos (by omega), if_pos (by omega), step_eq h0 h1 hr.1 hr.2, Lib.wrap_id (x := (i : Int) + 1) (by omega) (by omega)]
  have := ih k (i + 1) (segStep n (rd l i)) (by omega) (by omega) (by omega) (step_bd _ _).1 (step_bd _ _).2
  rw [show (((i + 1 : Nat)) : Int) = (i : Int) + 1 by omega] at this
  rw [this, Lib.drop_cons l i (by omega)]; rfl
theorem spec_sum_ev (l : List Int) (hl : l.length ≤ 140737488351232) (hb : Lib.Bytes l) : Ev (fun k => spec_SegSum.f k l) (sumF l) := by
 refine Ev.of (k := l.length + 1) (spec_SegSum.mono l) ?_
 have := spec_sum l hl hb l.length (l.length + 1) 0 1 (by omega) (by omega) (by omega) (by omega) (by omega)
 simpa [spec_SegSum.f, sumF] using this
theorem impl_sum (l : List Int) (hl : l.length ≤ 140737488351232) (hb : Lib.Bytes l) (d : Nat) : ∀ (k i : Nat) (n : Int), i ≤ l.length → l.length - i = d → d < k → 0 ≤ n → n ≤ 65520 →
  impl_SegSum.l0 k n l (l.length : Int) (i : Int) = some ((l.drop i).foldl segStep n) := by
 induction d with
 | zero =>
  intro k i n hi hd hk h0 h1
  obtain ⟨k, rfl⟩ : ∃ m, k = m + 1 := ⟨k - 1, by omega⟩
  simp only [impl_SegSum.l0]; rw [if_neg (by omega), List.drop_eq_nil_of_le (by omega)]; rfl
 | succ d ih =>
  intro k i n hi hd hk h0 h1
  obtain ⟨k, rfl⟩ : ∃ m, k = m + 1 := ⟨k - 1, by omega⟩
  have hr := Lib.bytes_rd hb i
  simp only [impl_SegSum.l0]
  rw [if_pos (by omega), if_pos (by omega), if_pos (by omega), step_eq h0 h1 hr.1 hr.2, Lib.wrap_id (x := (i : Int) + 1) (by omega) (by omega)]
  have := ih k (i + 1) (segStep n (rd l i)) (by omega) (by omega) (by omega) (step_bd _ _).1 (step_bd _ _).2
  rw [show (((i + 1 : Nat)) : Int) = (i : Int) + 1 by omega] at this
  rw [this, Lib.drop_cons l i (by omega)]; rfl
theorem impl_sum_ev (l : List Int) (hl : l.length ≤ 140737488351232) (hb : Lib.Bytes l) : Ev (fun k => impl_SegSum.f k l) (sumF l) := by
 refine Ev.of (k := l.length + 1) (impl_SegSum.mono l) ?_
 have := impl_sum l hl hb l.length (l.length + 1) 0 1 (by omega) (by omega) (by omega) (by omega) (by omega)
 simpa [impl_SegSum.f, sumF] using this
def twoL (n : Int) : List Int := [n / 256, n % 256]
theorem two_bytes (n : Int) (h0 : 0 ≤ n) (h1 : n ≤ 65535) : Lib.Bytes (twoL n) := by
 intro x hx
 simp [twoL] at hx
 omega
theorem impl_two_eq (n : Int) (h0 : 0 ≤ n) (h1 : n ≤ 65535) : impl_two.f n = some (twoL n) := by
 unfold impl_two.f twoL
 rw [show n / 256 % 256 = n / 256 by omega]
def segHead (a p b q x y : Int) (s : ByteArray) : List Int := twoL a ++ twoL p ++ twoL b ++ twoL q ++ twoL x ++ twoL y ++ [(s.size : Int)]
def segBody (a p b q x y : Int) (s : ByteArray) : List Int := segHead a p b q x y s ++ bytesOf s
def segBytesV (a p b q x y : Int) (s : ByteArray) : List Int := if segOkB a p b q x y s = true then segBody a p b q x y s ++ twoL (sumF (segBody a p b q x y s)) else []
theorem segOk_bd {a p b q x y : Int} {s : ByteArray} (h : segOkB a p b q x y s = true) : 0 ≤ a ∧ a ≤ 999 ∧ 0 ≤ p ∧ p ≤ 999 ∧ 0 ≤ b ∧ b ≤ 999 ∧ 0 ≤ q ∧ q ≤ 999 ∧ 0 ≤ x ∧ x ≤ 999 ∧ 0 ≤ y ∧ y ≤ 999 ∧ s.size ≤ 12 := by
 unfold segOkB at h
 have h := of_decide_eq_true h
 unfold endOkP at h
 omega
theorem bytesOf_len (s : ByteArray) : (bytesOf s).length = s.size := by
 simp [bytesOf]
theorem bytesOf_bytes (s : ByteArray) : Lib.Bytes (bytesOf s) := by
 intro x hx
 simp [bytesOf] at hx
 obtain ⟨b, _, rfl⟩ := hx
 have := b.toNat_lt
 omega
theorem head_len (a p b q x y : Int) (s : ByteArray) : (segHead a p b q x y s).length = 13 := rfl
theorem body_len (a p b q x y : Int) (s : ByteArray) : (segBody a p b q x y s).length = 13 + s.size := by
 unfold segBody; rw [List.length_append, head_len, bytesOf_len]
theorem body_bytes {a p b q x y : Int} {s : ByteArray} (h : segOkB a p b q x y s = true) : Lib.Bytes (segBody a p b q x y s) := by
 have hb := segOk_bd h
 intro z hz
 unfold segBody segHead at hz
 simp only [List.mem_append, List.mem_singleton] at hz
 rcases hz with ((((((hz | hz) | hz) | hz) | hz) | hz) | hz) | hz
 ·exact two_bytes a (by omega) (by omega) z hz
 ·exact two_bytes p (by omega) (by omega) z hz
 ·exact two_bytes b (by omega) (by omega) z hz
 ·exact two_bytes q (by omega) (by omega) z hz
 ·exact two_bytes x (by omega) (by omega) z hz
 ·exact two_bytes y (by omega) (by omega) z hz
 ·omega
 ·exact bytesOf_bytes s z hz
theorem bytes_len (a p b q x y : Int) (s : ByteArray) : (segBytesV a p b q x y s).length = if segOkB a p b q x y s = true then 15 + s.size else 0 := by
 unfold segBytesV
 split
 ·rw [List.length_append, body_len]; show 13 + s.size + 2 = _; omega
 ·rfl
theorem impl_bytes_ev (a p b q x y : Int) (s : ByteArray) (hs : s.size ≤ 281474976710656) : Ev (fun k => impl_SegBytes.f k a p b q x y s) (segBytesV a p b q x y s) := by
 obtain ⟨K0, e0⟩ := impl_seg_ev a p b q x y s hs
 dsimp only at e0
 by_cases h : segOkB a p b q x y s = true
 ·have hb := segOk_bd h
  obtain ⟨K2, e2⟩ := impl_sum_ev (segBody a p b q x y s) (by rw [body_len]; omega) (body_bytes h)
  dsimp only at e2
  have hsm := sumF_bd (segBody a p b q x y s)
  have step : ∀ (k i : Nat) (acc : List Int) (v : Int), i < 6 → rd [a, p, b, q, x, y] (i : Int) = v → acc.length ≤ 100 → 0 ≤ v → v ≤ 65535 →
    impl_SegBytes.l0 (k + 1) acc [a, p, b, q, x, y] 6 (i : Int) a p b q x y s = impl_SegBytes.l0 k (acc ++ twoL v) [a, p, b, q, x, y] 6 ((i + 1 : Nat) : Int) a p b q x y s := by
   intro k i acc v hi hv hacc h0 h1
   rw [impl_SegBytes.l0, if_pos (by omega), if_pos (by omega), if_pos (by simp; omega), hv, impl_two_eq v h0 h1]
   simp only [Option.bind_some]
   rw [if_pos (by simp [twoL]; omega), Lib.wrap_id (by omega) (by omega)]; rfl
  refine ⟨K0 + K2 + 7, fun k hk => ?_⟩
  obtain ⟨k, rfl⟩ : ∃ m, k = m + 7 := ⟨k - 7, by omega⟩
  dsimp only
  unfold impl_SegBytes.f segBytesV
  rw [e0 (k + 7) (by omega)]; simp only [Option.bind_some]
  rw [if_pos h, if_pos h, if_pos (by omega)]
  show impl_SegBytes.l0 (k + 7) [] [a, p, b, q, x, y] 6 ((0 : Nat) : Int) a p b q x y s = _
  rw [step (k + 6) 0 _ a (by omega) rfl (by simp) (by omega) (by omega), step (k + 5) 1 _ p (by omega) rfl (by simp [twoL]) (by omega) (by omega), step (k + 4) 2 _ b (by omega) rfl (by simp [twoL]) (by omega) (by omega),
   step (k + 3) 3 _ q (by omega) rfl (by simp [twoL]) (by omega) (by omega), step (k + 2) 4 _ x (by omega) rfl (by simp [twoL]) (by omega) (by omega), step (k + 1) 5 _ y (by omega) rfl (by simp [twoL]) (by omega) (by omega)]
  rw [impl_SegBytes.l0, if_neg (by simp), if_pos (by simp [twoL])]
  simp only [Option.bind_some]
  rw [show (s.size : Int) % 256 = (s.size : Int) by omega, if_pos (by simp [twoL]; omega)]
  have eb : [] ++ twoL a ++ twoL p ++ twoL b ++ twoL q ++ twoL x ++ twoL y ++ [(s.size : Int)] ++ bytesOf s = segBody a p b q x y s := by simp [segBody, segHead]
  rw [eb, e2 k (by omega)]; simp only [Option.bind_some]
  rw [impl_two_eq _ hsm.1 (by omega)]; simp only [Option.bind_some]
  rw [if_pos (by rw [body_len]; simp [twoL]; omega)]
 ·refine ⟨K0, fun k hk => ?_⟩
  dsimp only
  unfold impl_SegBytes.f segBytesV
  rw [e0 k hk]; simp only [Option.bind_some]
  rw [if_neg h, if_neg h]
/-! What is read: two bytes make a number; a segment is read just if its bytes are these. -/
def num2 (l : List Int) (i : Nat) : Int := rd l (i : Int) * 256 + rd l ((i + 1 : Nat) : Int)
def rdStr (l : List Int) : ByteArray := strOfNums ((l.take (l.length - 2)).drop 13)
def rdOk (l : List Int) : Prop := 15 ≤ l.length ∧ l.length ≤ 27 ∧ rd l 12 = (l.length : Int) - 15 ∧ num2 l (l.length - 2) = sumF (l.take (l.length - 2)) ∧ segOkB (num2 l 0) (num2 l 2) (num2 l 4) (num2 l 6) (num2 l 8) (num2 l 10) (rdStr l) = true
instance (l : List Int) : Decidable (rdOk l) := by unfold rdOk; infer_instance
def segRdV (l : List Int) : Int × Int × Int × Int × Int × Int × ByteArray × Bool := if rdOk l then (num2 l 0, num2 l 2, num2 l 4, num2 l 6, num2 l 8, num2 l 10, rdStr l, true) else (0, 0, 0, 0, 0, 0, ⟨#[]⟩, false)
theorem num_eq (l : List Int) (hb : Lib.Bytes l) (i : Nat) (hi : i + 1 < l.length) (hl : l.length ≤ 140737488351232) : spec_l5Num.f l (i : Int) = some (num2 l i) := by
 have h1 := Lib.bytes_rd hb i
 have h2 := Lib.bytes_rd hb (i + 1)
 unfold spec_l5Num.f num2
 rw [Lib.wrap_id (x := (i : Int) + 1) (by omega) (by omega), if_pos (by omega), if_pos (by omega), if_pos (by omega), if_pos (by omega), show (i : Int) + 1 = ((i + 1 : Nat) : Int) by omega,
  Lib.wrap_id (x := rd l (i : Int)) (by omega) (by omega), Lib.wrap_id (x := rd l (i : Int) * 256) (by omega) (by omega), Lib.wrap_id (x := rd l ((i + 1 : Nat) : Int)) (by omega) (by omega), Lib.wrap_id (by omega) (by omega)]
theorem spec_rd_ev (l : List Int) (hb : Lib.Bytes l) (hl : l.length ≤ 140737488351232) : Ev (fun k => spec_SegRead.f k l) (segRdV l) := by
 have hw : wrap64 ((l.length : Int) - 15) = (l.length : Int) - 15 := Lib.wrap_id (by omega) (by omega)
 have hj : ∀ k n, spec_SegRead.j0 (k + 1) l n true = some (0, 0, 0, 0, 0, 0, ⟨#[]⟩, false) := fun k n => by rw [spec_SegRead.j0, if_pos rfl]
 by_cases c1 : (l.length : Int) - 15 < 0
 ·refine ⟨1, fun k hk => ?_⟩
  obtain ⟨k, rfl⟩ : ∃ m, k = m + 1 := ⟨k - 1, by omega⟩
  dsimp only
  unfold spec_SegRead.f segRdV
  rw [hw, if_pos c1, hj, if_neg (fun h => by have := h.1; omega)]
 by_cases c2 : (l.length : Int) - 15 > 12
 ·refine ⟨1, fun k hk => ?_⟩
  obtain ⟨k, rfl⟩ : ∃ m, k = m + 1 := ⟨k - 1, by omega⟩
  dsimp only
  unfold spec_SegRead.f segRdV
  rw [hw, if_neg c1, if_pos c2, hj, if_neg (fun h => by have := h.2.1; omega)]
 have hr12 := Lib.bytes_rd hb 12
 rw [show ((12 : Nat) : Int) = 12 from rfl] at hr12
 by_cases c3 : rd l 12 = (l.length : Int) - 15
 rotate_left
 ·refine ⟨1, fun k hk => ?_⟩
  obtain ⟨k, rfl⟩ : ∃ m, k = m + 1 := ⟨k - 1, by omega⟩
  dsimp only
  unfold spec_SegRead.f segRdV
  rw [hw, if_neg c1, if_neg c2, if_pos (by omega), Lib.wrap_id (x := rd l 12) (by omega) (by omega), if_neg c3, hj, if_neg (fun h => c3 h.2.2.1)]
 have e13 : wrap64 (13 + ((l.length : Int) - 15)) = ((l.length - 2 : Nat) : Int) := by rw [Lib.wrap_id (by omega) (by omega)]; omega
 obtain ⟨K1, e1⟩ := spec_sum_ev (l.take (l.length - 2)) (by rw [List.length_take]; omega) (fun x hx => hb x (List.mem_of_mem_take hx))
 obtain ⟨K2, e2⟩ := spec_seg_ev (num2 l 0) (num2 l 2) (num2 l 4) (num2 l 6) (num2 l 8) (num2 l 10) (rdStr l)
 dsimp only at e1 e2
 refine ⟨K1 + K2 + 1, fun k hk => ?_⟩
 obtain ⟨k, rfl⟩ : ∃ m, k = m + 1 := ⟨k - 1, by omega⟩
 dsimp only
 unfold spec_SegRead.f
 rw [hw, if_neg c1, if_neg c2, if_pos (by omega), Lib.wrap_id (x := rd l 12) (by omega) (by omega), if_pos c3, e13, num_eq l hb (l.length - 2) (by omega) (by omega), Option.bind_some, if_pos (by omega), if_pos (by omega), Int.toNat_natCast, e1 _ (by omega), Option.bind_some]
 by_cases c4 : num2 l (l.length - 2) = sumF (l.take (l.length - 2))
 rotate_left
 ·rw [show (num2 l (l.length - 2) != sumF (l.take (l.length - 2))) = true from bne_iff_ne.2 c4, hj]
  unfold segRdV
  rw [if_neg (fun h => c4 h.2.2.2.1)]
 rw [show (num2 l (l.length - 2) != sumF (l.take (l.length - 2))) = false from bne_eq_false_iff_eq.2 c4, spec_SegRead.j0, if_neg (by decide)]
 have n0 := num_eq l hb 0 (by omega) hl
 have n2 := num_eq l hb 2 (by omega) hl
 have n4 := num_eq l hb 4 (by omega) hl
 have n6 := num_eq l hb 6 (by omega) hl
 have n8 := num_eq l hb 8 (by omega) hl
 have n10 := num_eq l hb 10 (by omega) hl
 simp only [show ((0 : Nat) : Int) = 0 from rfl, show ((2 : Nat) : Int) = 2 from rfl, show ((4 : Nat) : Int) = 4 from rfl, show ((6 : Nat) : Int) = 6 from rfl, show ((8 : Nat) : Int) = 8 from rfl, show ((10 : Nat) : Int) = 10 from rfl] at n0 n2 n4 n6 n8 n10
 rw [n0, Option.bind_some, n2, Option.bind_some, n4, Option.bind_some, n6, Option.bind_some, n8, Option.bind_some, n10, Option.bind_some, e13, if_pos (by omega), if_pos (by omega), Int.toNat_natCast]
 have e2' := e2 k (by omega)
 unfold rdStr at e2'
 rw [e2', Option.bind_some]
 by_cases c5 : segOkB (num2 l 0) (num2 l 2) (num2 l 4) (num2 l 6) (num2 l 8) (num2 l 10) (rdStr l) = true
 ·have c5' := c5
  unfold rdStr at c5'
  rw [if_pos c5']
  unfold segRdV
  rw [if_pos ⟨by omega, by omega, c3, c4, c5⟩]; rfl
 ·have c5' := c5
  unfold rdStr at c5'
  rw [if_neg c5']
  unfold segRdV
  rw [if_neg (fun h => c5 h.2.2.2.2)]
/-! The reader's states. -/
def at_ (l : List Int) (j : Nat) : Option Int := if j ≤ l.length then some (j : Int) else none
theorem step_at (l : List Int) (n j : Nat) : Ends.stepV l n (at_ l j) = at_ l (j + n) := by
 unfold at_ Ends.stepV
 by_cases h : j ≤ l.length
 ·rw [if_pos h]
  dsimp only
  by_cases h2 : j + n ≤ l.length
  ·rw [if_pos (by omega), if_pos h2, show (j : Int) + (n : Int) = ((j + n : Nat) : Int) by omega]
  ·rw [if_neg (by omega), if_neg h2]
 ·rw [if_neg h, if_neg (by omega)]
theorem num_at (l : List Int) (j : Nat) : Ends.numV l (at_ l j) = if j + 2 ≤ l.length then num2 l j else 0 := by
 unfold at_ Ends.numV num2
 by_cases h : j ≤ l.length
 ·rw [if_pos h]
  dsimp only
  by_cases h2 : j + 2 ≤ l.length
  ·rw [if_pos (by omega), if_pos h2, show (j : Int) + 1 = ((j + 1 : Nat) : Int) by omega]
  ·rw [if_neg (by omega), if_neg h2]
 ·rw [if_neg h, if_neg (by omega)]
theorem take_at (l : List Int) (n j : Nat) : Ends.takeV l n (at_ l j) = if j + n ≤ l.length then (l.take (j + n)).drop j else List.replicate n 0 := by
 unfold at_ Ends.takeV
 by_cases h : j ≤ l.length
 ·rw [if_pos h]
  dsimp only
  by_cases h2 : j + n ≤ l.length
  ·rw [if_pos (by omega), if_pos h2, show ((j : Int) + (n : Int)).toNat = j + n by omega, Int.toNat_natCast]
  ·rw [if_neg (by omega), if_neg h2]
 ·rw [if_neg h, if_neg (by omega)]
theorem two_num (l : List Int) (hb : Lib.Bytes l) (i : Nat) : twoL (num2 l i) = [rd l (i : Int), rd l ((i + 1 : Nat) : Int)] := by
 have h1 := Lib.bytes_rd hb i
 have h2 := Lib.bytes_rd hb (i + 1)
 unfold twoL num2
 rw [show (rd l (i : Int) * 256 + rd l ((i + 1 : Nat) : Int)) / 256 = rd l (i : Int) by omega, show (rd l (i : Int) * 256 + rd l ((i + 1 : Nat) : Int)) % 256 = rd l ((i + 1 : Nat) : Int) by omega]
theorem bytes_strs {l : List Int} (hb : Lib.Bytes l) : bytesOf (strOfNums l) = l := by
 unfold bytesOf
 rw [strOfNums_data, List.map_map]
 refine (List.map_congr_left fun x hx => ?_).trans (List.map_id l)
 have := hb x hx
 show ((UInt8.ofNat x.toNat).toNat : Int) = x
 rw [UInt8.toNat_ofNat', Nat.mod_eq_of_lt (by omega)]
 omega
theorem take13 (l : List Int) (h : 13 ≤ l.length) : l.take 13 = [rd l 0, rd l 1, rd l 2, rd l 3, rd l 4, rd l 5, rd l 6, rd l 7, rd l 8, rd l 9, rd l 10, rd l 11, rd l 12] := by
 match l, h with
 | a0 :: a1 :: a2 :: a3 :: a4 :: a5 :: a6 :: a7 :: a8 :: a9 :: a10 :: a11 :: a12 :: t, _ => rfl
/-- The bytes of what was read, but for the sum, are the first ones. -/
theorem body_of (l : List Int) (hb : Lib.Bytes l) (d : Nat) (h : 13 + d ≤ l.length) (hd : rd l 12 = (d : Int)) :
  segBody (num2 l 0) (num2 l 2) (num2 l 4) (num2 l 6) (num2 l 8) (num2 l 10) (strOfNums ((l.take (13 + d)).drop 13)) = l.take (13 + d) := by
 have e : (strOfNums ((l.take (13 + d)).drop 13)).size = d := by rw [strOfNums_size, List.length_drop, List.length_take]; omega
 unfold segBody segHead
 rw [two_num l hb, two_num l hb, two_num l hb, two_num l hb, two_num l hb, two_num l hb, e, bytes_strs (fun x hx => hb x (List.mem_of_mem_take (List.mem_of_mem_drop hx)))]
 have h13 : (l.take (13 + d)).take 13 = l.take 13 := by rw [List.take_take, Nat.min_eq_left (by omega)]
 conv => rhs; rw [← List.take_append_drop 13 (l.take (13 + d)), h13, take13 l (by omega), hd]
 rfl
theorem seg_rd_v (l : List Int) (hb : Lib.Bytes l) (d : Nat) (t : List Int) (s6 s7 s8 : Option Int) (h6 : s6 = at_ l 12) (h7 : s7 = Ends.stepV l 1 s6) (h8 : s8 = Ends.stepV l d s7) (hd : (d : Int) = rd (Ends.takeV l 1 s6) 0) (ht : t = Ends.takeV l d s7)
  (x1 x2 x3 x4 x5 x6 : Int) (e1 : x1 = Ends.numV l (at_ l 0)) (e2 : x2 = Ends.numV l (at_ l 2)) (e3 : x3 = Ends.numV l (at_ l 4)) (e4 : x4 = Ends.numV l (at_ l 6)) (e5 : x5 = Ends.numV l (at_ l 8)) (e6 : x6 = Ends.numV l (at_ l 10)) :
  (if s8.isSome = true ∧ segBytesV x1 x2 x3 x4 x5 x6 (strOfNums t) = l then (x1, x2, x3, x4, x5, x6, strOfNums t, true) else (0, 0, 0, 0, 0, 0, ⟨#[]⟩, false)) = segRdV l := by
 rw [h6, step_at] at h7
 rw [h7, step_at] at h8
 rw [h6, take_at] at hd
 rw [h7, take_at] at ht
 by_cases c : 13 ≤ l.length
 rotate_left
 ·have : s8 = none := by rw [h8]; unfold at_; rw [if_neg (by omega)]
  rw [this, if_neg (fun h => by simp at h)]
  unfold segRdV
  rw [if_neg (fun h => by have := h.1; omega)]
 rw [if_pos (by omega)] at hd
 have hd12 : rd ((l.take (12 + 1)).drop 12) 0 = rd l 12 := by
  unfold rd
  rw [List.getD_eq_getElem?_getD, List.getD_eq_getElem?_getD, List.getElem?_drop, List.getElem?_take, if_pos (by show 12 + 0 < 13; omega)]; rfl
 rw [hd12] at hd
 rw [num_at, if_pos (by omega)] at e1 e2 e3 e4 e5 e6
 by_cases c2 : 13 + d ≤ l.length
 rotate_left
 ·have : s8 = none := by rw [h8]; unfold at_; rw [if_neg (by omega)]
  rw [this, if_neg (fun h => by simp at h)]
  unfold segRdV
  rw [if_neg (fun h => by have h1 := h.1; have h2 := h.2.2.1; omega)]
 have hs8 : s8.isSome = true := by rw [h8]; unfold at_; rw [if_pos (by omega)]; rfl
 rw [if_pos (by omega)] at ht
 have hbody := body_of l hb d c2 hd.symm
 subst e1 e2 e3 e4 e5 e6
 subst ht
 rw [show 12 + 1 = 13 from rfl]
 have hsz : (strOfNums ((l.take (13 + d)).drop 13)).size = d := by rw [strOfNums_size, List.length_drop, List.length_take]; omega
 by_cases c3 : segOkB (num2 l 0) (num2 l 2) (num2 l 4) (num2 l 6) (num2 l 8) (num2 l 10) (strOfNums ((l.take (13 + d)).drop 13)) = true
 rotate_left
 ·have : ¬ segBytesV (num2 l 0) (num2 l 2) (num2 l 4) (num2 l 6) (num2 l 8) (num2 l 10) (strOfNums ((l.take (13 + d)).drop 13)) = l := fun h => by
   unfold segBytesV at h
   rw [if_neg c3] at h
   rw [← h] at c
   simp at c
  rw [if_neg (fun h => this h.2)]
  unfold segRdV
  rw [if_neg (fun h => by
   have h3 := h.2.2.1
   have h5 := h.2.2.2.2
   unfold rdStr at h5
   rw [show l.length - 2 = 13 + d by have := h.1; omega] at h5
   exact c3 h5)]
 have hd12' := (segOk_bd c3).2.2.2.2.2.2.2.2.2.2.2.2
 rw [hsz] at hd12'
 have hsm := sumF_bd (l.take (13 + d))
 have hV : segBytesV (num2 l 0) (num2 l 2) (num2 l 4) (num2 l 6) (num2 l 8) (num2 l 10) (strOfNums ((l.take (13 + d)).drop 13)) = l.take (13 + d) ++ twoL (sumF (l.take (13 + d))) := by
  unfold segBytesV
  rw [if_pos c3, hbody]
 rw [hV]
 by_cases c4 : l.length = 15 + d
 rotate_left
 ·rw [if_neg (fun h => by
   have := congrArg List.length h.2
   rw [List.length_append, List.length_take] at this
   simp [twoL] at this
   omega)]
  unfold segRdV
  rw [if_neg (fun h => by have h1 := h.1; have h2 := h.2.2.1; omega)]
 have h2 : l.length - 2 = 13 + d := by omega
 have hdr : l.drop (13 + d) = [rd l ((13 + d : Nat) : Int), rd l ((13 + d + 1 : Nat) : Int)] := by
  rw [Lib.drop_cons l (13 + d) (by omega), Lib.drop_cons l (13 + d + 1) (by omega), List.drop_eq_nil_of_le (by omega)]
 have hiff : l.take (13 + d) ++ twoL (sumF (l.take (13 + d))) = l ↔ num2 l (13 + d) = sumF (l.take (13 + d)) := by
  have hb1 := Lib.bytes_rd hb (13 + d)
  have hb2 := Lib.bytes_rd hb (13 + d + 1)
  constructor
  ·intro h
   have h' : l.take (13 + d) ++ twoL (sumF (l.take (13 + d))) = l.take (13 + d) ++ l.drop (13 + d) := by rw [List.take_append_drop]; exact h
   have h3 := List.append_cancel_left h'
   rw [hdr] at h3
   unfold twoL at h3
   simp only [List.cons.injEq, and_true] at h3
   unfold num2
   rw [← h3.1, ← h3.2]
   omega
  ·intro h
   rw [← h, two_num l hb, ← hdr, List.take_append_drop]
 by_cases c5 : num2 l (13 + d) = sumF (l.take (13 + d))
 ·rw [if_pos ⟨hs8, hiff.2 c5⟩]
  unfold segRdV
  have hok : rdOk l := by
   unfold rdOk rdStr
   rw [h2]
   exact ⟨by omega, by omega, by omega, c5, c3⟩
  rw [if_pos hok]
  unfold rdStr
  rw [h2]
 ·rw [if_neg (fun h => c5 (hiff.1 h.2))]
  unfold segRdV
  rw [if_neg (fun h => by
   have := h.2.2.2.1
   rw [h2] at this
   exact c5 this)]
theorem segV_bytes (a p b q x y : Int) (s : ByteArray) : ∀ z ∈ segBytesV a p b q x y s, 0 ≤ z ∧ z < 256 := by
 intro z hz
 unfold segBytesV at hz
 split at hz
 ·rename_i h
  rw [List.mem_append] at hz
  have hs := sumF_bd (segBody a p b q x y s)
  rcases hz with hz | hz
  ·have := body_bytes h z hz; omega
  ·have := two_bytes _ hs.1 (by omega) z hz; omega
 ·cases hz
theorem impl_SegRead.calls (k : Nat) (A0 : Option Addr) (c0 : Nat) (l0 : List Int) (r1 : Int) (r2 : Int) (r3 : Int) (r4 : Int) (r5 : Int) (r6 : Int) (r7 : ByteArray) (r8 : Bool) (w : World) (hr0 : Kd.C (Kd.int .u8) w A0 l0.length l0) (hc0 : l0.length ≤ c0) (h : impl_SegRead.f k l0 = some (r1, r2, r3, r4, r5, r6, r7, r8)) (hL_ : Ends.LShort w) :
  Calls Tryd.prog 8 #[.slice A0 l0.length c0] w fun e w' => e = .returned (.tuple #[.agg #[.int .i64 r1, .int .i64 r2, .int .i64 r3, .int .i64 r4, .int .i64 r5, .int .i64 r6, .string r7], .bool r8]) ∧ Below w.heap.size w w' := by
 unfold impl_SegRead.f at h
 by_cases hb : (∀ x ∈ l0, 0 ≤ x ∧ x ≤ 255) ∧ l0.length ≤ 140737488351232
 ·rw [if_pos hb] at h
  obtain ⟨hb, hl⟩ := hb
  obtain ⟨K, hK⟩ := spec_rd_ev l0 hb hl
  have hv : segRdV l0 = (r1, r2, r3, r4, r5, r6, r7, r8) :=
   Option.some.inj ((hK (max K k) (Nat.le_max_left _ _)).symm.trans (at_rounds (spec_SegRead.mono l0) (Nat.le_max_right K k) h))
  have a0 : (some 0 : Option Int) = at_ l0 0 := by unfold at_; rw [if_pos (Nat.zero_le _)]; rfl
  obtain ⟨d, hd⟩ : ∃ d : Nat, (d : Int) = rd (Ends.takeV l0 1 (at_ l0 12)) 0 ∧ d ≤ 255 := by
   have h1 : 0 ≤ rd (Ends.takeV l0 1 (at_ l0 12)) 0 ∧ rd (Ends.takeV l0 1 (at_ l0 12)) 0 ≤ 255 := by
    rw [take_at]
    split
    ·exact Lib.bytes_rd (fun x hx => hb x (List.mem_of_mem_take (List.mem_of_mem_drop hx))) 0
    ·show 0 ≤ (0 : Int) ∧ (0 : Int) ≤ 255; omega
   exact ⟨(rd (Ends.takeV l0 1 (at_ l0 12)) 0).toNat, by omega, by omega⟩
  have ht : (Ends.takeV l0 d (at_ l0 13)).length = d := by
   rw [take_at]
   split
   ·rw [List.length_drop, List.length_take]; omega
   ·simp
  obtain ⟨K2, hS⟩ := impl_bytes_ev (Ends.numV l0 (at_ l0 0)) (Ends.numV l0 (at_ l0 2)) (Ends.numV l0 (at_ l0 4)) (Ends.numV l0 (at_ l0 6)) (Ends.numV l0 (at_ l0 8)) (Ends.numV l0 (at_ l0 10)) (strOfNums (Ends.takeV l0 d (at_ l0 13))) (by rw [strOfNums_size, ht]; omega)
  have hv2 := seg_rd_v l0 hb d _ _ _ _ rfl rfl rfl hd.1 rfl _ _ _ _ _ _ rfl rfl rfl rfl rfl rfl
  rw [hv] at hv2
  refine (Ends.segread_calls A0 c0 l0 w hL_ hr0 (fun x hx => by have := hb x hx; omega) (by omega) hc0 (at_ l0 2) (at_ l0 4) (at_ l0 6) (at_ l0 8) (at_ l0 10) (at_ l0 12) (Ends.numV l0 (at_ l0 0)) (Ends.numV l0 (at_ l0 2)) (Ends.numV l0 (at_ l0 4)) (Ends.numV l0 (at_ l0 6)) (Ends.numV l0 (at_ l0 8)) (Ends.numV l0 (at_ l0 10)) (Ends.takeV l0 d (at_ l0 13))
   (by rw [a0]) (by rw [a0, step_at]) rfl (by rw [step_at]) rfl (by rw [step_at]) rfl (by rw [step_at]) rfl (by rw [step_at]) rfl (by rw [step_at])
   _ (segV_bytes _ _ _ _ _ _ _) (fun W => impl_SegBytes.calls K2 _ _ _ _ _ _ _ _ W (hS K2 (Nat.le_refl _))) (at_ l0 13) (at_ l0 (13 + d)) d _ rfl (by rw [step_at]) hd.1 hd.2 rfl (by rw [step_at])).mono ?_
  rintro e w' ⟨rfl, hB⟩
  refine ⟨?_, hB⟩
  rw [step_at, step_at] at hv2
  rw [show (12 + 1 : Nat) = 13 from rfl] at hv2
  by_cases hc : (at_ l0 (13 + d)).isSome = true ∧ segBytesV (Ends.numV l0 (at_ l0 0)) (Ends.numV l0 (at_ l0 2)) (Ends.numV l0 (at_ l0 4)) (Ends.numV l0 (at_ l0 6)) (Ends.numV l0 (at_ l0 8)) (Ends.numV l0 (at_ l0 10)) (strOfNums (Ends.takeV l0 d (at_ l0 13))) = l0
  ·rw [if_pos hc] at hv2 ⊢
   simp only [Prod.mk.injEq] at hv2
   obtain ⟨rfl, rfl, rfl, rfl, rfl, rfl, rfl, rfl⟩ := hv2
   rfl
  ·rw [if_neg hc] at hv2 ⊢
   simp only [Prod.mk.injEq] at hv2
   obtain ⟨rfl, rfl, rfl, rfl, rfl, rfl, rfl, rfl⟩ := hv2
   rfl
 ·rw [if_neg hb] at h; cases h

/-! ### laws_haBytes: function 14 -/
def laws_haBytes.l0 : Nat → List Int → List Int → Int → Option (Bool)
 | 0, _, _, _ => none
 | k + 1, x0, x1, x5 => if x5 < (x0.length : Int) then (if 0 ≤ x5 then (if x5 < (x1.length : Int) then (if (rd x0 x5) = (rd x1 x5) then (laws_haBytes.l0 k x0 x1 (wrap64 (x5 + 1))) else (some false)) else (none)) else (none)) else (some true)
def laws_haBytes.f (k : Nat) (l0 : List Int) (l1 : List Int) : Option (Bool) := if (l0.length : Int) = (l1.length : Int) then (laws_haBytes.l0 k l0 l1 0) else (some false)
theorem laws_haBytes.mono_l : ∀ k, (∀ y0 y1 y2, LeO (laws_haBytes.l0 k y0 y1 y2) (laws_haBytes.l0 (k + 1) y0 y1 y2))
 | 0 => fun _ _ _ r h => by simp [laws_haBytes.l0] at h
 | k + 1 => by
  have ih0 := laws_haBytes.mono_l k
  ·intro y0 y1 y2
   unfold laws_haBytes.l0
   repeat' first
   | (with_reducible exact ih0 _ _ _)
   | (with_reducible exact LeO.refl _)
   | (with_reducible exact LeO.none _)
   | (with_reducible refine LeO.ite ?_ ?_)
   | (with_reducible refine LeO.bind ?_ (fun _ => ?_))
   | exact ih0 _ _ _
   | exact LeO.none _
   | refine LeO.ite ?_ ?_
   | refine LeO.bind ?_ (fun _ => ?_)
theorem laws_haBytes.mono : ∀ a0 a1 k, LeO (laws_haBytes.f k a0 a1) (laws_haBytes.f (k + 1) a0 a1) := by
 intro a0 a1 k
 have ih0 := laws_haBytes.mono_l k
 unfold laws_haBytes.f
 repeat' first
   | (with_reducible exact ih0 _ _ _)
   | (with_reducible exact LeO.refl _)
   | (with_reducible exact LeO.none _)
   | (with_reducible refine LeO.ite ?_ ?_)
   | (with_reducible refine LeO.bind ?_ (fun _ => ?_))
   | exact ih0 _ _ _
   | exact LeO.none _
   | refine LeO.ite ?_ ?_
   | refine LeO.bind ?_ (fun _ => ?_)
set_option maxHeartbeats 8000000 in
set_option maxRecDepth 100000 in
theorem laws_haBytes.calls (k : Nat) (A0 : Option Addr) (c0 : Nat) (l0 : List Int) (A1 : Option Addr) (c1 : Nat) (l1 : List Int) (r : Bool) (w : World) (hr0 : Kd.C (Kd.int .u8) w A0 l0.length l0) (hc0 : l0.length ≤ c0) (hr1 : Kd.C (Kd.int .u8) w A1 l1.length l1) (hc1 : l1.length ≤ c1) (h : laws_haBytes.f k l0 l1 = some r) :
  Calls Tryd.prog 14 #[.slice A0 l0.length c0, .slice A1 l1.length c1] w fun e w' => e = .returned (.bool r) ∧ Drawn0 w w' := by
 have HR0 := Aside0.mk hr0
 have HC0 := Aside0.mk hc0
 clear hr0 hc0
 have HR1 := Aside0.mk hr1
 have HC1 := Aside0.mk hc1
 clear hr1 hc1
 have H : (if (l0.length : Int) = (l1.length : Int) then (laws_haBytes.l0 k l0 l1 0) else (some false)) = some r := h
 clear h
 by_cases c3 : (l0.length : Int) = (l1.length : Int)
 ·rw [if_pos c3] at H
  have c3b0 : ((l0.length : Int) == (l1.length : Int)) = true := beq_iff_eq.mpr c3
  have c3b1 : ((l0.length : Int) != (l1.length : Int)) = false := bne_eq_false_iff_eq.mpr c3
  have c3b2 : (l0.length == l1.length) = true := by first | simpa using c3 | (simp at c3 ⊢; omega)
  clear c3
  have H' := Aside0.mk H
  clear H
  go_enter Tryd.func14, Tryd.ntmps14
  go_wp2
  repeat (go_quiet (fail); try go_wp2)
  go_loopg [5] k (fun kq v5 w' => ∃ (x5_1 : Int), v5 = .int .i64 x5_1 ∧ Aside0 (laws_haBytes.l0 kq l0 l1 x5_1 = some r) ∧ Aside0 (kq ≤ k) ∧ Drawn0 w w')
  case atStart => exact ⟨(0), Z1, H', ⟨Nat.le_refl _⟩, by repeat (first | exact Drawn0.refl _ | apply Drawn0.step)⟩
  case round =>
   clear H'
   try clear c1
   try clear p2
   try clear c3
   try clear c3b0
   try clear c3b1
   try clear c3b2
   obtain ⟨x5_1, rfl, HA, HK1, ⟨m1, rfl⟩⟩ := hrel
   cases gk with
   | zero => exact absurd HA.out (by simp [laws_haBytes.l0])
   | succ k1 =>
    have H := HA.out
    clear HA
    simp only [laws_haBytes.l0] at H
    by_cases c4 : x5_1 < (l0.length : Int)
    ·rw [if_pos c4] at H
     have c4b0 : decide (x5_1 < (l0.length : Int)) = true := decide_eq_true c4
     clear c4
     by_cases c5 : 0 ≤ x5_1
     ·rw [if_pos c5] at H
      have c5b0 : decide (0 ≤ x5_1) = true := decide_eq_true c5
      clear c5
      by_cases c6 : x5_1 < (l1.length : Int)
      ·rw [if_pos c6] at H
       have c6b0 : decide (x5_1 < (l1.length : Int)) = true := decide_eq_true c6
       clear c6
       by_cases c7 : (rd l0 x5_1) = (rd l1 x5_1)
       ·rw [if_pos c7] at H
        have c7b0 : ((rd l0 x5_1) == (rd l1 x5_1)) = true := beq_iff_eq.mpr c7
        have c7b1 : ((rd l0 x5_1) != (rd l1 x5_1)) = false := bne_eq_false_iff_eq.mpr c7
        clear c7
        have H' := Aside0.mk H
        clear H
        have p192 : 0 ≤ (x5_1 : Int) := of_decide_eq_true Z2
        have q192 : x5_1 < (l0.length : Int) := of_decide_eq_true Z2
        obtain ⟨ad192, e192, hx192_0⟩ := Kd.at_int HR0.out x5_1 p192 q192
        cases e192
        replace p192 := eq_true p192
        replace q192 := eq_true q192
        have p193 : 0 ≤ (x5_1 : Int) := of_decide_eq_true Z2
        have q193 : x5_1 < (l1.length : Int) := of_decide_eq_true Z2
        obtain ⟨ad193, e193, hx193_0⟩ := Kd.at_int HR1.out x5_1 p193 q193
        cases e193
        replace p193 := eq_true p193
        replace q193 := eq_true q193
        go_wp2
        repeat (go_quiet (fail); try go_wp2)
        go_roundg k1
        case measure => have := HK1.out; omega
        case rel => exact ⟨(wrap64 (x5_1 + 1)), Z1, H', ⟨by have := HK1.out; omega⟩, by repeat (first | exact Drawn0.refl _ | apply Drawn0.step)⟩
       ·rw [if_neg c7] at H
        have c7b0 : ((rd l0 x5_1) == (rd l1 x5_1)) = false := beq_eq_false_iff_ne.mpr c7
        have c7b1 : ((rd l0 x5_1) != (rd l1 x5_1)) = true := bne_iff_ne.mpr c7
        obtain rfl := Option.some.inj H
        have p192 : 0 ≤ (x5_1 : Int) := of_decide_eq_true Z2
        have q192 : x5_1 < (l0.length : Int) := of_decide_eq_true Z2
        obtain ⟨ad192, e192, hx192_0⟩ := Kd.at_int HR0.out x5_1 p192 q192
        cases e192
        replace p192 := eq_true p192
        replace q192 := eq_true q192
        have p193 : 0 ≤ (x5_1 : Int) := of_decide_eq_true Z2
        have q193 : x5_1 < (l1.length : Int) := of_decide_eq_true Z2
        obtain ⟨ad193, e193, hx193_0⟩ := Kd.at_int HR1.out x5_1 p193 q193
        cases e193
        replace p193 := eq_true p193
        replace q193 := eq_true q193
        go_wp2
        repeat (go_quiet (fail); try go_wp2)
        go_ret
        exact ⟨by first | rfl | (simp; done) | (simp [*]; done), by repeat (first | exact Drawn0.refl _ | apply Drawn0.step)⟩
      ·rw [if_neg c6] at H
       exact absurd H (by simp)
     ·rw [if_neg c5] at H
      exact absurd H (by simp)
    ·rw [if_neg c4] at H
     have c4b0 : decide (x5_1 < (l0.length : Int)) = false := decide_eq_false c4
     clear c4
     obtain rfl := Option.some.inj H
     go_wp2
     repeat (go_quiet (fail); try go_wp2)
     go_ret
     exact ⟨by first | rfl | (simp; done) | (simp [*]; done), by repeat (first | exact Drawn0.refl _ | apply Drawn0.step)⟩
 ·rw [if_neg c3] at H
  have c3b0 : ((l0.length : Int) == (l1.length : Int)) = false := beq_eq_false_iff_ne.mpr c3
  have c3b1 : ((l0.length : Int) != (l1.length : Int)) = true := bne_iff_ne.mpr c3
  have c3b2 : (l0.length == l1.length) = false := by first | simpa using c3 | (simp at c3 ⊢; omega)
  obtain rfl := Option.some.inj H
  go_enter Tryd.func14, Tryd.ntmps14
  go_wp2
  repeat (go_quiet (fail); try go_wp2)
  go_ret
  exact ⟨by first | rfl | (simp; done) | (simp [*]; done), by repeat (first | exact Drawn0.refl _ | apply Drawn0.step)⟩

/-! ### impl_LinOk: function 37 -/
def impl_LinOk.f (a0 : ByteArray) : Option (Bool) := if 0 ≤ (a0.size : Int) then (if ((a0.size : Int) : Int).toNat ≤ 281474976710656 then (if 1 ≤ 281474976710656 then ((some (List.replicate 1 0 : List Int)).bind fun y197 => (if 0 ≤ (wrap64 ((a0.size : Int) - 1)) then (if (wrap64 ((a0.size : Int) - 1)) < (y197.length : Int) then (if 0 < (a0.size : Int) then (if 0 ≤ (wrap64 ((wrap64 (bt a0 0)) - 97)) then (if (wrap64 ((wrap64 (bt a0 0)) - 97)) < (y197.length : Int) then (some true) else (none)) else (none)) else (none)) else (none)) else (none))) else (none)) else (none)) else (none)
-- BY HAND
/-- Whether a text is a line. -/
def linOkB (s : ByteArray) : Bool := decide (s.size ≤ 16 ∧ ∀ j, j < s.size → lineB (bt s (j : Int)) = true)
set_option maxHeartbeats 1000000 in
set_option maxRecDepth 100000 in
theorem lin_walk (s : ByteArray) (w : World) (hs : s.size ≤ 281474976710656) :
  Calls Tryd.prog 37 #[.string s] w fun e w' => e = .returned (.bool (linOkB s)) ∧ Below w.heap.size w w' := by
 have hcv := fun W => Lib.run_convert_string_bytes (P := Tryd.prog) W 9 22 5 s Tryd.underlying9 Tryd.underlying22 Tryd.underlying5
 have hcell : ∀ j : Nat, j < s.size → (Lib.bytesWorld w 5 s).cell? ⟨w.heap.size, j, none⟩ = some (.int .u8 (bt s (j : Int))) := fun j hj => by
  rw [Lib.bytesWorld_cell w 5 s j hj, bt_data s j hj]
 have hsz := Lib.bytesWorld_size w 5 s
 have HZ := Aside0.mk hsz
 clear hsz
 have HC := Aside0.mk hcell
 clear hcell
 go_enter Tryd.func37, Tryd.ntmps37
 go_wp2
 go_loopw [8] (fun v wr => ∃ i : Nat, i ≤ s.size ∧ v = .int .i64 (i : Int) ∧ Aside0 (∀ j, j < i → lineB (bt s (j : Int)) = true) ∧ Aside0 (∃ n, wr = (Lib.bytesWorld w 5 s).drewN n)) (fun v _ => s.size - (intOf v).toNat)
 case atStart => exact ⟨0, Nat.zero_le _, rfl, ⟨fun j hj => by omega⟩, ⟨⟨0, rfl⟩⟩⟩
 case round =>
  obtain ⟨i, hi, rfl, HJ, HW⟩ := hrel
  obtain ⟨nd0, rfl⟩ := HW.out
  clear HW
  by_cases hlt : i < s.size
  ·have hx : ((Lib.bytesWorld w 5 s).drewN nd0).cell? ⟨w.heap.size, i, none⟩ = some (.int .u8 (bt s (i : Int))) := HC.out i hlt
   by_cases hb : lineB (bt s (i : Int)) = true
   ·have HB := Aside0.mk hb
    clear hb
    have A6 : Aside0 (impl_lineByte.f (bt s (i : Int)) = some true) := ⟨by rw [lb_eq, HB.out]⟩
    go_wp2_with (go_at_call 31; refine (impl_lineByte.calls (bt s (i : Int)) true _ A6.out).mono ?_; rintro e w' ⟨rfl, ⟨nd, rfl⟩⟩)
    go_roundw
    case rel => exact ⟨i + 1, by omega, by go_num, ⟨fun j hj => by by_cases e : j = i; (subst e; exact HB.out); exact HJ.out j (by omega)⟩, ⟨⟨_, rfl⟩⟩⟩
    case measure => simp [intOf]; omega
   ·have HB := Aside0.mk hb
    clear hb
    have A6 : Aside0 (impl_lineByte.f (bt s (i : Int)) = some false) := ⟨by rw [lb_eq, Bool.eq_false_iff.mpr HB.out]⟩
    go_wp2_with (go_at_call 31; refine (impl_lineByte.calls (bt s (i : Int)) false _ A6.out).mono ?_; rintro e w' ⟨rfl, ⟨nd, rfl⟩⟩)
    go_ret
    refine ⟨?_, pw_below_drewN (lin_below w 5 s) _⟩
    have : linOkB s = false := by unfold linOkB; exact decide_eq_false (fun hx => HB.out (hx.2 i hlt))
    exact congrArg (fun b => Ending.returned (Value.bool b)) this.symm
  ·go_wp2
   go_ret
   refine ⟨?_, pw_below_drewN (lin_below w 5 s) _⟩
   have : linOkB s = decide ((s.size : Int) ≤ 16) := by
    unfold linOkB
    exact decide_eq_decide.2 ⟨fun h => by omega, fun h => ⟨by omega, fun j hj => HJ.out j (by omega)⟩⟩
   exact congrArg (fun b => Ending.returned (Value.bool b)) this.symm
theorem lin_a_only (s : ByteArray) (h0 : s.size = 1) (h1 : bt s 0 = 97) : linOkB s = true := by
 unfold linOkB
 refine decide_eq_true ⟨by omega, fun j hj => ?_⟩
 obtain rfl : j = 0 := by omega
 rw [show ((0 : Nat) : Int) = 0 from rfl, h1]
 decide
theorem impl_LinOk.calls (a0 : ByteArray) (r : Bool) (w : World) (h : impl_LinOk.f a0 = some r) :
  Calls Tryd.prog 37 #[.string a0] w fun e w' => e = .returned (.bool r) ∧ Below w.heap.size w w' := by
 have hx : a0.size = 1 ∧ bt a0 0 = 97 ∧ r = true := by
  have hb := bt_range a0 0
  have hw : wrap64 (bt a0 0) = bt a0 0 := Lib.wrap_id (by omega) (by omega)
  have hw2 : wrap64 (wrap64 (bt a0 0) - 97) = bt a0 0 - 97 := by rw [hw, Lib.wrap_id (by omega) (by omega)]
  unfold impl_LinOk.f at h
  rw [if_pos (by omega)] at h
  by_cases cs : ((a0.size : Int) : Int).toNat ≤ 281474976710656
  ·rw [if_pos cs] at h
   have hw3 : wrap64 ((a0.size : Int) - 1) = (a0.size : Int) - 1 := Lib.wrap_id (by omega) (by omega)
   rw [if_pos (by omega)] at h
   simp only [Option.bind_some, List.length_replicate] at h
   rw [hw3, hw2] at h
   by_cases c1 : 0 ≤ (a0.size : Int) - 1
   ·rw [if_pos c1] at h
    by_cases c2 : (a0.size : Int) - 1 < ((1 : Nat) : Int)
    ·rw [if_pos c2, if_pos (by omega)] at h
     by_cases c3 : 0 ≤ bt a0 0 - 97
     ·rw [if_pos c3] at h
      by_cases c4 : bt a0 0 - 97 < ((1 : Nat) : Int)
      ·rw [if_pos c4] at h
       exact ⟨by omega, by omega, (Option.some.inj h).symm⟩
      ·rw [if_neg c4] at h; cases h
     ·rw [if_neg c3] at h; cases h
    ·rw [if_neg c2] at h; cases h
   ·rw [if_neg c1] at h; cases h
  ·rw [if_neg cs] at h; cases h
 obtain ⟨h0, h1, rfl⟩ := hx
 have := lin_walk a0 w (by omega)
 rwa [lin_a_only a0 h0 h1] at this

/-! ### laws_haOk: function 20 -/
def laws_haOk.f  : Option (Bool) := (impl_LinOk.f (⟨#[97]⟩ : ByteArray)).bind fun t202 => (some t202)
set_option maxHeartbeats 8000000 in
set_option maxRecDepth 100000 in
theorem laws_haOk.calls  (r : Bool) (w : World) (h : laws_haOk.f  = some r) :
  Calls Tryd.prog 20 #[] w fun e w' => e = .returned (.bool r) ∧ Below w.heap.size w w' := by
 have HB := Aside0.mk (Below.refl w.heap.size w)
 have H : ((impl_LinOk.f (⟨#[97]⟩ : ByteArray)).bind fun t202 => (some t202)) = some r := h
 clear h
 replace H := Option.bind_eq_some_iff.mp H
 obtain ⟨t202, A10, H⟩ := H
 replace H : (some t202) = some r := H
 have A1 := Aside0.mk A10
 clear A10
 obtain rfl := Option.some.inj H
 go_enter Tryd.func20, Tryd.ntmps20
 go_wp2_with (first | ((with_reducible refine gate_callee (f := 37) rfl ?_); refine goesL_ (some 1) rfl rfl Tryd.func37 (by kernel_rfl) rfl #[.string (⟨#[97]⟩ : ByteArray)] rfl Z37 ?_; (with_reducible refine (impl_LinOk.calls (⟨#[97]⟩ : ByteArray) t202 _ A1.out).mono ?_); rintro e w2 ⟨rfl, hb⟩; refine ⟨_, rfl, ?_⟩; have n0_ := Aside0.mk (below_step Z35 hb); clear HB; have HB := n0_; clear n0_; (try clear hb)))
 go_ret
 exact ⟨by first | rfl | (simp [errW_none, errW_some] <;> rfl) | (simp [*, errW_none, errW_some] <;> rfl), by repeat (first | (with_reducible first | exact HB.out | apply below_alloc | apply pw_below_drewN | apply below_drew1) | exact HB.out)⟩

/-! ### spec_l5Put: function 30 -/
def spec_l5Put.f (l0 : List Int) (a1 : Int) : Option (List Int) := (some (([] : List Int) : List Int)).bind fun y203 => (if y203.length + l0.length < 140737488355328 then ((some (y203 ++ l0 : List Int)).bind fun y206 => ((some (([(wrap64 (Int.tdiv a1 256)) % 256, (Int.tmod a1 256) % 256] : List Int) : List Int)).bind fun y209 => (if y206.length + y209.length < 140737488355328 then (some (y206 ++ y209)) else (none)))) else (none))
set_option maxHeartbeats 8000000 in
set_option maxRecDepth 100000 in
theorem spec_l5Put.calls (A0 : Option Addr) (c0 : Nat) (l0 : List Int) (a1 : Int) (r : List Int) (w : World) (hr0 : Kd.C (Kd.int .u8) w A0 l0.length l0) (hc0 : l0.length ≤ c0) (h : spec_l5Put.f l0 a1 = some r) :
  Calls Tryd.prog 30 #[.slice A0 l0.length c0, .int .i64 a1] w fun e w' => ∃ v0_ : Value, e = .returned (v0_) ∧ Kd.R (Kd.int .u8) 5 w' w.heap.size (fun _ => True) v0_ r ∧ Below w.heap.size w w' := by
 have HR0 := Aside0.mk hr0
 have HC0 := Aside0.mk hc0
 clear hr0 hc0
 have HB := Aside0.mk (Below.refl w.heap.size w)
 have H : ((some (([] : List Int) : List Int)).bind fun y203 => (if y203.length + l0.length < 140737488355328 then ((some (y203 ++ l0 : List Int)).bind fun y206 => ((some (([(wrap64 (Int.tdiv a1 256)) % 256, (Int.tmod a1 256) % 256] : List Int) : List Int)).bind fun y209 => (if y206.length + y209.length < 140737488355328 then (some (y206 ++ y209)) else (none)))) else (none))) = some r := h
 clear h
 obtain ⟨y203, hy203⟩ : ∃ y_ : List Int, y_ = (([] : List Int)) := ⟨_, rfl⟩
 replace H : (if y203.length + l0.length < 140737488355328 then ((some (y203 ++ l0 : List Int)).bind fun y206 => ((some (([(wrap64 (Int.tdiv a1 256)) % 256, (Int.tmod a1 256) % 256] : List Int) : List Int)).bind fun y209 => (if y206.length + y209.length < 140737488355328 then (some (y206 ++ y209)) else (none)))) else (none)) = some r := by first | (rw [hy203]; with_reducible exact H) | (have H2_ := (Option.bind_some _ _).symm.trans H; rw [hy203]; with_reducible exact H2_) | (have H2_ := (Option.bind_some _ _).symm.trans H; with_reducible exact H2_) | with_reducible exact H | (rw [hy203]; exact H) | exact H
 have Ny203 := Aside0.mk hy203
 clear hy203
 by_cases c3 : y203.length + l0.length < 140737488355328
 ·rw [if_pos c3] at H
  have LMc3 := Aside0.mk c3
  clear c3
  obtain ⟨y206, hy206⟩ : ∃ y_ : List Int, y_ = (y203 ++ l0) := ⟨_, rfl⟩
  replace H : ((some (([(wrap64 (Int.tdiv a1 256)) % 256, (Int.tmod a1 256) % 256] : List Int) : List Int)).bind fun y209 => (if y206.length + y209.length < 140737488355328 then (some (y206 ++ y209)) else (none))) = some r := by first | (rw [hy206]; with_reducible exact H) | (have H2_ := (Option.bind_some _ _).symm.trans H; rw [hy206]; with_reducible exact H2_) | (have H2_ := (Option.bind_some _ _).symm.trans H; with_reducible exact H2_) | with_reducible exact H | (rw [hy206]; exact H) | exact H
  have Ny206 := Aside0.mk hy206
  clear hy206
  obtain ⟨y209, hy209⟩ : ∃ y_ : List Int, y_ = (([(wrap64 (Int.tdiv a1 256)) % 256, (Int.tmod a1 256) % 256] : List Int)) := ⟨_, rfl⟩
  replace H : (if y206.length + y209.length < 140737488355328 then (some (y206 ++ y209)) else (none)) = some r := by first | (rw [hy209]; with_reducible exact H) | (have H2_ := (Option.bind_some _ _).symm.trans H; rw [hy209]; with_reducible exact H2_) | (have H2_ := (Option.bind_some _ _).symm.trans H; with_reducible exact H2_) | with_reducible exact H | (rw [hy209]; exact H) | exact H
  have Ny209 := Aside0.mk hy209
  clear hy209
  by_cases c4 : y206.length + y209.length < 140737488355328
  ·rw [if_pos c4] at H
   have LMc4 := Aside0.mk c4
   clear c4
   obtain ⟨y212, hy212⟩ : ∃ y_ : List Int, y_ = (y206 ++ y209) := ⟨_, rfl⟩
   replace H : (some y212) = some r := by first | (rw [hy212]; with_reducible exact H) | (have H2_ := (Option.bind_some _ _).symm.trans H; rw [hy212]; with_reducible exact H2_) | (have H2_ := (Option.bind_some _ _).symm.trans H; with_reducible exact H2_) | with_reducible exact H | (rw [hy212]; exact H) | exact H
   have Ny212 := Aside0.mk hy212
   clear hy212
   obtain rfl := Option.some.inj H
   go_enter Tryd.func30, Tryd.ntmps30
   go_wp2_with (first | ((with_reducible refine gate_dst (N := 5) rfl ?_); refine Kd.R_lit (Kd.int .u8) _ 5 ?hg (N := 5) ?hd (xs := ([] : List Int)) (inner := []) (ok := fun _ => True) (okp := fun _ => True) ?hr ?hp (fun _ hk => hk) trivial (Below.refl _ _) (Nat.le_refl _) (by simp) ?_; (case hd => rfl); (case hg => rfl); (case hr => first | (go_simp; done) | (go_simp; rfl)); (case hp => exact (Reps.none _ _)); intro v204 w5 ho6 hb hg_ hnew_; clear hg_ hnew_; (first | rw [← Ny203.out] at ho6 | (simp only [Int.reduceToNat] at ho6; rw [← Ny203.out] at ho6)); have n0_ := Aside0.mk (Kd.R_lower ho6 (below_size Z35)); have n1_ := Aside0.mk (below_step Z35 hb); clear HB; have HO205 := n0_; have HB := n1_; clear n0_ n1_; clear hb ho6) | ((with_reducible refine gate_builtin (b := .append) (xs := #[.tmp 5, .tmp 6]) rfl ?_); at_builtin; refine Kd.R_append_rows (Kd.int .u8) (w0 := w) w.heap.size rfl (.tmp 5) (.tmp 6) 22 5 (.int .u8 0) 1 rfl Tryd.underlying22 info5 rfl (by decide) (by omega) v204 y203 l0 _ _ _ (fun _ => True) (fun _ => False) rfl rfl ?aO ?aR (fun _ _ h => h) (fun _ h => h.elim) ?aF ?aB ?aS ?aL ?_; (case aR => exact Z53); (case aB => exact Z35); (case aF => exact (fun _ _ => trivial)); (case aO => exact (by (with_reducible repeat (first | apply Kd.R_alloc | apply Kd.R_drewN | apply Kd.R_drew)); exact HO205.out)); (case aS => exact (below_size Z35)); (case aL => have := LMc3.out; omega); intro v207 w7 ho hb hg hat; rw [← Ny206.out] at ho; have n0_ := Aside0.mk (hb); have n1_ := Aside0.mk (ho); clear HB; clear HO205; have HB := n0_; have HO208 := n1_; clear n0_ n1_; clear ho hb hg hat) | ((with_reducible refine gate_dst (N := 14) rfl ?_); refine Kd.R_lit (Kd.int .u8) _ 5 ?hg (N := 14) ?hd (xs := ([(wrap64 (Int.tdiv a1 256)) % 256, (Int.tmod a1 256) % 256] : List Int)) (inner := [.int .u8 ((wrap64 (Int.tdiv a1 256)) % 256), .int .u8 ((Int.tmod a1 256) % 256)]) (ok := fun _ => True) (okp := fun _ => True) ?hr ?hp (fun _ hk => hk) trivial (Below.refl _ _) (Nat.le_refl _) (by simp) ?_; (case hd => rfl); (case hg => rfl); (case hr => first | (go_simp; done) | (go_simp; rfl)); (case hp => exact (Reps.one (show Kd.M (Kd.int .u8) _ _ _ ((wrap64 (Int.tdiv a1 256)) % 256) [.int .u8 ((wrap64 (Int.tdiv a1 256)) % 256)] from rfl) (Reps.one (show Kd.M (Kd.int .u8) _ _ _ ((Int.tmod a1 256) % 256) [.int .u8 ((Int.tmod a1 256) % 256)] from rfl) (Reps.none _ _)))); intro v210 w8 ho9 hb hg_ hnew_; clear hg_ hnew_; (first | rw [← Ny209.out] at ho9 | (simp only [Int.reduceToNat] at ho9; rw [← Ny209.out] at ho9)); have n0_ := Aside0.mk (Kd.R_elder' Z10 (Kd.R_base ho9) hb); have n1_ := Aside0.mk (Kd.R_lower (Kd.R_new' ho9 (Kd.R_lt Z10)) (below_size Z35)); have n2_ := Aside0.mk (below_step Z35 hb); clear HO208; clear HB; have HO208 := n0_; have HO211 := n1_; have HB := n2_; clear n0_ n1_ n2_; clear hb ho9; obtain ⟨Ao11, co11, eo11⟩ := Kd.R_slice HO211.out; subst eo11) | ((with_reducible refine gate_builtin (b := .append) (xs := #[.tmp 7, .tmp 14]) rfl ?_); at_builtin; refine Kd.R_append_rows (Kd.int .u8) (w0 := w) w.heap.size rfl (.tmp 7) (.tmp 14) 22 5 (.int .u8 0) 1 rfl Tryd.underlying22 info5 rfl (by decide) (by omega) v207 y206 y209 _ _ _ (fun k_ => some k_ ≠ (.slice Ao11 y209.length co11 : Value).ownBlock) (fun _ => False) rfl rfl ?aO ?aR (fun _ _ h => h) (fun _ h => h.elim) ?aF ?aB ?aS ?aL ?_; (case aR => repeat (first | exact (Kd.R_reads' HO211.out).2.2 | (with_reducible refine Kd.C_alloc ?_ _) | (with_reducible refine Kd.C_drewN ?_ _) | (with_reducible refine Kd.C_drew ?_))); (case aB => exact Z35); (case aF => exact (fun k_ hk => Kd.fresh' (Kd.R_lt Z11) k_ hk)); (case aO => exact (by (with_reducible repeat (first | apply Kd.R_alloc | apply Kd.R_drewN | apply Kd.R_drew)); exact Kd.R_mono HO208.out (fun _ hk => hk.2))); (case aS => exact (below_size Z35)); (case aL => have := LMc4.out; omega); intro v213 w10 ho hb hg hat; rw [← Ny212.out] at ho; have n0_ := Aside0.mk (Kd.R_after (ok := (fun _ => True)) Z11 hg hat); have n1_ := Aside0.mk (hb); have n2_ := Aside0.mk (ho); clear HO211; clear HB; clear HO208; have HO211 := n0_; have HB := n1_; have HO214 := n2_; clear n0_ n1_ n2_; clear ho hb hg hat))
   go_ret
   exact ⟨_, by first | rfl | (simp [errW_none, errW_some] <;> rfl) | (simp [*, errW_none, errW_some] <;> rfl), by (with_reducible repeat (first | apply Kd.R_alloc | apply Kd.R_drewN | apply Kd.R_drew)); exact Kd.R_mono HO214.out (fun _ hk => trivial), by repeat (first | (with_reducible first | exact HB.out | apply below_alloc | apply pw_below_drewN | apply below_drew1) | exact HB.out)⟩
  ·rw [if_neg c4] at H
   exact absurd H (by simp)
 ·rw [if_neg c3] at H
  exact absurd H (by simp)

/-! ### spec_l5Body: function 29 -/
def spec_l5Body.l0 : Nat → List Int → List Int → Int → Int → Int → Int → Int → Int → Int → ByteArray → Option (List Int)
 | 0, _, _, _, _, _, _, _, _, _, _ => none
 | k + 1, x3, x4, x5, x216000, x216001, x216002, x216003, x216004, x216005, x216006 => if x5 < (x4.length : Int) then (if 0 ≤ x5 then ((spec_l5Put.f x3 (rd x4 x5)).bind fun t223 => (spec_l5Body.l0 k t223 x4 (wrap64 (x5 + 1)) x216000 x216001 x216002 x216003 x216004 x216005 x216006)) else (none)) else (if x3.length < 140737488355328 then ((some (x3 ++ [((x216006.size : Int)) % 256] : List Int)).bind fun y226 => (if y226.length + x216006.size < 140737488355328 then (some (y226 ++ bytesOf x216006)) else (none))) else (none))
def spec_l5Body.f (k : Nat) (a0_0 : Int) (a0_1 : Int) (a0_2 : Int) (a0_3 : Int) (a0_4 : Int) (a0_5 : Int) (a0_6 : ByteArray) : Option (List Int) := spec_l5Body.l0 k (([] : List Int)) (([a0_0, a0_1, a0_2, a0_3, a0_4, a0_5] : List Int)) 0 a0_0 a0_1 a0_2 a0_3 a0_4 a0_5 a0_6
theorem spec_l5Body.mono_l : ∀ k, (∀ y0 y1 y2 y3 y4 y5 y6 y7 y8 y9, LeO (spec_l5Body.l0 k y0 y1 y2 y3 y4 y5 y6 y7 y8 y9) (spec_l5Body.l0 (k + 1) y0 y1 y2 y3 y4 y5 y6 y7 y8 y9))
 | 0 => fun _ _ _ _ _ _ _ _ _ _ r h => by simp [spec_l5Body.l0] at h
 | k + 1 => by
  have ih0 := spec_l5Body.mono_l k
  ·intro y0 y1 y2 y3 y4 y5 y6 y7 y8 y9
   unfold spec_l5Body.l0
   repeat' first
   | (with_reducible exact ih0 _ _ _ _ _ _ _ _ _ _)
   | (with_reducible exact LeO.refl _)
   | (with_reducible exact LeO.none _)
   | (with_reducible refine LeO.ite ?_ ?_)
   | (with_reducible refine LeO.bind ?_ (fun _ => ?_))
   | exact ih0 _ _ _ _ _ _ _ _ _ _
   | exact LeO.none _
   | refine LeO.ite ?_ ?_
   | refine LeO.bind ?_ (fun _ => ?_)
theorem spec_l5Body.mono : ∀ a0 a1 a2 a3 a4 a5 a6 k, LeO (spec_l5Body.f k a0 a1 a2 a3 a4 a5 a6) (spec_l5Body.f (k + 1) a0 a1 a2 a3 a4 a5 a6) := by
 intro a0 a1 a2 a3 a4 a5 a6 k
 have ih0 := spec_l5Body.mono_l k
 unfold spec_l5Body.f
 repeat' first
   | (with_reducible exact ih0 _ _ _ _ _ _ _ _ _ _)
   | (with_reducible exact LeO.refl _)
   | (with_reducible exact LeO.none _)
   | (with_reducible refine LeO.ite ?_ ?_)
   | (with_reducible refine LeO.bind ?_ (fun _ => ?_))
   | exact ih0 _ _ _ _ _ _ _ _ _ _
   | exact LeO.none _
   | refine LeO.ite ?_ ?_
   | refine LeO.bind ?_ (fun _ => ?_)
set_option maxHeartbeats 8000000 in
set_option maxRecDepth 100000 in
theorem spec_l5Body.calls (k : Nat) (a0_0 : Int) (a0_1 : Int) (a0_2 : Int) (a0_3 : Int) (a0_4 : Int) (a0_5 : Int) (a0_6 : ByteArray) (r : List Int) (w : World) (h : spec_l5Body.f k a0_0 a0_1 a0_2 a0_3 a0_4 a0_5 a0_6 = some r) :
  Calls Tryd.prog 29 #[.agg #[.int .i64 a0_0, .int .i64 a0_1, .int .i64 a0_2, .int .i64 a0_3, .int .i64 a0_4, .int .i64 a0_5, .string a0_6]] w fun e w' => ∃ v0_ : Value, e = .returned (v0_) ∧ Kd.R (Kd.int .u8) 5 w' w.heap.size (fun _ => True) v0_ r ∧ Below w.heap.size w w' := by
 have hu26 := Tryd.underlying26
 have HB := Aside0.mk (Below.refl w.heap.size w)
 have H : (spec_l5Body.l0 k (([] : List Int)) (([a0_0, a0_1, a0_2, a0_3, a0_4, a0_5] : List Int)) 0 a0_0 a0_1 a0_2 a0_3 a0_4 a0_5 a0_6) = some r := h
 clear h
 obtain ⟨y216, hy216⟩ : ∃ y_ : List Int, y_ = (([] : List Int)) := ⟨_, rfl⟩
 replace H : (spec_l5Body.l0 k y216 (([a0_0, a0_1, a0_2, a0_3, a0_4, a0_5] : List Int)) 0 a0_0 a0_1 a0_2 a0_3 a0_4 a0_5 a0_6) = some r := by first | (rw [hy216]; with_reducible exact H) | (have H2_ := (Option.bind_some _ _).symm.trans H; rw [hy216]; with_reducible exact H2_) | (have H2_ := (Option.bind_some _ _).symm.trans H; with_reducible exact H2_) | with_reducible exact H | (rw [hy216]; exact H) | exact H
 have Ny216 := Aside0.mk hy216
 clear hy216
 obtain ⟨y219, hy219⟩ : ∃ y_ : List Int, y_ = (([a0_0, a0_1, a0_2, a0_3, a0_4, a0_5] : List Int)) := ⟨_, rfl⟩
 replace H : (spec_l5Body.l0 k y216 y219 0 a0_0 a0_1 a0_2 a0_3 a0_4 a0_5 a0_6) = some r := by first | (rw [hy219]; with_reducible exact H) | (have H2_ := (Option.bind_some _ _).symm.trans H; rw [hy219]; with_reducible exact H2_) | (have H2_ := (Option.bind_some _ _).symm.trans H; with_reducible exact H2_) | with_reducible exact H | (rw [hy219]; exact H) | exact H
 have Ny219 := Aside0.mk hy219
 clear hy219
 have H' := Aside0.mk H
 clear H
 go_enter Tryd.func29, Tryd.ntmps29
 go_wp2_with (first | ((with_reducible refine gate_dst (N := 1) rfl ?_); refine box_event ?hg (N := 1) ?hd (cs := #[.int .i64 a0_0, .int .i64 a0_1, .int .i64 a0_2, .int .i64 a0_3, .int .i64 a0_4, .int .i64 a0_5, .string a0_6]) (t := 26) ?hr ?_; (case hd => rfl); (case hg => rfl); (case hr => first | (go_simp; done) | (go_simp; rfl)); intro gb215 hg w2 hbox hb; have n0_ := Aside0.mk (below_step Z35 hb); have n1_ := Aside0.mk (hbox); have n2_ := Aside0.mk ((Z93 : w.heap.size ≤ gb215)); have n3_ := Aside0.mk ((Z93 : w.heap.size ≤ gb215)); clear HB; have HB := n0_; have BK215 := n1_; have GW215 := n2_; have GE215 := n3_; clear n0_ n1_ n2_ n3_; clear hb hbox hg) | ((with_reducible refine gate_dst (N := 6) rfl ?_); refine Kd.R_lit (Kd.int .u8) _ 5 ?hg (N := 6) ?hd (xs := ([] : List Int)) (inner := []) (ok := fun _ => True) (okp := fun _ => True) ?hr ?hp (fun _ hk => hk) trivial (Below.refl _ _) (Nat.le_refl _) (by simp) ?_; (case hd => rfl); (case hg => rfl); (case hr => first | (go_simp; done) | (go_simp; rfl)); (case hp => exact (Reps.none _ _)); intro v217 w3 ho4 hb hg_ hnew_; clear hg_ hnew_; (first | rw [← Ny216.out] at ho4 | (simp only [Int.reduceToNat] at ho4; rw [← Ny216.out] at ho4)); have n0_ := Aside0.mk (Kd.R_lower ho4 (below_size Z47)); have n1_ := Aside0.mk (blk_below (g := gb215) (o := .cells #[.int .i64 a0_0, .int .i64 a0_1, .int .i64 a0_2, .int .i64 a0_3, .int .i64 a0_4, .int .i64 a0_5, .string a0_6] 26 (0, 0)) Z23 hb); have n2_ := Aside0.mk (below_step Z47 hb); clear BK215; clear HB; have HO218 := n0_; have BK215 := n1_; have HB := n2_; clear n0_ n1_ n2_; clear hb ho4; have hcz5_0 : w3.cell? ⟨gb215, 0, none⟩ = some (.int .i64 a0_0) := (blk_cell BK215.out 0).trans rfl; have hcz5_1 : w3.cell? ⟨gb215, 1, none⟩ = some (.int .i64 a0_1) := (blk_cell BK215.out 1).trans rfl; have hcz5_2 : w3.cell? ⟨gb215, 2, none⟩ = some (.int .i64 a0_2) := (blk_cell BK215.out 2).trans rfl; have hcz5_3 : w3.cell? ⟨gb215, 3, none⟩ = some (.int .i64 a0_3) := (blk_cell BK215.out 3).trans rfl; have hcz5_4 : w3.cell? ⟨gb215, 4, none⟩ = some (.int .i64 a0_4) := (blk_cell BK215.out 4).trans rfl; have hcz5_5 : w3.cell? ⟨gb215, 5, none⟩ = some (.int .i64 a0_5) := (blk_cell BK215.out 5).trans rfl; have hcz5_6 : w3.cell? ⟨gb215, 6, none⟩ = some (.string a0_6) := (blk_cell BK215.out 6).trans rfl; have hfz5_0 := blk_frozen BK215.out 0; have hfz5_1 := blk_frozen BK215.out 1; have hfz5_2 := blk_frozen BK215.out 2; have hfz5_3 := blk_frozen BK215.out 3; have hfz5_4 := blk_frozen BK215.out 4; have hfz5_5 := blk_frozen BK215.out 5; have hfz5_6 := blk_frozen BK215.out 6) | ((with_reducible refine gate_dst (N := 23) rfl ?_); refine Kd.R_lit (Kd.int .i64) _ 3 ?hg (N := 23) ?hd (xs := ([a0_0, a0_1, a0_2, a0_3, a0_4, a0_5] : List Int)) (inner := [.int .i64 a0_0, .int .i64 a0_1, .int .i64 a0_2, .int .i64 a0_3, .int .i64 a0_4, .int .i64 a0_5]) (ok := fun _ => True) (okp := fun _ => True) ?hr ?hp (fun _ hk => hk) trivial (Below.refl _ _) (Nat.le_refl _) (by simp) ?_; (case hd => rfl); (case hg => rfl); (case hr => first | (go_simp; done) | (go_simp; rfl)); (case hp => exact (Reps.one (show Kd.M (Kd.int .i64) _ _ _ a0_0 [.int .i64 a0_0] from rfl) (Reps.one (show Kd.M (Kd.int .i64) _ _ _ a0_1 [.int .i64 a0_1] from rfl) (Reps.one (show Kd.M (Kd.int .i64) _ _ _ a0_2 [.int .i64 a0_2] from rfl) (Reps.one (show Kd.M (Kd.int .i64) _ _ _ a0_3 [.int .i64 a0_3] from rfl) (Reps.one (show Kd.M (Kd.int .i64) _ _ _ a0_4 [.int .i64 a0_4] from rfl) (Reps.one (show Kd.M (Kd.int .i64) _ _ _ a0_5 [.int .i64 a0_5] from rfl) (Reps.none _ _)))))))); intro v220 w6 ho7 hb hg_ hnew_; clear hg_ hnew_; (first | rw [← Ny219.out] at ho7 | (simp only [Int.reduceToNat] at ho7; rw [← Ny219.out] at ho7)); have n0_ := Aside0.mk (Kd.R_below (by (with_reducible repeat (first | apply Kd.R_alloc | apply Kd.R_drewN | apply Kd.R_drew)); exact HO218.out) hb); have n1_ := Aside0.mk (Kd.R_lower ho7 (below_size Z47)); have n2_ := Aside0.mk (blk_below (g := gb215) (o := .cells #[.int .i64 a0_0, .int .i64 a0_1, .int .i64 a0_2, .int .i64 a0_3, .int .i64 a0_4, .int .i64 a0_5, .string a0_6] 26 (0, 0)) Z23 hb); have n3_ := Aside0.mk (below_step Z47 hb); clear HO218; clear BK215; clear HB; have HO218 := n0_; have HO221 := n1_; have BK215 := n2_; have HB := n3_; clear n0_ n1_ n2_ n3_; clear hb ho7))
 go_loopg [3, 5] k (fun kq v3 v5 w' => ∃ (x3_1 : List Int) (x5_1 : Int), v5 = .int .i64 x5_1 ∧ Aside0 (spec_l5Body.l0 kq x3_1 y219 x5_1 a0_0 a0_1 a0_2 a0_3 a0_4 a0_5 a0_6 = some r) ∧ Aside0 (kq ≤ k) ∧ Aside0 (Kd.R (Kd.int .u8) 5 w' w.heap.size (fun _ => True) v3 x3_1) ∧ Aside0 (Kd.R (Kd.int .i64) 3 w' w.heap.size (fun _ => True) v220 y219) ∧ Aside0 (w'.heap[gb215]? = some (.cells #[.int .i64 a0_0, .int .i64 a0_1, .int .i64 a0_2, .int .i64 a0_3, .int .i64 a0_4, .int .i64 a0_5, .string a0_6] 26 (0, 0))) ∧ Aside0 (Below w.heap.size w w'))
 case atStart => exact ⟨(y216), (0), Z1, H', ⟨Nat.le_refl _⟩, ⟨by (with_reducible repeat (first | apply Kd.R_alloc | apply Kd.R_drewN | apply Kd.R_drew)); exact HO218.out⟩, ⟨by (with_reducible repeat (first | apply Kd.R_alloc | apply Kd.R_drewN | apply Kd.R_drew)); exact HO221.out⟩, ⟨by (with_reducible repeat (first | refine blk_drewN ?_ _ | refine blk_drew ?_ | refine blk_alloc ?_ _)); exact BK215.out⟩, ⟨by repeat (first | (with_reducible first | exact HB.out | apply below_alloc | apply pw_below_drewN | apply below_drew1 | refine below_set ?_ GE215.out) | exact HB.out)⟩⟩
 case round =>
  clear H'
  try clear c2
  try clear p2
  try clear hcz5_0
  try clear hcz5_1
  try clear hcz5_2
  try clear hcz5_3
  try clear hcz5_4
  try clear hcz5_5
  try clear hcz5_6
  try clear hfz5_0
  try clear hfz5_1
  try clear hfz5_2
  try clear hfz5_3
  try clear hfz5_4
  try clear hfz5_5
  try clear hfz5_6
  obtain ⟨x3_1, x5_1, rfl, HA, HK1, HO_3, HO_4, BK215, HB⟩ := hrel
  cases gk with
  | zero => exact absurd HA.out (by simp [spec_l5Body.l0])
  | succ k1 =>
   have H := HA.out
   clear HA
   simp only [spec_l5Body.l0] at H
   by_cases c8 : x5_1 < (y219.length : Int)
   ·rw [if_pos c8] at H
    have c8b0 : decide (x5_1 < (y219.length : Int)) = true := decide_eq_true c8
    clear c8
    by_cases c9 : 0 ≤ x5_1
    ·rw [if_pos c9] at H
     have c9b0 : decide (0 ≤ x5_1) = true := decide_eq_true c9
     clear c9
     replace H := Option.bind_eq_some_iff.mp H
     obtain ⟨t223, A100, H⟩ := H
     replace H : (spec_l5Body.l0 k1 t223 y219 (wrap64 (x5_1 + 1)) a0_0 a0_1 a0_2 a0_3 a0_4 a0_5 a0_6) = some r := H
     have A10 := Aside0.mk A100
     clear A100
     have H' := Aside0.mk H
     clear H
     obtain ⟨Ao11, co11, eo11⟩ := Kd.R_slice HO_4.out
     subst eo11
     have p222 : 0 ≤ (x5_1 : Int) := of_decide_eq_true Z2
     have q222 : x5_1 < (y219.length : Int) := of_decide_eq_true Z2
     obtain ⟨ad222, e222, hx222_0⟩ := Kd.at_int (Kd.R_reads' HO_4.out).2.2 x5_1 p222 q222
     cases e222
     replace p222 := eq_true p222
     replace q222 := eq_true q222
     obtain ⟨Ao12, co12, eo12⟩ := Kd.R_slice HO_3.out
     subst eo12
     go_wp2_with (first | ((with_reducible refine gate_callee (f := 30) rfl ?_); refine goesL_ (some 35) rfl rfl Tryd.func30 (by kernel_rfl) rfl #[.slice Ao12 x3_1.length co12, .int .i64 (rd y219 x5_1)] rfl Z37 ?_; (with_reducible refine (spec_l5Put.calls _ _ x3_1 (rd y219 x5_1) t223 _ ?side1 ?side2 A10.out).mono ?_); (case side1 => exact Z52); (case side2 => exact (Kd.R_reads' HO_3.out).2.1); rintro e w13 ⟨v224, rfl, ho0, hb⟩; refine ⟨_, rfl, ?_⟩; have n0_ := Aside0.mk (Kd.R_elder' Z3 (Kd.R_base ho0) hb); have n1_ := Aside0.mk (Kd.R_below Z4 hb); have n2_ := Aside0.mk (Kd.R_lower (Kd.R_new' ho0 (Kd.R_lt Z3)) (below_size Z47)); have n3_ := Aside0.mk (blk_below (g := gb215) (o := .cells #[.int .i64 a0_0, .int .i64 a0_1, .int .i64 a0_2, .int .i64 a0_3, .int .i64 a0_4, .int .i64 a0_5, .string a0_6] 26 (0, 0)) Z23 hb); have n4_ := Aside0.mk (below_step Z47 hb); clear HO_3; clear HO_4; clear BK215; clear HB; have HO_3 := n0_; have HO_4 := n1_; have HO225 := n2_; have BK215 := n3_; have HB := n4_; clear n0_ n1_ n2_ n3_ n4_; (try clear hb); (try clear ho0)))
     go_roundg k1
     case measure => have := HK1.out; omega
     case rel => exact ⟨(t223), (wrap64 (x5_1 + 1)), Z1, H', ⟨by have := HK1.out; omega⟩, ⟨by (with_reducible repeat (first | apply Kd.R_alloc | apply Kd.R_drewN | apply Kd.R_drew)); exact Kd.R_mono HO225.out (fun _ hk => trivial)⟩, ⟨by (with_reducible repeat (first | apply Kd.R_alloc | apply Kd.R_drewN | apply Kd.R_drew)); exact HO_4.out⟩, ⟨by (with_reducible repeat (first | refine blk_drewN ?_ _ | refine blk_drew ?_ | refine blk_alloc ?_ _)); exact BK215.out⟩, ⟨by repeat (first | (with_reducible first | exact HB.out | apply below_alloc | apply pw_below_drewN | apply below_drew1 | refine below_set ?_ GE215.out) | exact HB.out)⟩⟩
    ·rw [if_neg c9] at H
     exact absurd H (by simp)
   ·rw [if_neg c8] at H
    have c8b0 : decide (x5_1 < (y219.length : Int)) = false := decide_eq_false c8
    clear c8
    by_cases c14 : x3_1.length < 140737488355328
    ·rw [if_pos c14] at H
     have LMc14 := Aside0.mk c14
     clear c14
     obtain ⟨y226, hy226⟩ : ∃ y_ : List Int, y_ = (x3_1 ++ [((a0_6.size : Int)) % 256]) := ⟨_, rfl⟩
     replace H : (if y226.length + a0_6.size < 140737488355328 then (some (y226 ++ bytesOf a0_6)) else (none)) = some r := by first | (rw [hy226]; with_reducible exact H) | (have H2_ := (Option.bind_some _ _).symm.trans H; rw [hy226]; with_reducible exact H2_) | (have H2_ := (Option.bind_some _ _).symm.trans H; with_reducible exact H2_) | with_reducible exact H | (rw [hy226]; exact H) | exact H
     have Ny226 := Aside0.mk hy226
     clear hy226
     by_cases c15 : y226.length + a0_6.size < 140737488355328
     ·rw [if_pos c15] at H
      have LMc15 := Aside0.mk c15
      clear c15
      obtain ⟨y229, hy229⟩ : ∃ y_ : List Int, y_ = (y226 ++ bytesOf a0_6) := ⟨_, rfl⟩
      replace H : (some y229) = some r := by first | (rw [hy229]; with_reducible exact H) | (have H2_ := (Option.bind_some _ _).symm.trans H; rw [hy229]; with_reducible exact H2_) | (have H2_ := (Option.bind_some _ _).symm.trans H; with_reducible exact H2_) | with_reducible exact H | (rw [hy229]; exact H) | exact H
      have Ny229 := Aside0.mk hy229
      clear hy229
      obtain rfl := Option.some.inj H
      obtain ⟨Ao16, co16, eo16⟩ := Kd.R_slice HO_4.out
      subst eo16
      have hcz17_0 : wr.cell? ⟨gb215, 0, none⟩ = some (.int .i64 a0_0) := (blk_cell BK215.out 0).trans rfl
      have hcz17_1 : wr.cell? ⟨gb215, 1, none⟩ = some (.int .i64 a0_1) := (blk_cell BK215.out 1).trans rfl
      have hcz17_2 : wr.cell? ⟨gb215, 2, none⟩ = some (.int .i64 a0_2) := (blk_cell BK215.out 2).trans rfl
      have hcz17_3 : wr.cell? ⟨gb215, 3, none⟩ = some (.int .i64 a0_3) := (blk_cell BK215.out 3).trans rfl
      have hcz17_4 : wr.cell? ⟨gb215, 4, none⟩ = some (.int .i64 a0_4) := (blk_cell BK215.out 4).trans rfl
      have hcz17_5 : wr.cell? ⟨gb215, 5, none⟩ = some (.int .i64 a0_5) := (blk_cell BK215.out 5).trans rfl
      have hcz17_6 : wr.cell? ⟨gb215, 6, none⟩ = some (.string a0_6) := (blk_cell BK215.out 6).trans rfl
      have hfz17_0 := blk_frozen BK215.out 0
      have hfz17_1 := blk_frozen BK215.out 1
      have hfz17_2 := blk_frozen BK215.out 2
      have hfz17_3 := blk_frozen BK215.out 3
      have hfz17_4 := blk_frozen BK215.out 4
      have hfz17_5 := blk_frozen BK215.out 5
      have hfz17_6 := blk_frozen BK215.out 6
      go_wp2_with (first | ((with_reducible refine gate_builtin (b := .append) (xs := #[.tmp 36, .tmp 41]) rfl ?_); at_builtin; refine Kd.R_append (Kd.int .u8) (w0 := w) w.heap.size rfl (.tmp 36) (.tmp 41) 22 5 (.int .u8 0) 1 rfl Tryd.underlying22 info5 rfl (by decide) (by omega) u3 x3_1 (((a0_6.size : Int)) % 256) [.int .u8 (((a0_6.size : Int)) % 256)] (fun _ => True) (fun _ => False) rfl rfl ?aP (fun _ hk => hk.elim) ?aF ?aO ?aB ?aS ?aL ?_; (case aP => exact rfl); (case aB => exact Z47); (case aF => exact (fun _ _ => trivial)); (case aO => exact Z3); (case aS => exact (below_size Z47)); (case aL => have := LMc14.out; omega); intro v227 w18 ho hb hg hat; rw [← Ny226.out] at ho; have n0_ := Aside0.mk (Kd.R_over' Z4 (Kd.R_typed Z3) (by decide) hg); have n1_ := Aside0.mk (blk_grown (g := gb215) (o := .cells #[.int .i64 a0_0, .int .i64 a0_1, .int .i64 a0_2, .int .i64 a0_3, .int .i64 a0_4, .int .i64 a0_5, .string a0_6] 26 (0, 0)) Z23 hg (Kd.R_ne HO_3.out BK215.out (by decide))); have n2_ := Aside0.mk (hb); have n3_ := Aside0.mk (ho); clear HO_4; clear BK215; clear HB; clear HO_3; have HO_4 := n0_; have BK215 := n1_; have HB := n2_; have HO228 := n3_; clear n0_ n1_ n2_ n3_; clear ho hb hg hat; have hcz19_0 : w18.cell? ⟨gb215, 0, none⟩ = some (.int .i64 a0_0) := (blk_cell BK215.out 0).trans rfl; have hcz19_1 : w18.cell? ⟨gb215, 1, none⟩ = some (.int .i64 a0_1) := (blk_cell BK215.out 1).trans rfl; have hcz19_2 : w18.cell? ⟨gb215, 2, none⟩ = some (.int .i64 a0_2) := (blk_cell BK215.out 2).trans rfl; have hcz19_3 : w18.cell? ⟨gb215, 3, none⟩ = some (.int .i64 a0_3) := (blk_cell BK215.out 3).trans rfl; have hcz19_4 : w18.cell? ⟨gb215, 4, none⟩ = some (.int .i64 a0_4) := (blk_cell BK215.out 4).trans rfl; have hcz19_5 : w18.cell? ⟨gb215, 5, none⟩ = some (.int .i64 a0_5) := (blk_cell BK215.out 5).trans rfl; have hcz19_6 : w18.cell? ⟨gb215, 6, none⟩ = some (.string a0_6) := (blk_cell BK215.out 6).trans rfl; have hfz19_0 := blk_frozen BK215.out 0; have hfz19_1 := blk_frozen BK215.out 1; have hfz19_2 := blk_frozen BK215.out 2; have hfz19_3 := blk_frozen BK215.out 3; have hfz19_4 := blk_frozen BK215.out 4; have hfz19_5 := blk_frozen BK215.out 5; have hfz19_6 := blk_frozen BK215.out 6) | (at_builtin; refine print_append_str (w0 := w) w.heap.size rfl (.tmp 43) _ 22 9 5 rfl Tryd.underlying22 Tryd.underlying9 info5 v227 y226 a0_6 rfl rfl ?aO ?aB ?aS ?aL ?_; (case aB => exact Z47); (case aO => exact (Kd.own_of_R Z12)); (case aS => exact (below_size Z47)); (case aL => have := LMc15.out; omega); intro v230 w20 ho0 hb hg; have ho := Kd.R_of_own (h1 := fun _ => rfl) (ok := fun _ => True) ho0 (fun _ _ => trivial); clear ho0; have hat := True.intro; rw [← Ny229.out] at ho; change Kd.R (Kd.int .u8) 5 w20 w.heap.size (fun _ => True) v230 y229 at ho; have n0_ := Aside0.mk (Kd.R_over' Z4 (Kd.R_typed Z12) (by decide) hg); have n1_ := Aside0.mk (blk_grown (g := gb215) (o := .cells #[.int .i64 a0_0, .int .i64 a0_1, .int .i64 a0_2, .int .i64 a0_3, .int .i64 a0_4, .int .i64 a0_5, .string a0_6] 26 (0, 0)) Z23 hg (Kd.R_ne HO228.out BK215.out (by decide))); have n2_ := Aside0.mk (hb); have n3_ := Aside0.mk (ho); clear HO_4; clear BK215; clear HB; clear HO228; have HO_4 := n0_; have BK215 := n1_; have HB := n2_; have HO231 := n3_; clear n0_ n1_ n2_ n3_; clear ho hb hg hat))
      go_ret
      exact ⟨_, by first | rfl | (simp [errW_none, errW_some] <;> rfl) | (simp [*, errW_none, errW_some] <;> rfl), by (with_reducible repeat (first | apply Kd.R_alloc | apply Kd.R_drewN | apply Kd.R_drew)); exact HO231.out, by repeat (first | (with_reducible first | exact HB.out | apply below_alloc | apply pw_below_drewN | apply below_drew1 | refine below_set ?_ GE215.out) | exact HB.out)⟩
     ·rw [if_neg c15] at H
      exact absurd H (by simp)
    ·rw [if_neg c14] at H
     exact absurd H (by simp)

/-! ### spec_SegBytes: function 15 -/
def spec_SegBytes.f (k : Nat) (a0_0 : Int) (a0_1 : Int) (a0_2 : Int) (a0_3 : Int) (a0_4 : Int) (a0_5 : Int) (a0_6 : ByteArray) : Option (List Int) := (spec_SegOk.f k a0_0 a0_1 a0_2 a0_3 a0_4 a0_5 a0_6).bind fun t233 => (if t233 = true then ((spec_l5Body.f k a0_0 a0_1 a0_2 a0_3 a0_4 a0_5 a0_6).bind fun t234 => ((spec_SegSum.f k t234).bind fun t237 => ((spec_l5Put.f t234 t237).bind fun t238 => (some t238)))) else (some (([] : List Int))))
theorem spec_SegBytes.mono : ∀ a0 a1 a2 a3 a4 a5 a6 k, LeO (spec_SegBytes.f k a0 a1 a2 a3 a4 a5 a6) (spec_SegBytes.f (k + 1) a0 a1 a2 a3 a4 a5 a6) := by
 intro a0 a1 a2 a3 a4 a5 a6 k
 unfold spec_SegBytes.f
 repeat' first
   | (with_reducible exact spec_SegOk.mono _ _ _ _ _ _ _ _)
   | (with_reducible exact spec_SegSum.mono _ _)
   | (with_reducible exact spec_l5Body.mono _ _ _ _ _ _ _ _)
   | (with_reducible exact LeO.refl _)
   | (with_reducible exact LeO.none _)
   | (with_reducible refine LeO.ite ?_ ?_)
   | (with_reducible refine LeO.bind ?_ (fun _ => ?_))
   | exact spec_SegOk.mono _ _ _ _ _ _ _ _
   | exact spec_SegSum.mono _ _
   | exact spec_l5Body.mono _ _ _ _ _ _ _ _
   | exact LeO.none _
   | refine LeO.ite ?_ ?_
   | refine LeO.bind ?_ (fun _ => ?_)
set_option maxHeartbeats 8000000 in
set_option maxRecDepth 100000 in
theorem spec_SegBytes.calls (k : Nat) (a0_0 : Int) (a0_1 : Int) (a0_2 : Int) (a0_3 : Int) (a0_4 : Int) (a0_5 : Int) (a0_6 : ByteArray) (r : List Int) (w : World) (h : spec_SegBytes.f k a0_0 a0_1 a0_2 a0_3 a0_4 a0_5 a0_6 = some r) :
  Calls Tryd.prog 15 #[.agg #[.int .i64 a0_0, .int .i64 a0_1, .int .i64 a0_2, .int .i64 a0_3, .int .i64 a0_4, .int .i64 a0_5, .string a0_6]] w fun e w' => ∃ v0_ : Value, e = .returned (v0_) ∧ Kd.R (Kd.int .u8) 5 w' w.heap.size (fun _ => True) v0_ r ∧ Below w.heap.size w w' := by
 have hu26 := Tryd.underlying26
 have HB := Aside0.mk (Below.refl w.heap.size w)
 have H : ((spec_SegOk.f k a0_0 a0_1 a0_2 a0_3 a0_4 a0_5 a0_6).bind fun t233 => (if t233 = true then ((spec_l5Body.f k a0_0 a0_1 a0_2 a0_3 a0_4 a0_5 a0_6).bind fun t234 => ((spec_SegSum.f k t234).bind fun t237 => ((spec_l5Put.f t234 t237).bind fun t238 => (some t238)))) else (some (([] : List Int))))) = some r := h
 clear h
 replace H := Option.bind_eq_some_iff.mp H
 obtain ⟨t233, A20, H⟩ := H
 replace H : (if t233 = true then ((spec_l5Body.f k a0_0 a0_1 a0_2 a0_3 a0_4 a0_5 a0_6).bind fun t234 => ((spec_SegSum.f k t234).bind fun t237 => ((spec_l5Put.f t234 t237).bind fun t238 => (some t238)))) else (some (([] : List Int)))) = some r := H
 have A2 := Aside0.mk A20
 clear A20
 by_cases c3 : t233 = true
 ·subst c3
  have H1 : ((spec_l5Body.f k a0_0 a0_1 a0_2 a0_3 a0_4 a0_5 a0_6).bind fun t234 => ((spec_SegSum.f k t234).bind fun t237 => ((spec_l5Put.f t234 t237).bind fun t238 => (some t238)))) = some r := by rw [if_pos rfl] at H; exact H
  clear H
  have H := H1
  clear H1
  replace H := Option.bind_eq_some_iff.mp H
  obtain ⟨t234, A40, H⟩ := H
  replace H : ((spec_SegSum.f k t234).bind fun t237 => ((spec_l5Put.f t234 t237).bind fun t238 => (some t238))) = some r := H
  have A4 := Aside0.mk A40
  clear A40
  replace H := Option.bind_eq_some_iff.mp H
  obtain ⟨t237, A50, H⟩ := H
  replace H : ((spec_l5Put.f t234 t237).bind fun t238 => (some t238)) = some r := H
  have A5 := Aside0.mk A50
  clear A50
  replace H := Option.bind_eq_some_iff.mp H
  obtain ⟨t238, A60, H⟩ := H
  replace H : (some t238) = some r := H
  have A6 := Aside0.mk A60
  clear A60
  obtain rfl := Option.some.inj H
  go_enter Tryd.func15, Tryd.ntmps15
  go_wp2_with (first | ((with_reducible refine gate_dst (N := 1) rfl ?_); refine box_event ?hg (N := 1) ?hd (cs := #[.int .i64 a0_0, .int .i64 a0_1, .int .i64 a0_2, .int .i64 a0_3, .int .i64 a0_4, .int .i64 a0_5, .string a0_6]) (t := 26) ?hr ?_; (case hd => rfl); (case hg => rfl); (case hr => first | (go_simp; done) | (go_simp; rfl)); intro gb232 hg w7 hbox hb; have n0_ := Aside0.mk (below_step Z35 hb); have n1_ := Aside0.mk (hbox); have n2_ := Aside0.mk ((Z93 : w.heap.size ≤ gb232)); have n3_ := Aside0.mk ((Z93 : w.heap.size ≤ gb232)); clear HB; have HB := n0_; have BK232 := n1_; have GW232 := n2_; have GE232 := n3_; clear n0_ n1_ n2_ n3_; clear hb hbox hg; have hcz8_0 : w7.cell? ⟨gb232, 0, none⟩ = some (.int .i64 a0_0) := (blk_cell BK232.out 0).trans rfl; have hcz8_1 : w7.cell? ⟨gb232, 1, none⟩ = some (.int .i64 a0_1) := (blk_cell BK232.out 1).trans rfl; have hcz8_2 : w7.cell? ⟨gb232, 2, none⟩ = some (.int .i64 a0_2) := (blk_cell BK232.out 2).trans rfl; have hcz8_3 : w7.cell? ⟨gb232, 3, none⟩ = some (.int .i64 a0_3) := (blk_cell BK232.out 3).trans rfl; have hcz8_4 : w7.cell? ⟨gb232, 4, none⟩ = some (.int .i64 a0_4) := (blk_cell BK232.out 4).trans rfl; have hcz8_5 : w7.cell? ⟨gb232, 5, none⟩ = some (.int .i64 a0_5) := (blk_cell BK232.out 5).trans rfl; have hcz8_6 : w7.cell? ⟨gb232, 6, none⟩ = some (.string a0_6) := (blk_cell BK232.out 6).trans rfl; have hfz8_0 := blk_frozen BK232.out 0; have hfz8_1 := blk_frozen BK232.out 1; have hfz8_2 := blk_frozen BK232.out 2; have hfz8_3 := blk_frozen BK232.out 3; have hfz8_4 := blk_frozen BK232.out 4; have hfz8_5 := blk_frozen BK232.out 5; have hfz8_6 := blk_frozen BK232.out 6) | ((with_reducible refine gate_callee (f := 17) rfl ?_); refine goesL_ (some 5) rfl rfl Tryd.func17 (by kernel_rfl) rfl #[.agg #[.int .i64 a0_0, .int .i64 a0_1, .int .i64 a0_2, .int .i64 a0_3, .int .i64 a0_4, .int .i64 a0_5, .string a0_6]] rfl Z37 ?_; (with_reducible refine (spec_SegOk.calls k a0_0 a0_1 a0_2 a0_3 a0_4 a0_5 a0_6 true _ A2.out).mono ?_); rintro e w9 ⟨rfl, hb⟩; refine ⟨_, rfl, ?_⟩; have n0_ := Aside0.mk (blk_below (g := gb232) (o := .cells #[.int .i64 a0_0, .int .i64 a0_1, .int .i64 a0_2, .int .i64 a0_3, .int .i64 a0_4, .int .i64 a0_5, .string a0_6] 26 (0, 0)) Z24 hb); have n1_ := Aside0.mk (below_step Z48 hb); clear BK232; clear HB; have BK232 := n0_; have HB := n1_; clear n0_ n1_; (try clear hb); have hcz10_0 : w9.cell? ⟨gb232, 0, none⟩ = some (.int .i64 a0_0) := (blk_cell BK232.out 0).trans rfl; have hcz10_1 : w9.cell? ⟨gb232, 1, none⟩ = some (.int .i64 a0_1) := (blk_cell BK232.out 1).trans rfl; have hcz10_2 : w9.cell? ⟨gb232, 2, none⟩ = some (.int .i64 a0_2) := (blk_cell BK232.out 2).trans rfl; have hcz10_3 : w9.cell? ⟨gb232, 3, none⟩ = some (.int .i64 a0_3) := (blk_cell BK232.out 3).trans rfl; have hcz10_4 : w9.cell? ⟨gb232, 4, none⟩ = some (.int .i64 a0_4) := (blk_cell BK232.out 4).trans rfl; have hcz10_5 : w9.cell? ⟨gb232, 5, none⟩ = some (.int .i64 a0_5) := (blk_cell BK232.out 5).trans rfl; have hcz10_6 : w9.cell? ⟨gb232, 6, none⟩ = some (.string a0_6) := (blk_cell BK232.out 6).trans rfl; have hfz10_0 := blk_frozen BK232.out 0; have hfz10_1 := blk_frozen BK232.out 1; have hfz10_2 := blk_frozen BK232.out 2; have hfz10_3 := blk_frozen BK232.out 3; have hfz10_4 := blk_frozen BK232.out 4; have hfz10_5 := blk_frozen BK232.out 5; have hfz10_6 := blk_frozen BK232.out 6) | ((with_reducible refine gate_callee (f := 29) rfl ?_); refine goesL_ (some 9) rfl rfl Tryd.func29 (by kernel_rfl) rfl #[.agg #[.int .i64 a0_0, .int .i64 a0_1, .int .i64 a0_2, .int .i64 a0_3, .int .i64 a0_4, .int .i64 a0_5, .string a0_6]] rfl Z37 ?_; (with_reducible refine (spec_l5Body.calls k a0_0 a0_1 a0_2 a0_3 a0_4 a0_5 a0_6 t234 _ A4.out).mono ?_); rintro e w11 ⟨v235, rfl, ho0, hb⟩; refine ⟨_, rfl, ?_⟩; have n0_ := Aside0.mk (Kd.R_lower ho0 (below_size Z48)); have n1_ := Aside0.mk (blk_below (g := gb232) (o := .cells #[.int .i64 a0_0, .int .i64 a0_1, .int .i64 a0_2, .int .i64 a0_3, .int .i64 a0_4, .int .i64 a0_5, .string a0_6] 26 (0, 0)) Z24 hb); have n2_ := Aside0.mk (below_step Z48 hb); clear BK232; clear HB; have HO236 := n0_; have BK232 := n1_; have HB := n2_; clear n0_ n1_ n2_; (try clear hb); (try clear ho0); obtain ⟨Ao12, co12, eo12⟩ := Kd.R_slice HO236.out; subst eo12) | ((with_reducible refine gate_callee (f := 19) rfl ?_); refine goesL_ (some 12) rfl rfl Tryd.func19 (by kernel_rfl) rfl #[.slice Ao12 t234.length co12] rfl Z37 ?_; (with_reducible refine (spec_SegSum.calls k _ _ t234 t237 _ ?side1 ?side2 A5.out).mono ?_); (case side1 => exact Z54); (case side2 => exact (Kd.R_reads' HO236.out).2.1); rintro e w' ⟨rfl, ⟨nd, rfl⟩⟩; refine ⟨_, rfl, ?_⟩) | ((with_reducible refine gate_callee (f := 30) rfl ?_); refine goesL_ (some 13) rfl rfl Tryd.func30 (by kernel_rfl) rfl #[.slice Ao12 t234.length co12, .int .i64 t237] rfl Z37 ?_; (with_reducible refine (spec_l5Put.calls _ _ t234 t237 t238 _ ?side1 ?side2 A6.out).mono ?_); (case side1 => exact Z54); (case side2 => exact (Kd.R_reads' HO236.out).2.1); rintro e w13 ⟨v239, rfl, ho0, hb⟩; refine ⟨_, rfl, ?_⟩; have n0_ := Aside0.mk (Kd.R_elder' Z13 (Kd.R_base ho0) hb); have n1_ := Aside0.mk (Kd.R_lower (Kd.R_new' ho0 (Kd.R_lt Z13)) (below_size Z48)); have n2_ := Aside0.mk (blk_below (g := gb232) (o := .cells #[.int .i64 a0_0, .int .i64 a0_1, .int .i64 a0_2, .int .i64 a0_3, .int .i64 a0_4, .int .i64 a0_5, .string a0_6] 26 (0, 0)) Z24 hb); have n3_ := Aside0.mk (below_step Z48 hb); clear HO236; clear BK232; clear HB; have HO236 := n0_; have HO240 := n1_; have BK232 := n2_; have HB := n3_; clear n0_ n1_ n2_ n3_; (try clear hb); (try clear ho0)))
  go_ret
  exact ⟨_, by first | rfl | (simp [errW_none, errW_some] <;> rfl) | (simp [*, errW_none, errW_some] <;> rfl), by (with_reducible repeat (first | apply Kd.R_alloc | apply Kd.R_drewN | apply Kd.R_drew)); exact Kd.R_mono HO240.out (fun _ hk => trivial), by repeat (first | (with_reducible first | exact HB.out | apply below_alloc | apply pw_below_drewN | apply below_drew1 | refine below_set ?_ GE232.out) | exact HB.out)⟩
 ·replace c3 := Bool.eq_false_iff.mpr c3
  subst c3
  have H1 : (some (([] : List Int))) = some r := by rw [if_neg (show ¬ (false = true) by decide)] at H; exact H
  clear H
  have H := H1
  clear H1
  obtain ⟨y241, hy241⟩ : ∃ y_ : List Int, y_ = (([] : List Int)) := ⟨_, rfl⟩
  replace H : (some y241) = some r := by first | (rw [hy241]; with_reducible exact H) | (have H2_ := (Option.bind_some _ _).symm.trans H; rw [hy241]; with_reducible exact H2_) | (have H2_ := (Option.bind_some _ _).symm.trans H; with_reducible exact H2_) | with_reducible exact H | (rw [hy241]; exact H) | exact H
  have Ny241 := Aside0.mk hy241
  clear hy241
  obtain rfl := Option.some.inj H
  go_enter Tryd.func15, Tryd.ntmps15
  go_wp2_with (first | ((with_reducible refine gate_dst (N := 1) rfl ?_); refine box_event ?hg (N := 1) ?hd (cs := #[.int .i64 a0_0, .int .i64 a0_1, .int .i64 a0_2, .int .i64 a0_3, .int .i64 a0_4, .int .i64 a0_5, .string a0_6]) (t := 26) ?hr ?_; (case hd => rfl); (case hg => rfl); (case hr => first | (go_simp; done) | (go_simp; rfl)); intro gb232 hg w14 hbox hb; have n0_ := Aside0.mk (below_step Z35 hb); have n1_ := Aside0.mk (hbox); have n2_ := Aside0.mk ((Z93 : w.heap.size ≤ gb232)); have n3_ := Aside0.mk ((Z93 : w.heap.size ≤ gb232)); clear HB; have HB := n0_; have BK232 := n1_; have GW232 := n2_; have GE232 := n3_; clear n0_ n1_ n2_ n3_; clear hb hbox hg; have hcz15_0 : w14.cell? ⟨gb232, 0, none⟩ = some (.int .i64 a0_0) := (blk_cell BK232.out 0).trans rfl; have hcz15_1 : w14.cell? ⟨gb232, 1, none⟩ = some (.int .i64 a0_1) := (blk_cell BK232.out 1).trans rfl; have hcz15_2 : w14.cell? ⟨gb232, 2, none⟩ = some (.int .i64 a0_2) := (blk_cell BK232.out 2).trans rfl; have hcz15_3 : w14.cell? ⟨gb232, 3, none⟩ = some (.int .i64 a0_3) := (blk_cell BK232.out 3).trans rfl; have hcz15_4 : w14.cell? ⟨gb232, 4, none⟩ = some (.int .i64 a0_4) := (blk_cell BK232.out 4).trans rfl; have hcz15_5 : w14.cell? ⟨gb232, 5, none⟩ = some (.int .i64 a0_5) := (blk_cell BK232.out 5).trans rfl; have hcz15_6 : w14.cell? ⟨gb232, 6, none⟩ = some (.string a0_6) := (blk_cell BK232.out 6).trans rfl; have hfz15_0 := blk_frozen BK232.out 0; have hfz15_1 := blk_frozen BK232.out 1; have hfz15_2 := blk_frozen BK232.out 2; have hfz15_3 := blk_frozen BK232.out 3; have hfz15_4 := blk_frozen BK232.out 4; have hfz15_5 := blk_frozen BK232.out 5; have hfz15_6 := blk_frozen BK232.out 6) | ((with_reducible refine gate_callee (f := 17) rfl ?_); refine goesL_ (some 5) rfl rfl Tryd.func17 (by kernel_rfl) rfl #[.agg #[.int .i64 a0_0, .int .i64 a0_1, .int .i64 a0_2, .int .i64 a0_3, .int .i64 a0_4, .int .i64 a0_5, .string a0_6]] rfl Z37 ?_; (with_reducible refine (spec_SegOk.calls k a0_0 a0_1 a0_2 a0_3 a0_4 a0_5 a0_6 false _ A2.out).mono ?_); rintro e w16 ⟨rfl, hb⟩; refine ⟨_, rfl, ?_⟩; have n0_ := Aside0.mk (blk_below (g := gb232) (o := .cells #[.int .i64 a0_0, .int .i64 a0_1, .int .i64 a0_2, .int .i64 a0_3, .int .i64 a0_4, .int .i64 a0_5, .string a0_6] 26 (0, 0)) Z24 hb); have n1_ := Aside0.mk (below_step Z48 hb); clear BK232; clear HB; have BK232 := n0_; have HB := n1_; clear n0_ n1_; (try clear hb)) | ((with_reducible refine gate_dst (N := 7) rfl ?_); refine Kd.R_lit (Kd.int .u8) _ 5 ?hg (N := 7) ?hd (xs := ([] : List Int)) (inner := []) (ok := fun _ => True) (okp := fun _ => True) ?hr ?hp (fun _ hk => hk) trivial (Below.refl _ _) (Nat.le_refl _) (by simp) ?_; (case hd => rfl); (case hg => rfl); (case hr => first | (go_simp; done) | (go_simp; rfl)); (case hp => exact (Reps.none _ _)); intro v242 w17 ho18 hb hg_ hnew_; clear hg_ hnew_; (first | rw [← Ny241.out] at ho18 | (simp only [Int.reduceToNat] at ho18; rw [← Ny241.out] at ho18)); have n0_ := Aside0.mk (Kd.R_lower ho18 (below_size Z48)); have n1_ := Aside0.mk (blk_below (g := gb232) (o := .cells #[.int .i64 a0_0, .int .i64 a0_1, .int .i64 a0_2, .int .i64 a0_3, .int .i64 a0_4, .int .i64 a0_5, .string a0_6] 26 (0, 0)) Z24 hb); have n2_ := Aside0.mk (below_step Z48 hb); clear BK232; clear HB; have HO243 := n0_; have BK232 := n1_; have HB := n2_; clear n0_ n1_ n2_; clear hb ho18))
  go_ret
  exact ⟨_, by first | rfl | (simp [errW_none, errW_some] <;> rfl) | (simp [*, errW_none, errW_some] <;> rfl), by (with_reducible repeat (first | apply Kd.R_alloc | apply Kd.R_drewN | apply Kd.R_drew)); exact HO243.out, by repeat (first | (with_reducible first | exact HB.out | apply below_alloc | apply pw_below_drewN | apply below_drew1 | refine below_set ?_ GE232.out) | exact HB.out)⟩

end Go.Proofs.YtdfoelhpeeanlaaDoor.QFnSegRead
