-- Laid by a program of this repo (wip/tools/sprint.py): print.py's functions and walks; the contracts named 'BY HAND' are proved by hand.
import Derived.Test.YtmahgffkkdggcaaQFnPosTherex9
import Derived.Test.YtmahgffkkdggcaaQFnPosTherex8
import Derived.Test.YtmahgffkkdggcaaQFnPosTherex3
import Derived.Test.YtmahgffkkdggcaaQFnPosTherex12
import Derived.Test.YtmahgffkkdggcaaQFnPosTherex1
import Derived.Test.YtmahgffkkdggcaaQFnPosTherex0
import Derived.Test.YtmahgffkkdggcaaQFnPosTherex2
import Derived.Test.YtmahgffkkdggcaaQFnPosTherex4
import Derived.Test.YtmahgffkkdggcaaQFnPosTherex5
import Derived.Test.YtmahgffkkdggcaaQFnPosTherex6
import Derived.Test.YtmahgffkkdggcaaQFnPosTherex7
import Derived.Test.YtmahgffkkdggcaaQFnPosTherex10
import Derived.Test.YtmahgffkkdggcaaQFnPosTherex11
import Derived.Test.YtmahgffkkdggcaaQFnPosTherex13
namespace Go.Proofs.Ytmahgffkkdggcaa.QFnPosThere
open Go.RowKit Go.Proofs.YtmahgffkkdggcaaW.PrintWords Go.Proofs.YtmahgffkkdggcaaW.PrintLast Go.Proofs.YtmahgffkkdggcaaW.PrintMore
attribute [local go_sem] max2_int min2_int max_two min_two max_three min_three max_four min_four   -- for this text's walks alone
set_option linter.unusedVariables false
set_option linter.unusedSimpArgs false

/-! ### spec_l3Stream: function 70 -/
def spec_l3Stream.l0 : Nat → List ByteArray → ByteArray → Int → List (S80) → Option ((List (S80)) × ByteArray)
 | 0, _, _, _, _ => none
 | k + 1, x6, x8, x9, x401000 => if x9 < (x6.length : Int) then (if 0 ≤ x9 then ((spec_l3Line.f k x401000 (rdOf ByteArray.empty x6 x9)).bind fun bt407 => (if x8.size + bt407.2.size ≤ 9223372036854775807 then (if (x8 ++ bt407.2).size + 1 ≤ 9223372036854775807 then (spec_l3Stream.l0 k x6 ((x8 ++ bt407.2) ++ (⟨#[59]⟩ : ByteArray)) (wrap64 (x9 + 1)) bt407.1) else (none)) else (none))) else (none)) else (some (x401000, x8))
def spec_l3Stream.f (k : Nat) (l0_0 : List (S80)) (a1 : ByteArray) : Option ((List (S80)) × ByteArray) := (spec_StrLines.f k a1).bind fun bt402 => (spec_l3Stream.l0 k bt402.1 (⟨#[]⟩ : ByteArray) 0 l0_0)
theorem spec_l3Stream.mono_l : ∀ k, (∀ y0 y1 y2 y3, LeO (spec_l3Stream.l0 k y0 y1 y2 y3) (spec_l3Stream.l0 (k + 1) y0 y1 y2 y3))
 | 0 => fun _ _ _ _ r h => by simp [spec_l3Stream.l0] at h
 | k + 1 => by
  have ih0 := spec_l3Stream.mono_l k
  ·intro y0 y1 y2 y3
   unfold spec_l3Stream.l0
   repeat' first
   | (with_reducible exact ih0 _ _ _ _)
   | (with_reducible exact spec_StrLines.mono _ _)
   | (with_reducible exact spec_l3Line.mono _ _ _)
   | (with_reducible exact LeO.refl _)
   | (with_reducible exact LeO.none _)
   | (with_reducible refine LeO.ite ?_ ?_)
   | (with_reducible refine LeO.bind ?_ (fun _ => ?_))
   | exact ih0 _ _ _ _
   | exact spec_StrLines.mono _ _
   | exact spec_l3Line.mono _ _ _
   | exact LeO.none _
   | refine LeO.ite ?_ ?_
   | refine LeO.bind ?_ (fun _ => ?_)
theorem spec_l3Stream.mono : ∀ a0 a1 k, LeO (spec_l3Stream.f k a0 a1) (spec_l3Stream.f (k + 1) a0 a1) := by
 intro a0 a1 k
 have ih0 := spec_l3Stream.mono_l k
 unfold spec_l3Stream.f
 repeat' first
   | (with_reducible exact ih0 _ _ _ _)
   | (with_reducible exact spec_StrLines.mono _ _)
   | (with_reducible exact spec_l3Line.mono _ _ _)
   | (with_reducible exact LeO.refl _)
   | (with_reducible exact LeO.none _)
   | (with_reducible refine LeO.ite ?_ ?_)
   | (with_reducible refine LeO.bind ?_ (fun _ => ?_))
   | exact ih0 _ _ _ _
   | exact spec_StrLines.mono _ _
   | exact spec_l3Line.mono _ _ _
   | exact LeO.none _
   | refine LeO.ite ?_ ?_
   | refine LeO.bind ?_ (fun _ => ?_)
def spec_l3Stream.T6 : Bool × List (List Nat × List Nat) := (true, [([], []), ([], []), ([], []), ([1, 2], [1, 2]), ([3], [3]), ([0, 4], [0, 4]), ([5], [5]), ([6], [6]), ([6], [6]), ([], []), ([9, 7, 5, 0, 1, 2, 3, 4, 5, 6, 7, 9], [7, 9]), ([8, 10, 0, 1, 2, 3, 4, 5, 6, 7, 8, 9, 10], [8])])
def spec_l3Stream.B6 : List Nat := [0, 0, 0, 6, 14, 31, 63, 127, 127, 0, 767, 2047]
theorem spec_l3Stream.tab6 : rtab .any (opsOf Try.f70 6) = spec_l3Stream.T6 := by kernel_rfl
theorem spec_l3Stream.bits6 : waitsOk spec_l3Stream.T6.2 spec_l3Stream.B6 = true := by kernel_rfl
set_option maxHeartbeats 8000000 in
set_option maxRecDepth 100000 in
theorem spec_l3Stream.calls (k : Nat) (P0_0_ : Nat → Prop) (u9000_ : Value) (l0_0 : List (S80)) (a1 : ByteArray) (r1 : List (S80)) (r2 : ByteArray) (w0 w : World) (hB : Below w0.heap.size w0 w) (ho0_0 : Kd.R k80 80 w w0.heap.size P0_0_ u9000_ l0_0) (h : spec_l3Stream.f k l0_0 a1 = some (r1, r2)) :
  Calls Try.prog 70 #[.agg #[u9000_], .string a1] w fun e w' => ∃ v0_ : Value, e = .returned (.tuple #[.agg #[v0_], .string r2]) ∧ Kd.R k80 80 w' w0.heap.size (fun k_ => (P0_0_ k_ ∨ w.heap.size ≤ k_)) v0_ r1 ∧ Below w0.heap.size w0 w' ∧ Kept w w' (fun k_ => P0_0_ k_) := by
 have hu61 := Try.underlying61
 have HO0_0 := Aside0.mk (show Kd.R k80 80 w w0.heap.size (fun k_ => (P0_0_ k_ ∨ w.heap.size ≤ k_)) u9000_ l0_0 from Kd.R_mono ho0_0 (fun k_ hk => (.inl hk)))
 have HK := Aside0.mk (Kept.refl w (fun k_ => P0_0_ k_))
 have HW0 := Aside0.mk hB.size
 have HB := Aside0.mk hB
 clear hB
 have H : ((spec_StrLines.f k a1).bind fun bt402 => (spec_l3Stream.l0 k bt402.1 (⟨#[]⟩ : ByteArray) 0 l0_0)) = some (r1, r2) := h
 clear h
 replace H := Option.bind_eq_some_iff.mp H
 obtain ⟨⟨t402, t403⟩, A30, H⟩ := H
 replace H : (spec_l3Stream.l0 k t402 (⟨#[]⟩ : ByteArray) 0 l0_0) = some (r1, r2) := H
 have A3 := Aside0.mk A30
 clear A30
 have H' := Aside0.mk H
 clear H
 obtain ⟨Ao4, co4, eo4⟩ := Kd.R_slice HO0_0.out
 subst eo4
 go_enter Try.func70, Try.ntmps70
 go_wp2_with (first | ((with_reducible refine gate_dst (N := 2) rfl ?_); refine box_event ?hg (N := 2) ?hd (cs := #[.slice Ao4 l0_0.length co4]) (t := 61) ?hr ?_; (case hd => rfl); (case hg => rfl); (case hr => first | (go_simp; done) | (go_simp; rfl)); intro gb400 hg w5 hbox hb; have n0_ := Aside0.mk (Kd.R_below Z27 hb); have n1_ := Aside0.mk (Kept.below (S := (fun k_ => P0_0_ k_)) Z69 hb); have n2_ := Aside0.mk (below_step Z71 hb); have n3_ := Aside0.mk (hbox); have n4_ := Aside0.mk ((Z188 : w.heap.size ≤ gb400)); have n5_ := Aside0.mk ((Z189 : w0.heap.size ≤ gb400)); clear HO0_0; clear HK; clear HB; have HO0_0 := n0_; have HK := n1_; have HB := n2_; have BK400 := n3_; have GW400 := n4_; have GE400 := n5_; clear n0_ n1_ n2_ n3_ n4_ n5_; clear hb hbox hg) | ((with_reducible refine gate_dst (N := 4) rfl ?_); refine box_event ?hg (N := 4) ?hd (cs := #[.slice none 0 0]) (t := 61) ?hr ?_; (case hd => rfl); (case hg => rfl); (case hr => first | (go_simp; done) | (go_simp; rfl)); intro gb401 hg w6 hbox hb; have n0_ := Aside0.mk (Kd.R_below Z27 hb); have n1_ := Aside0.mk (blk_below (g := gb400) (o := .cells #[.slice Ao4 l0_0.length co4] 61 (0, 0)) Z63 hb); have n2_ := Aside0.mk (Kept.below (S := (fun k_ => P0_0_ k_)) (by repeat (first | (with_reducible first | exact HK.out | apply Kept.alloc | apply Kept.drewN | apply Kept.drew | refine Kept.setCell ?_ (.inr GW400.out) _) | exact HK.out)) hb); have n3_ := Aside0.mk (below_step Z96 hb); have n4_ := Aside0.mk (hbox); have n5_ := Aside0.mk ((by rw [hg]; exact (by first | exact HK.out.1 | exact (show Kept w _ (fun k_ => P0_0_ k_) from by repeat (first | (with_reducible first | exact HK.out | apply Kept.alloc | apply Kept.drewN | apply Kept.drew | refine Kept.setCell ?_ (.inr GW400.out) _) | exact HK.out)).1) : w.heap.size ≤ gb401)); have n6_ := Aside0.mk ((by rw [hg]; exact (below_size Z96) : w0.heap.size ≤ gb401)); have n7_ := Aside0.mk ((by rw [hg]; exact Nat.ne_of_lt (blk_lt (g := gb400) (o := .cells #[.slice Ao4 l0_0.length co4] 61 (0, 0)) Z63) : gb400 ≠ gb401)); have n8_ := Aside0.mk ((by rw [hg]; exact Nat.ne_of_gt (blk_lt (g := gb400) (o := .cells #[.slice Ao4 l0_0.length co4] 61 (0, 0)) Z63) : gb401 ≠ gb400)); clear HO0_0; clear BK400; clear HK; clear HB; have HO0_0 := n0_; have BK400 := n1_; have HK := n2_; have HB := n3_; have BK401 := n4_; have GW401 := n5_; have GE401 := n6_; have NB400_401 := n7_; have NB401_400 := n8_; clear n0_ n1_ n2_ n3_ n4_ n5_ n6_ n7_ n8_; clear hb hbox hg) | ((with_reducible refine gate_callee (f := 13) rfl ?_); refine goesL_ (some 14) rfl rfl Try.func13 (by kernel_rfl) rfl #[.string a1] rfl Z75 ?_; (with_reducible refine (spec_StrLines.calls k a1 t402 t403 _ A3.out).mono ?_); rintro e w7 ⟨v404, rfl, ho0, hb⟩; refine ⟨_, rfl, ?_⟩; have n0_ := Aside0.mk (Kd.R_below Z27 hb); have n1_ := Aside0.mk (Kd.R_lower (Kd.R_newM (M := fun k_ => (P0_0_ k_ ∨ w.heap.size ≤ k_)) ho0 Z167 (fun k_ h_ => .inr h_)) (below_size Z124)); have n2_ := Aside0.mk (blk_below (g := gb400) (o := .cells #[.slice Ao4 l0_0.length co4] 61 (0, 0)) Z63 hb); have n3_ := Aside0.mk (blk_below (g := gb401) (o := .cells #[.slice none 0 0] 61 (0, 0)) Z64 hb); have n4_ := Aside0.mk (Kept.below (S := (fun k_ => P0_0_ k_)) Z134 hb); have n5_ := Aside0.mk (below_step Z124 hb); clear HO0_0; clear BK400; clear BK401; clear HK; clear HB; have HO0_0 := n0_; have HO405 := n1_; have BK400 := n2_; have BK401 := n3_; have HK := n4_; have HB := n5_; clear n0_ n1_ n2_ n3_ n4_ n5_; (try clear hb); (try clear ho0)))
 go_loopg [8, 9] k (fun kq v8 v9 w' => ∃ (x8_1 : ByteArray) (x9_1 : Int) (x401000_1 : List (S80)) (u401000 : Value), v8 = .string x8_1 ∧ v9 = .int .i64 x9_1 ∧ Aside0 (spec_l3Stream.l0 kq t402 x8_1 x9_1 x401000_1 = some (r1, r2)) ∧ Aside0 (kq ≤ k) ∧ Aside0 (Kd.R Kd.string 9 w' w0.heap.size (fun k_ => (P0_0_ k_ ∨ w.heap.size ≤ k_)) v404 t402) ∧ Aside0 (Kd.R k80 80 w' w0.heap.size (fun k_ => (P0_0_ k_ ∨ w.heap.size ≤ k_)) u401000 x401000_1) ∧ Aside0 (w'.heap[gb400]? = some (.cells #[u401000] 61 (0, 0))) ∧ Aside0 (w'.heap[gb401]? = some (.cells #[(.slice none 0 0)] 61 (0, 0))) ∧ Aside0 (Kept w w' (fun k_ => P0_0_ k_)) ∧ Aside0 (Below w0.heap.size w0 w'))
 case atStart => exact ⟨((⟨#[]⟩ : ByteArray)), (0), (l0_0), (.slice Ao4 l0_0.length co4), Z0, Z0, H', ⟨Nat.le_refl _⟩, ⟨by (with_reducible repeat (first | apply Kd.R_alloc | apply Kd.R_drewN | apply Kd.R_drew)); exact Kd.R_mono HO405.out (fun _ hk => hk.1)⟩, ⟨by (with_reducible repeat (first | apply Kd.R_alloc | apply Kd.R_drewN | apply Kd.R_drew)); exact HO0_0.out⟩, ⟨by (with_reducible repeat (first | refine blk_drewN ?_ _ | refine blk_drew ?_ | refine blk_alloc ?_ _)); exact BK400.out⟩, ⟨by (with_reducible repeat (first | refine blk_drewN ?_ _ | refine blk_drew ?_ | refine blk_alloc ?_ _)); exact BK401.out⟩, ⟨by repeat (first | (with_reducible first | exact HK.out | apply Kept.alloc | apply Kept.drewN | apply Kept.drew | refine Kept.setCell ?_ (.inr GW400.out) _ | refine Kept.setCell ?_ (.inr GW401.out) _) | exact HK.out)⟩, ⟨by repeat (first | (with_reducible first | exact HB.out | apply below_alloc | apply pw_below_drewN | apply below_drew1 | refine below_set ?_ GE400.out | refine below_set ?_ GE401.out) | exact HB.out)⟩⟩
 case round =>
  clear H'
  try clear c1
  try clear p2
  try clear c7
  obtain ⟨x8_1, x9_1, x401000_1, u401000, rfl, rfl, HA, HK1, HO_6, HO_401000, BK400, BK401, HK, HB⟩ := hrel
  cases gk with
  | zero => exact absurd HA.out (by simp [spec_l3Stream.l0])
  | succ k1 =>
   have H := HA.out
   clear HA
   simp only [spec_l3Stream.l0] at H
   by_cases c8 : x9_1 < (t402.length : Int)
   ·rw [if_pos c8] at H
    have c8b0 : decide (x9_1 < (t402.length : Int)) = true := decide_eq_true c8
    clear c8
    by_cases c9 : 0 ≤ x9_1
    ·rw [if_pos c9] at H
     have c9b0 : decide (0 ≤ x9_1) = true := decide_eq_true c9
     clear c9
     replace H := Option.bind_eq_some_iff.mp H
     obtain ⟨⟨t407, t410⟩, A100, H⟩ := H
     replace H : (if x8_1.size + t410.size ≤ 9223372036854775807 then (if (x8_1 ++ t410).size + 1 ≤ 9223372036854775807 then (spec_l3Stream.l0 k1 t402 ((x8_1 ++ t410) ++ (⟨#[59]⟩ : ByteArray)) (wrap64 (x9_1 + 1)) t407) else (none)) else (none)) = some (r1, r2) := H
     have A10 := Aside0.mk A100
     clear A100
     by_cases c11 : x8_1.size + t410.size ≤ 9223372036854775807
     ·rw [if_pos c11] at H
      have c11b0 := eq_true c11
      have c11b1 : decide (x8_1.size + t410.size ≤ 9223372036854775807) = true := decide_eq_true c11
      try have c11b2 : (9223372036854775807 < x8_1.size + t410.size) = False := eq_false (Nat.not_lt.2 c11)
      by_cases c12 : (x8_1 ++ t410).size + 1 ≤ 9223372036854775807
      ·rw [if_pos c12] at H
       have c12b0 := eq_true c12
       have c12b1 : decide ((x8_1 ++ t410).size + 1 ≤ 9223372036854775807) = true := decide_eq_true c12
       try have c12b2 : (9223372036854775807 < (x8_1 ++ t410).size + 1) = False := eq_false (Nat.not_lt.2 c12)
       try have c12b8 : (9223372036854775807 < x8_1.size + t410.size + 1) = False := eq_false (by have := c12; simp only [ByteArray.size_append] at this; exact Nat.not_lt.2 this)
       have H' := Aside0.mk H
       clear H
       obtain ⟨Ao13, co13, eo13⟩ := Kd.R_slice HO_6.out
       subst eo13
       obtain ⟨Ao14, co14, eo14⟩ := Kd.R_slice HO_401000.out
       subst eo14
       try go_wp2
       have n0_ := Aside0.mk (Kd.R_drew HO_6.out)
       have n1_ := Aside0.mk (Kd.R_drew HO_401000.out)
       have n2_ := Aside0.mk (blk_drew BK400.out)
       have n3_ := Aside0.mk (blk_drew BK401.out)
       have n4_ := Aside0.mk (Kept.drew HK.out)
       have n5_ := Aside0.mk (below_drew1 HB.out)
       clear HO_6
       clear HO_401000
       clear BK400
       clear BK401
       clear HK
       clear HB
       have HO_6 := n0_
       have HO_401000 := n1_
       have BK400 := n2_
       have BK401 := n3_
       have HK := n4_
       have HB := n5_
       clear n0_ n1_ n2_ n3_ n4_ n5_
       have p406 : 0 ≤ (x9_1 : Int) := of_decide_eq_true Z11
       have q406 : x9_1 < (t402.length : Int) := of_decide_eq_true Z11
       obtain ⟨ad406, e406, hx406_0⟩ := Kd.at_string (Kd.R_reads' HO_6.out).2.2 x9_1 p406 q406
       cases e406
       replace p406 := eq_true p406
       replace q406 := eq_true q406
       refine start_ (n := 12) (S := fun w' => w'.cell? ⟨gb400, 0, none⟩ = some (.slice Ao14 x401000_1.length co14) ∧ w'.cell? (ad406.add (x9_1).toNat) = some (.string (rdOf ByteArray.empty t402 x9_1))) (ds := []) #[false, false, false, false, false, false, false, false, false, false, false, false] (by kernel_rfl) rfl rfl ⟨(blk_cell BK400.out 0).trans rfl, hx406_0⟩ (fun hHeld => ?_); refine with_tabW spec_l3Stream.tab6 spec_l3Stream.bits6 (fun HT_ HW_ => ?_)
       generalize wr.drew = w15 at HO_6 HO_401000 BK400 BK401 HK HB hx406_0 hHeld ⊢
       refine pure_ (i := 1) (N := some 25) (v := ?_) (a' := ?_) #[false, true, false, false, false, false, false, false, false, false, false, false] rfl rfl (any_of HT_.out (by kernel_rfl)) (fun _ _ _ h => h) (Or.inl ⟨by rfl, ?_⟩) ?_ ?_
       rotate_left
       ·intro w'
        go_simp
        with_reducible rfl
       rotate_left
       ·simp only [Act.put, List.setIfInBounds_toArray, List.set_cons_zero, List.set_cons_succ, i64_w, i32_w]
        rfl
       refine pure_ (i := 2) (N := some 26) (v := ?_) (a' := ?_) #[false, true, true, false, false, false, false, false, false, false, false, false] rfl rfl (any_of HT_.out (by kernel_rfl)) (fun _ _ _ h => h) (Or.inl ⟨by rfl, ?_⟩) ?_ ?_
       rotate_left
       ·intro w'
        go_simp
        with_reducible rfl
       rotate_left
       ·simp only [Act.put, List.setIfInBounds_toArray, List.set_cons_zero, List.set_cons_succ, i64_w, i32_w]
        rfl
       refine pure_ (i := 3) (N := some 27) (v := ?_) (a' := ?_) #[false, true, true, true, false, false, false, false, false, false, false, false] rfl rfl (any_of HT_.out (by kernel_rfl)) (fun _ _ _ h => h) (Or.inl ⟨by rfl, ?_⟩) ?_ ?_
       rotate_left
       ·intro w'
        go_simp
        with_reducible rfl
       rotate_left
       ·simp only [Act.put, List.setIfInBounds_toArray, List.set_cons_zero, List.set_cons_succ, i64_w, i32_w]
        rfl
       refine take_ (i := 0) (N := some 24) (v := ?_) (a' := ?_) #[true, true, true, true, false, false, false, false, false, false, false, false] rfl rfl (take_ofW HT_.out HW_.out (by kernel_rfl)) (fun _ _ _ h => h) (Or.inl ⟨by rfl, ?_⟩) hHeld ?_ ?_
       rotate_left
       ·rintro w' ⟨s0, s1⟩
        go_simp
        with_reducible rfl
       rotate_left
       ·simp only [Act.put, List.setIfInBounds_toArray, List.set_cons_zero, List.set_cons_succ, i64_w, i32_w]
        rfl
       refine take_ (i := 4) (N := some 28) (v := ?_) (a' := ?_) #[true, true, true, true, true, false, false, false, false, false, false, false] rfl rfl (take_ofW HT_.out HW_.out (by kernel_rfl)) (fun _ _ _ h => h) (Or.inl ⟨by rfl, ?_⟩) hHeld ?_ ?_
       rotate_left
       ·rintro w' ⟨s0, s1⟩
        go_simp
        with_reducible rfl
       rotate_left
       ·simp only [Act.put, List.setIfInBounds_toArray, List.set_cons_zero, List.set_cons_succ, i64_w, i32_w]
        rfl
       refine join_ (σ := Value × Nat) 2 #[true, true, true, true, true, true, true, true, true, true, false, false] (fun s_ => [(29, .tuple #[.agg #[s_.1], .string t410]), (10, .pointer (some ⟨s_.2, 0, none⟩)), (23, .tuple #[.agg #[s_.1], .string t410]), (30, .agg #[s_.1]), (31, .string t410)]) (fun s_ w' => (w'.cell? ⟨gb400, 0, none⟩ = some (.slice Ao14 x401000_1.length co14) ∧ w'.cell? (ad406.add (x9_1).toNat) = some (.string (rdOf ByteArray.empty t402 x9_1))) ∧ (Kd.R k80 80 w' w0.heap.size (fun k_ => (P0_0_ k_ ∨ w.heap.size ≤ k_)) s_.1 t407) ∧ (Kd.R Kd.string 9 w' w0.heap.size (fun k_ => (P0_0_ k_ ∨ w.heap.size ≤ k_)) (.slice (some ad406) t402.length co13) t402) ∧ (w'.heap[gb400]? = some (.cells #[.slice Ao14 x401000_1.length co14] 61 (0, 0))) ∧ (w'.heap[gb401]? = some (.cells #[.slice none 0 0] 61 (0, 0))) ∧ (w'.heap[s_.2]? = some (.cells #[.slice none 0 0] 61 (0, 0))) ∧ (w.heap.size ≤ s_.2) ∧ (w0.heap.size ≤ s_.2) ∧ (gb400 ≠ s_.2) ∧ (s_.2 ≠ gb400) ∧ (gb401 ≠ s_.2) ∧ (s_.2 ≠ gb401) ∧ (Kept w w' (fun k_ => P0_0_ k_)) ∧ (Below w0.heap.size w0 w')) ?_ ?_
       rotate_left
       ·intro hCont
        refine two_ (i := 5) (j := 9) (Ni := some 29) (Nj := some 10) #[true, true, true, true, true, true, false, false, false, false, false, false] #[true, true, true, true, true, false, false, false, false, true, false, false] rfl rfl rfl rfl (two_of HT_.out (by kernel_rfl)) (by decide) (by decide) (fun K hK => ?_) (fun K hK => ?_)
        ·skip
         refine goes_ Try.func79 (by kernel_rfl) rfl #[.agg #[.slice Ao14 x401000_1.length co14], .string (rdOf ByteArray.empty t402 x9_1)] (by rfl) rfl rfl Z75 ?_
         with_reducible refine (spec_l3Line.calls k1 (fun k_ => some k_ = (.slice Ao14 x401000_1.length co14 : Value).ownBlock) (.slice Ao14 x401000_1.length co14) x401000_1 (rdOf ByteArray.empty t402 x9_1) t407 t410 w0 _ ?side1 ?side2 A10.out).mono ?_
         (case side1 => repeat (first | (with_reducible first | exact HB.out | apply below_alloc | apply pw_below_drewN | apply below_drew1 | refine below_set ?_ GE400.out | refine below_set ?_ GE401.out) | exact HB.out))
         (case side2 => exact Kd.R_tight rfl HO_401000.out)
         rintro e w16 ⟨v408, rfl, ho0, hb, hkp⟩
         have HS1_ := Go.Proofs.YtmahgffkkdggcaaW.PrintWords.cell_kept (hHeld.2) hkp Z177
         refine ⟨_, rfl, ?_⟩
         have n0_ := Aside0.mk (Kd.R_mono (ok' := fun k_ => (P0_0_ k_ ∨ w.heap.size ≤ k_)) (Kd.R_keptB ((Kd.R_apart' HO_6.out (Kd.R_typed HO_401000.out) (by decide))) hkp (fun k_ hk_ hs_ => (hk_.2) hs_)) (fun k_ hk_ => hk_.1.1))
         have n1_ := Aside0.mk (blk_kept Z63 hkp (fun hs_ => (fun e_ => (Kd.R_ne HO_401000.out BK400.out (by decide)) e_) hs_))
         have n2_ := Aside0.mk (blk_kept Z64 hkp (fun hs_ => (fun e_ => (Kd.R_ne HO_401000.out BK401.out (by decide)) e_) hs_))
         have n3_ := Aside0.mk (Kd.R_mono (ok' := fun k_ => (P0_0_ k_ ∨ w.heap.size ≤ k_)) ho0 (fun k_ hk_ => Or.elim hk_ (fun hs_ => (HO_401000.out.1 k_ (hs_).symm)) (fun hn_ => (.inr (Nat.le_trans Z167 hn_)))))
         have n4_ := Aside0.mk (Kept.then_ (S := (fun k_ => P0_0_ k_)) Z134 hkp (fun k_ hs_ => (fun e_ => (HO_401000.out.1 k_ e_.symm)) hs_))
         have n5_ := Aside0.mk (hb)
         clear HO_6
         clear BK400
         clear BK401
         clear HK
         clear HB
         clear HO_401000
         have HO_6 := n0_
         have BK400 := n1_
         have BK401 := n2_
         have HO409 := n3_
         have HK := n4_
         have HB := n5_
         clear n0_ n1_ n2_ n3_ n4_ n5_
         (try clear hb)
         (try clear hkp)
         (try clear ho0)
         refine hK.out _ _ ⟨(blk_cell BK400.out 0).trans rfl, HS1_⟩ (fun hHeld => ?_)
         clear hK K
         refine norm_ (a' := ?_) ?_ ?_
         rotate_left
         ·show Act.put _ (some 29) _ = _
          simp only [Act.put, List.setIfInBounds_toArray, List.set_cons_zero, List.set_cons_succ, i64_w, i32_w]
          rfl
         refine pure_ (i := 6) (N := some 23) (v := ?_) (a' := ?_) #[true, true, true, true, true, true, true, false, false, false, false, false] rfl rfl (any_of HT_.out (by kernel_rfl)) (fun _ _ _ h => h) (Or.inl ⟨by rfl, ?_⟩) ?_ ?_
         rotate_left
         ·intro w'
          go_simp
          with_reducible rfl
         rotate_left
         ·simp only [Act.put, List.setIfInBounds_toArray, List.set_cons_zero, List.set_cons_succ, i64_w, i32_w]
          rfl
         refine pure_ (i := 7) (N := some 30) (v := ?_) (a' := ?_) #[true, true, true, true, true, true, true, true, false, false, false, false] rfl rfl (any_of HT_.out (by kernel_rfl)) (fun _ _ _ h => h) (Or.inl ⟨by rfl, ?_⟩) ?_ ?_
         rotate_left
         ·intro w'
          go_simp
          with_reducible rfl
         rotate_left
         ·simp only [Act.put, List.setIfInBounds_toArray, List.set_cons_zero, List.set_cons_succ, i64_w, i32_w]
          rfl
         refine pure_ (i := 8) (N := some 31) (v := ?_) (a' := ?_) #[true, true, true, true, true, true, true, true, true, false, false, false] rfl rfl (any_of HT_.out (by kernel_rfl)) (fun _ _ _ h => h) (Or.inl ⟨by rfl, ?_⟩) ?_ ?_
         rotate_left
         ·intro w'
          go_simp
          with_reducible rfl
         rotate_left
         ·simp only [Act.put, List.setIfInBounds_toArray, List.set_cons_zero, List.set_cons_succ, i64_w, i32_w]
          rfl
         refine one_ (i := 9) (N := some 10) #[true, true, true, true, true, true, true, true, true, true, false, false] rfl rfl (one_of HT_.out (by kernel_rfl)) (by decide) (fun K hK => ?_)
         refine box_step ?hg (N := 10) ?hd (cs := #[.slice none 0 0]) (t := 61) ?hr ?_; (case hd => rfl); (case hg => rfl); (case hr => first | (go_simp; done) | (go_simp; rfl))
         intro gb411 hg w17 hbox hb
         have HS1_ := (hb.cell (World.block_lt_of_cell? _ _ (hHeld.2))).trans (hHeld.2)
         have n0_ := Aside0.mk (Kd.R_below Z21 hb)
         have n1_ := Aside0.mk (Kd.R_below Z33 hb)
         have n2_ := Aside0.mk (blk_below (g := gb400) (o := .cells #[.slice Ao14 x401000_1.length co14] 61 (0, 0)) Z63 hb)
         have n3_ := Aside0.mk (blk_below (g := gb401) (o := .cells #[.slice none 0 0] 61 (0, 0)) Z64 hb)
         have n4_ := Aside0.mk (Kept.below (S := (fun k_ => P0_0_ k_)) Z134 hb)
         have n5_ := Aside0.mk (below_step Z124 hb)
         have n6_ := Aside0.mk (hbox)
         have n7_ := Aside0.mk ((by rw [hg]; exact Z167 : w.heap.size ≤ gb411))
         have n8_ := Aside0.mk ((by rw [hg]; exact (below_size Z124) : w0.heap.size ≤ gb411))
         have n9_ := Aside0.mk ((Z227 : gb400 ≠ gb411))
         have n10_ := Aside0.mk ((Z228 : gb411 ≠ gb400))
         have n11_ := Aside0.mk ((by rw [hg]; exact Nat.ne_of_lt (blk_lt (g := gb401) (o := .cells #[.slice none 0 0] 61 (0, 0)) Z64) : gb401 ≠ gb411))
         have n12_ := Aside0.mk ((by rw [hg]; exact Nat.ne_of_gt (blk_lt (g := gb401) (o := .cells #[.slice none 0 0] 61 (0, 0)) Z64) : gb411 ≠ gb401))
         clear HO_6
         clear HO409
         clear BK400
         clear BK401
         clear HK
         clear HB
         have HO_6 := n0_
         have HO409 := n1_
         have BK400 := n2_
         have BK401 := n3_
         have HK := n4_
         have HB := n5_
         have BK411 := n6_
         have GW411 := n7_
         have GE411 := n8_
         have NB400_411 := n9_
         have NB411_400 := n10_
         have NB401_411 := n11_
         have NB411_401 := n12_
         clear n0_ n1_ n2_ n3_ n4_ n5_ n6_ n7_ n8_ n9_ n10_ n11_ n12_
         clear hb hbox hg
         refine hK.out _ _ ⟨(blk_cell BK400.out 0).trans rfl, HS1_⟩ (fun hHeld => ?_)
         clear hK K
         refine norm_ (a' := ?_) ?_ ?_
         rotate_left
         ·show Act.put _ (some 10) _ = _
          simp only [Act.put, List.setIfInBounds_toArray, List.set_cons_zero, List.set_cons_succ, i64_w, i32_w]
          rfl
         exact norm_ Z18 (hCont (v408, gb411) _ ⟨hHeld, Z33, Z21, Z63, Z64, Z65, GW411.out, GE411.out, NB400_411.out, NB411_400.out, NB401_411.out, NB411_401.out, Z153, Z143⟩)
        ·skip
         refine box_step ?hg (N := 10) ?hd (cs := #[.slice none 0 0]) (t := 61) ?hr ?_; (case hd => rfl); (case hg => rfl); (case hr => first | (go_simp; done) | (go_simp; rfl))
         intro gb411 hg w16 hbox hb
         have HS1_ := (hb.cell (World.block_lt_of_cell? _ _ (hHeld.2))).trans (hHeld.2)
         have n0_ := Aside0.mk (Kd.R_below Z21 hb)
         have n1_ := Aside0.mk (Kd.R_below (by (with_reducible repeat (first | apply Kd.R_alloc | apply Kd.R_drewN | apply Kd.R_drew)); exact HO_401000.out) hb)
         have n2_ := Aside0.mk (blk_below (g := gb400) (o := .cells #[.slice Ao14 x401000_1.length co14] 61 (0, 0)) Z63 hb)
         have n3_ := Aside0.mk (blk_below (g := gb401) (o := .cells #[.slice none 0 0] 61 (0, 0)) Z64 hb)
         have n4_ := Aside0.mk (Kept.below (S := (fun k_ => P0_0_ k_)) Z134 hb)
         have n5_ := Aside0.mk (below_step Z124 hb)
         have n6_ := Aside0.mk (hbox)
         have n7_ := Aside0.mk ((by rw [hg]; exact Z167 : w.heap.size ≤ gb411))
         have n8_ := Aside0.mk ((by rw [hg]; exact (below_size Z124) : w0.heap.size ≤ gb411))
         have n9_ := Aside0.mk ((Z227 : gb400 ≠ gb411))
         have n10_ := Aside0.mk ((Z228 : gb411 ≠ gb400))
         have n11_ := Aside0.mk ((by rw [hg]; exact Nat.ne_of_lt (blk_lt (g := gb401) (o := .cells #[.slice none 0 0] 61 (0, 0)) Z64) : gb401 ≠ gb411))
         have n12_ := Aside0.mk ((by rw [hg]; exact Nat.ne_of_gt (blk_lt (g := gb401) (o := .cells #[.slice none 0 0] 61 (0, 0)) Z64) : gb411 ≠ gb401))
         clear HO_6
         clear HO_401000
         clear BK400
         clear BK401
         clear HK
         clear HB
         have HO_6 := n0_
         have HO_401000 := n1_
         have BK400 := n2_
         have BK401 := n3_
         have HK := n4_
         have HB := n5_
         have BK411 := n6_
         have GW411 := n7_
         have GE411 := n8_
         have NB400_411 := n9_
         have NB411_400 := n10_
         have NB401_411 := n11_
         have NB411_401 := n12_
         clear n0_ n1_ n2_ n3_ n4_ n5_ n6_ n7_ n8_ n9_ n10_ n11_ n12_
         clear hb hbox hg
         refine hK.out _ _ ⟨(blk_cell BK400.out 0).trans rfl, HS1_⟩ (fun hHeld => ?_)
         clear hK K
         refine norm_ (a' := ?_) ?_ ?_
         rotate_left
         ·show Act.put _ (some 10) _ = _
          simp only [Act.put, List.setIfInBounds_toArray, List.set_cons_zero, List.set_cons_succ, i64_w, i32_w]
          rfl
         refine one_ (i := 5) (N := some 29) #[true, true, true, true, true, true, false, false, false, true, false, false] rfl rfl (one_of HT_.out (by kernel_rfl)) (by decide) (fun K hK => ?_)
         refine goes_ Try.func79 (by kernel_rfl) rfl #[.agg #[.slice Ao14 x401000_1.length co14], .string (rdOf ByteArray.empty t402 x9_1)] (by rfl) rfl rfl Z75 ?_
         with_reducible refine (spec_l3Line.calls k1 (fun k_ => some k_ = (.slice Ao14 x401000_1.length co14 : Value).ownBlock) (.slice Ao14 x401000_1.length co14) x401000_1 (rdOf ByteArray.empty t402 x9_1) t407 t410 w0 _ ?side1 ?side2 A10.out).mono ?_
         (case side1 => repeat (first | (with_reducible first | exact HB.out | apply below_alloc | apply pw_below_drewN | apply below_drew1 | refine below_set ?_ GE400.out | refine below_set ?_ GE401.out | refine below_set ?_ GE411.out) | exact HB.out))
         (case side2 => exact Kd.R_tight rfl HO_401000.out)
         rintro e w17 ⟨v408, rfl, ho0, hb, hkp⟩
         have HS1_ := Go.Proofs.YtmahgffkkdggcaaW.PrintWords.cell_kept (hHeld.2) hkp Z177
         refine ⟨_, rfl, ?_⟩
         have n0_ := Aside0.mk (Kd.R_mono (ok' := fun k_ => (P0_0_ k_ ∨ w.heap.size ≤ k_)) (Kd.R_keptB ((Kd.R_apart' HO_6.out (Kd.R_typed HO_401000.out) (by decide))) hkp (fun k_ hk_ hs_ => (hk_.2) hs_)) (fun k_ hk_ => hk_.1.1))
         have n1_ := Aside0.mk (blk_kept Z63 hkp (fun hs_ => (fun e_ => (Kd.R_ne HO_401000.out BK400.out (by decide)) e_) hs_))
         have n2_ := Aside0.mk (blk_kept Z64 hkp (fun hs_ => (fun e_ => (Kd.R_ne HO_401000.out BK401.out (by decide)) e_) hs_))
         have n3_ := Aside0.mk (blk_kept Z65 hkp (fun hs_ => (fun e_ => (Kd.R_ne HO_401000.out BK411.out (by decide)) e_) hs_))
         have n4_ := Aside0.mk (Kd.R_mono (ok' := fun k_ => (P0_0_ k_ ∨ w.heap.size ≤ k_)) ho0 (fun k_ hk_ => Or.elim hk_ (fun hs_ => (HO_401000.out.1 k_ (hs_).symm)) (fun hn_ => (.inr (Nat.le_trans (by first | exact HK.out.1 | exact (show Kept w _ (fun k_ => P0_0_ k_) from by repeat (first | (with_reducible first | exact HK.out | apply Kept.alloc | apply Kept.drewN | apply Kept.drew | refine Kept.setCell ?_ (.inr GW400.out) _ | refine Kept.setCell ?_ (.inr GW401.out) _ | refine Kept.setCell ?_ (.inr GW411.out) _) | exact HK.out)).1) hn_)))))
         have n5_ := Aside0.mk (Kept.then_ (S := (fun k_ => P0_0_ k_)) Z153 hkp (fun k_ hs_ => (fun e_ => (HO_401000.out.1 k_ e_.symm)) hs_))
         have n6_ := Aside0.mk (hb)
         clear HO_6
         clear BK400
         clear BK401
         clear BK411
         clear HK
         clear HB
         clear HO_401000
         have HO_6 := n0_
         have BK400 := n1_
         have BK401 := n2_
         have BK411 := n3_
         have HO409 := n4_
         have HK := n5_
         have HB := n6_
         clear n0_ n1_ n2_ n3_ n4_ n5_ n6_
         (try clear hb)
         (try clear hkp)
         (try clear ho0)
         refine hK.out _ _ ⟨(blk_cell BK400.out 0).trans rfl, HS1_⟩ (fun hHeld => ?_)
         clear hK K
         refine norm_ (a' := ?_) ?_ ?_
         rotate_left
         ·show Act.put _ (some 29) _ = _
          simp only [Act.put, List.setIfInBounds_toArray, List.set_cons_zero, List.set_cons_succ, i64_w, i32_w]
          rfl
         refine pure_ (i := 6) (N := some 23) (v := ?_) (a' := ?_) #[true, true, true, true, true, true, true, false, false, true, false, false] rfl rfl (any_of HT_.out (by kernel_rfl)) (fun _ _ _ h => h) (Or.inl ⟨by rfl, ?_⟩) ?_ ?_
         rotate_left
         ·intro w'
          go_simp
          with_reducible rfl
         rotate_left
         ·simp only [Act.put, List.setIfInBounds_toArray, List.set_cons_zero, List.set_cons_succ, i64_w, i32_w]
          rfl
         refine pure_ (i := 7) (N := some 30) (v := ?_) (a' := ?_) #[true, true, true, true, true, true, true, true, false, true, false, false] rfl rfl (any_of HT_.out (by kernel_rfl)) (fun _ _ _ h => h) (Or.inl ⟨by rfl, ?_⟩) ?_ ?_
         rotate_left
         ·intro w'
          go_simp
          with_reducible rfl
         rotate_left
         ·simp only [Act.put, List.setIfInBounds_toArray, List.set_cons_zero, List.set_cons_succ, i64_w, i32_w]
          rfl
         refine pure_ (i := 8) (N := some 31) (v := ?_) (a' := ?_) #[true, true, true, true, true, true, true, true, true, true, false, false] rfl rfl (any_of HT_.out (by kernel_rfl)) (fun _ _ _ h => h) (Or.inl ⟨by rfl, ?_⟩) ?_ ?_
         rotate_left
         ·intro w'
          go_simp
          with_reducible rfl
         rotate_left
         ·simp only [Act.put, List.setIfInBounds_toArray, List.set_cons_zero, List.set_cons_succ, i64_w, i32_w]
          rfl
         exact norm_ Z18 (hCont (v408, gb411) _ ⟨hHeld, Z33, Z21, Z63, Z64, Z65, GW411.out, GE411.out, NB400_411.out, NB411_400.out, NB401_411.out, NB411_401.out, Z153, Z143⟩)
       rintro ⟨v408, gb411⟩ w18 ⟨hS_, h0_, h1_, h2_, h3_, h4_, h5_, h6_, h7_, h8_, h9_, h10_, h11_, h12_⟩
       have n0_ : Aside0 (Kd.R k80 80 w18 w0.heap.size (fun k_ => (P0_0_ k_ ∨ w.heap.size ≤ k_)) v408 t407) := ⟨h0_⟩
       have n1_ : Aside0 (Kd.R Kd.string 9 w18 w0.heap.size (fun k_ => (P0_0_ k_ ∨ w.heap.size ≤ k_)) (.slice (some ad406) t402.length co13) t402) := ⟨h1_⟩
       have n2_ : Aside0 (w18.heap[gb400]? = some (.cells #[.slice Ao14 x401000_1.length co14] 61 (0, 0))) := ⟨h2_⟩
       have n3_ : Aside0 (w18.heap[gb401]? = some (.cells #[.slice none 0 0] 61 (0, 0))) := ⟨h3_⟩
       have n4_ : Aside0 (w18.heap[gb411]? = some (.cells #[.slice none 0 0] 61 (0, 0))) := ⟨h4_⟩
       have n5_ : Aside0 (w.heap.size ≤ gb411) := ⟨h5_⟩
       have n6_ : Aside0 (w0.heap.size ≤ gb411) := ⟨h6_⟩
       have n7_ : Aside0 (gb400 ≠ gb411) := ⟨h7_⟩
       have n8_ : Aside0 (gb411 ≠ gb400) := ⟨h8_⟩
       have n9_ : Aside0 (gb401 ≠ gb411) := ⟨h9_⟩
       have n10_ : Aside0 (gb411 ≠ gb401) := ⟨h10_⟩
       have n11_ : Aside0 (Kept w w18 (fun k_ => P0_0_ k_)) := ⟨h11_⟩
       have n12_ : Aside0 (Below w0.heap.size w0 w18) := ⟨h12_⟩
       clear HO_6
       clear HO_401000
       clear BK400
       clear BK401
       clear HK
       clear HB
       clear h0_ h1_ h2_ h3_ h4_ h5_ h6_ h7_ h8_ h9_ h10_ h11_ h12_
       have HO409 := n0_
       have HO_6 := n1_
       have BK400 := n2_
       have BK401 := n3_
       have BK411 := n4_
       have GW411 := n5_
       have GE411 := n6_
       have NB400_411 := n7_
       have NB411_400 := n8_
       have NB401_411 := n9_
       have NB411_401 := n10_
       have HK := n11_
       have HB := n12_
       clear n0_ n1_ n2_ n3_ n4_ n5_ n6_ n7_ n8_ n9_ n10_ n11_ n12_
       have hHeld : w18.cell? ⟨gb400, 0, none⟩ = some (.slice Ao14 x401000_1.length co14) ∧ w18.cell? (ad406.add (x9_1).toNat) = some (.string (rdOf ByteArray.empty t402 x9_1)) := hS_
       obtain ⟨Ao19, co19, eo19⟩ := Kd.R_slice HO409.out
       (first | subst eo19 | (injection eo19 with f1_ f2_ f3_; have f4_ := f1_.symm; have f5_ := f3_.symm; clear f1_ f2_ f3_; subst f4_; subst f5_))
       refine norm_ (a' := ?_) ?_ ?_
       rotate_left
       ·simp only [putAll, Act.put, List.setIfInBounds_toArray, List.set_cons_zero, List.set_cons_succ]
        rfl
       refine one_ (i := 10) (N := none) #[true, true, true, true, true, true, true, true, true, true, true, false] rfl rfl (one_of HT_.out (by kernel_rfl)) (by decide) (fun K hK => ?_)
       have hs20 : w18.cell? ⟨gb411, 0, none⟩ = some (.slice none 0 0) := (blk_cell BK411.out 0).trans rfl
       have hfs20 := blk_frozen BK411.out 0
       have hns20_0 := NB400_411.out
       have hns20_1 := NB401_411.out
       have hms20_0 := NB411_400.out
       have hms20_1 := NB411_401.out
       refine skip_ (w1 := ?_) (by rfl) rfl ?_ ?_
       rotate_left
       ·go_simp
        rfl
       refine hK.out _ _ ⟨((cell_far (p := ⟨gb411, _, none⟩) NB400_411.out _).trans (hHeld.1)), ((cell_far (p := ⟨gb411, _, none⟩) (by first | exact Kd.own_blk (Kd.R_ne HO_6.out BK411.out (by decide)) | (rw [add_block]; exact Kd.own_blk (Kd.R_ne HO_6.out BK411.out (by decide))) | (show (Addr.add _ _).block ≠ _; rw [add_block]; exact Kd.own_blk (Kd.R_ne HO_6.out BK411.out (by decide))) | (dsimp only; exact Kd.own_blk (Kd.R_ne HO_6.out BK411.out (by decide)))) _).trans (hHeld.2))⟩ (fun hHeld => ?_)
       clear hK K
       refine pure_ (i := 11) (N := some 11) (v := ?_) (a' := ?_) #[true, true, true, true, true, true, true, true, true, true, true, true] rfl rfl (any_of HT_.out (by kernel_rfl)) (fun _ _ _ h => h) (Or.inl ⟨by rfl, ?_⟩) ?_ ?_
       rotate_left
       ·intro w'
        go_simp
        with_reducible rfl
       rotate_left
       ·simp only [Act.put, List.setIfInBounds_toArray, List.set_cons_zero, List.set_cons_succ, i64_w, i32_w]
        rfl
       refine done_ (done_of HT_.out (by kernel_rfl)) ?_
       have hnb21 := NB411_400.out
       have hnc21 := NB400_411.out
       have hnb22 := NB411_401.out
       have hnc22 := NB401_411.out
       have hcz23_0 : w18.cell? ⟨gb411, 0, none⟩ = some (.slice none 0 0) := (blk_cell BK411.out 0).trans rfl
       have hfz23_0 := blk_frozen BK411.out 0
       have hnb24 := NB400_401.out
       have hnc24 := NB401_400.out
       have hcz25_0 : w18.cell? ⟨gb400, 0, none⟩ = some (.slice Ao14 x401000_1.length co14) := (blk_cell BK400.out 0).trans rfl
       have hfz25_0 := blk_frozen BK400.out 0
       try go_wp2
       go_roundg k1
       case measure => have := HK1.out; omega
       case rel => exact ⟨((x8_1 ++ t410) ++ (⟨#[59]⟩ : ByteArray)), (wrap64 (x9_1 + 1)), (t407), (.slice Ao19 t407.length co19), Z0, Z0, H', ⟨by have := HK1.out; omega⟩, ⟨by (with_reducible repeat (first | apply Kd.R_alloc | apply Kd.R_drewN | apply Kd.R_drew)); exact Kd.R_mono (Kd.R_far (p := ⟨gb400, 0, none⟩) (Kd.R_far (p := ⟨gb411, 0, none⟩) (Kd.R_types (Kd.R_types HO_6.out BK411.out (by decide)) BK400.out (by decide)) (fun _ hk => hk.1.2) (.slice Ao19 t407.length co19)) (fun _ hk => hk.2) (.slice Ao19 t407.length co19)) (fun _ hk => hk.1.1)⟩, ⟨by (with_reducible repeat (first | apply Kd.R_alloc | apply Kd.R_drewN | apply Kd.R_drew)); exact Kd.R_mono (Kd.R_far (p := ⟨gb400, 0, none⟩) (Kd.R_far (p := ⟨gb411, 0, none⟩) (Kd.R_types (Kd.R_types HO409.out BK411.out (by decide)) BK400.out (by decide)) (fun _ hk => hk.1.2) (.slice Ao19 t407.length co19)) (fun _ hk => hk.2) (.slice Ao19 t407.length co19)) (fun _ hk => hk.1.1)⟩, ⟨by (with_reducible repeat (first | refine blk_drewN ?_ _ | refine blk_drew ?_ | refine blk_alloc ?_ _)); refine blk_put (cs := #[.slice Ao14 x401000_1.length co14]) ?_ 0 _ rfl; (with_reducible repeat (first | refine blk_drewN ?_ _ | refine blk_drew ?_ | refine blk_alloc ?_ _)); refine blk_far ?_ NB400_411.out _; (with_reducible repeat (first | refine blk_drewN ?_ _ | refine blk_drew ?_ | refine blk_alloc ?_ _)); exact BK400.out⟩, ⟨by (with_reducible repeat (first | refine blk_drewN ?_ _ | refine blk_drew ?_ | refine blk_alloc ?_ _)); refine blk_far ?_ NB401_400.out _; (with_reducible repeat (first | refine blk_drewN ?_ _ | refine blk_drew ?_ | refine blk_alloc ?_ _)); refine blk_far ?_ NB401_411.out _; (with_reducible repeat (first | refine blk_drewN ?_ _ | refine blk_drew ?_ | refine blk_alloc ?_ _)); exact BK401.out⟩, ⟨by repeat (first | (with_reducible first | exact HK.out | apply Kept.alloc | apply Kept.drewN | apply Kept.drew | refine Kept.setCell ?_ (.inr GW400.out) _ | refine Kept.setCell ?_ (.inr GW401.out) _ | refine Kept.setCell ?_ (.inr GW411.out) _) | exact HK.out)⟩, ⟨by repeat (first | (with_reducible first | exact HB.out | apply below_alloc | apply pw_below_drewN | apply below_drew1 | refine below_set ?_ GE400.out | refine below_set ?_ GE401.out | refine below_set ?_ GE411.out) | exact HB.out)⟩⟩
      ·rw [if_neg c12] at H
       exact absurd H (by simp)
     ·rw [if_neg c11] at H
      exact absurd H (by simp)
    ·rw [if_neg c9] at H
     exact absurd H (by simp)
   ·rw [if_neg c8] at H
    have c8b0 : decide (x9_1 < (t402.length : Int)) = false := decide_eq_false c8
    clear c8
    simp only [Option.some.injEq, Prod.mk.injEq] at H
    obtain ⟨rfl, rfl⟩ := H
    obtain ⟨Ao26, co26, eo26⟩ := Kd.R_slice HO_6.out
    subst eo26
    have hnb27 := NB400_401.out
    have hnc27 := NB401_400.out
    have hcz28_0 : wr.cell? ⟨gb400, 0, none⟩ = some (u401000) := (blk_cell BK400.out 0).trans rfl
    have hfz28_0 := blk_frozen BK400.out 0
    obtain ⟨Ao29, co29, eo29⟩ := Kd.R_slice HO_401000.out
    subst eo29
    have hcz30_0 : wr.cell? ⟨gb401, 0, none⟩ = some (.slice none 0 0) := (blk_cell BK401.out 0).trans rfl
    have hfz30_0 := blk_frozen BK401.out 0
    go_wp2
    refine bodyPost_ret (results_ct rfl _ _ gb401 61 #[.slice Ao29 x401000_1.length co29] (0, 0) _ rfl (by (with_reducible repeat (first | refine blk_drewN ?_ _ | refine blk_drew ?_ | refine blk_alloc ?_ _)); refine blk_put (cs := #[.slice none 0 0]) ?_ 0 _ rfl; (with_reducible repeat (first | refine blk_drewN ?_ _ | refine blk_drew ?_ | refine blk_alloc ?_ _)); exact BK401.out) Try.underlying61 rfl (by kernel_rfl)) rfl ?_
    exact ⟨_, by first | rfl | (simp [errW_none, errW_some] <;> rfl) | (simp [*, errW_none, errW_some] <;> rfl), by (with_reducible repeat (first | apply Kd.R_alloc | apply Kd.R_drewN | apply Kd.R_drew)); exact Kd.R_mono (Kd.R_far (p := ⟨gb401, 0, none⟩) (Kd.R_types HO_401000.out BK401.out (by decide)) (fun _ hk => hk.2) (.slice Ao29 x401000_1.length co29)) (fun _ hk => hk.1), by repeat (first | (with_reducible first | exact HB.out | apply below_alloc | apply pw_below_drewN | apply below_drew1 | refine below_set ?_ GE400.out | refine below_set ?_ GE401.out) | exact HB.out), by repeat (first | (with_reducible first | exact HK.out | apply Kept.alloc | apply Kept.drewN | apply Kept.drew | refine Kept.setCell ?_ (.inr GW400.out) _ | refine Kept.setCell ?_ (.inr GW401.out) _) | exact HK.out)⟩

/-! ### spec_RwrStream: function 51 -/
def spec_RwrStream.j0 : Nat → ByteArray → Bool → List (S80) → Option ((List (S80)) × ByteArray)
 | 0, _, _, _ => none
 | k + 1, x1, x13, x413000 => if x13 = true then (some (([] : List (S80)), (⟨#[]⟩ : ByteArray))) else ((spec_l3Copy.f x413000).bind fun t416 => ((spec_l3Stream.f k t416 x1).bind fun bt419 => (some (bt419.1, bt419.2))))
def spec_RwrStream.f (k : Nat) (l0_0 : List (S80)) (a1 : ByteArray) : Option ((List (S80)) × ByteArray) := (spec_MapOk.f k l0_0).bind fun t414 => (if t414 = true then ((spec_StrOk.f k a1).bind fun t415 => (spec_RwrStream.j0 k a1 (!t415) l0_0)) else (spec_RwrStream.j0 k a1 true l0_0))
theorem spec_RwrStream.mono_l : ∀ k, (∀ y0 y1 y2, LeO (spec_RwrStream.j0 k y0 y1 y2) (spec_RwrStream.j0 (k + 1) y0 y1 y2))
 | 0 => fun _ _ _ r h => by simp [spec_RwrStream.j0] at h
 | k + 1 => by
  have ih0 := spec_RwrStream.mono_l k
  ·intro y0 y1 y2
   unfold spec_RwrStream.j0
   repeat' first
   | (with_reducible exact ih0 _ _ _)
   | (with_reducible exact spec_MapOk.mono _ _)
   | (with_reducible exact spec_StrOk.mono _ _)
   | (with_reducible exact spec_l3Stream.mono _ _ _)
   | (with_reducible exact LeO.refl _)
   | (with_reducible exact LeO.none _)
   | (with_reducible refine LeO.ite ?_ ?_)
   | (with_reducible refine LeO.bind ?_ (fun _ => ?_))
   | exact ih0 _ _ _
   | exact spec_MapOk.mono _ _
   | exact spec_StrOk.mono _ _
   | exact spec_l3Stream.mono _ _ _
   | exact LeO.none _
   | refine LeO.ite ?_ ?_
   | refine LeO.bind ?_ (fun _ => ?_)
theorem spec_RwrStream.mono : ∀ a0 a1 k, LeO (spec_RwrStream.f k a0 a1) (spec_RwrStream.f (k + 1) a0 a1) := by
 intro a0 a1 k
 have ih0 := spec_RwrStream.mono_l k
 unfold spec_RwrStream.f
 repeat' first
   | (with_reducible exact ih0 _ _ _)
   | (with_reducible exact spec_MapOk.mono _ _)
   | (with_reducible exact spec_StrOk.mono _ _)
   | (with_reducible exact spec_l3Stream.mono _ _ _)
   | (with_reducible exact LeO.refl _)
   | (with_reducible exact LeO.none _)
   | (with_reducible refine LeO.ite ?_ ?_)
   | (with_reducible refine LeO.bind ?_ (fun _ => ?_))
   | exact ih0 _ _ _
   | exact spec_MapOk.mono _ _
   | exact spec_StrOk.mono _ _
   | exact spec_l3Stream.mono _ _ _
   | exact LeO.none _
   | refine LeO.ite ?_ ?_
   | refine LeO.bind ?_ (fun _ => ?_)
set_option maxHeartbeats 8000000 in
set_option maxRecDepth 100000 in
theorem spec_RwrStream.calls (k : Nat) (A0_0 : Option Addr) (c0_0 : Nat) (l0_0 : List (S80)) (a1 : ByteArray) (r1 : List (S80)) (r2 : ByteArray) (w : World) (hr0_0 : Kd.C k80 w A0_0 l0_0.length l0_0) (hc0_0 : l0_0.length ≤ c0_0) (h : spec_RwrStream.f k l0_0 a1 = some (r1, r2)) :
  Calls Try.prog 51 #[.agg #[.slice A0_0 l0_0.length c0_0], .string a1] w fun e w' => ∃ v0_ : Value, e = .returned (.tuple #[.agg #[v0_], .string r2]) ∧ Kd.R k80 80 w' w.heap.size (fun _ => True) v0_ r1 ∧ Below w.heap.size w w' := by
 have hu61 := Try.underlying61
 have HR0_0 := Aside0.mk hr0_0
 have HC0_0 := Aside0.mk hc0_0
 clear hr0_0 hc0_0
 have HB := Aside0.mk (Below.refl w.heap.size w)
 have H : ((spec_MapOk.f k l0_0).bind fun t414 => (if t414 = true then ((spec_StrOk.f k a1).bind fun t415 => (spec_RwrStream.j0 k a1 (!t415) l0_0)) else (spec_RwrStream.j0 k a1 true l0_0))) = some (r1, r2) := h
 clear h
 have HC3 := Aside0.mk H
 clear H
 go_enter Try.func51, Try.ntmps51
 go_upto_region 1 with (first | ((with_reducible refine gate_dst (N := 2) rfl ?_); refine box_event ?hg (N := 2) ?hd (cs := #[.slice A0_0 l0_0.length c0_0]) (t := 61) ?hr ?_; (case hd => rfl); (case hg => rfl); (case hr => first | (go_simp; done) | (go_simp; rfl)); intro gb412 hg w4 hbox hb; have n0_ := Aside0.mk (below_step Z71 hb); have n1_ := Aside0.mk (hbox); have n2_ := Aside0.mk ((Z189 : w.heap.size ≤ gb412)); have n3_ := Aside0.mk ((Z189 : w.heap.size ≤ gb412)); clear HB; have HB := n0_; have BK412 := n1_; have GW412 := n2_; have GE412 := n3_; clear n0_ n1_ n2_ n3_; clear hb hbox hg) | ((with_reducible refine gate_dst (N := 4) rfl ?_); refine box_event ?hg (N := 4) ?hd (cs := #[.slice none 0 0]) (t := 61) ?hr ?_; (case hd => rfl); (case hg => rfl); (case hr => first | (go_simp; done) | (go_simp; rfl)); intro gb413 hg w5 hbox hb; have n0_ := Aside0.mk (blk_below (g := gb412) (o := .cells #[.slice A0_0 l0_0.length c0_0] 61 (0, 0)) Z66 hb); have n1_ := Aside0.mk (below_step Z97 hb); have n2_ := Aside0.mk (hbox); have n3_ := Aside0.mk ((by rw [hg]; exact (below_size Z97) : w.heap.size ≤ gb413)); have n4_ := Aside0.mk ((by rw [hg]; exact (below_size Z97) : w.heap.size ≤ gb413)); have n5_ := Aside0.mk ((by rw [hg]; exact Nat.ne_of_lt (blk_lt (g := gb412) (o := .cells #[.slice A0_0 l0_0.length c0_0] 61 (0, 0)) Z66) : gb412 ≠ gb413)); have n6_ := Aside0.mk ((by rw [hg]; exact Nat.ne_of_gt (blk_lt (g := gb412) (o := .cells #[.slice A0_0 l0_0.length c0_0] 61 (0, 0)) Z66) : gb413 ≠ gb412)); clear BK412; clear HB; have BK412 := n0_; have HB := n1_; have BK413 := n2_; have GW413 := n3_; have GE413 := n4_; have NB412_413 := n5_; have NB413_412 := n6_; clear n0_ n1_ n2_ n3_ n4_ n5_ n6_; clear hb hbox hg))
 (try simp only [Act.put, List.setIfInBounds_toArray, List.set_cons_zero, List.set_cons_succ])
 go_cut [13] (fun v13 wc => ∃ (kq : Nat) (x13_2 : Bool), v13 = .bool x13_2 ∧ Aside0 (spec_RwrStream.j0 kq a1 x13_2 l0_0 = some (r1, r2)) ∧ Aside0 (kq ≤ k) ∧ Aside0 (wc.heap[gb412]? = some (.cells #[(.slice A0_0 l0_0.length c0_0)] 61 (0, 0))) ∧ Aside0 (wc.heap[gb413]? = some (.cells #[(.slice none 0 0)] 61 (0, 0))) ∧ Aside0 (Below w.heap.size w wc))
 case first =>
  have H := HC3.out
  clear HC3
  replace H := Option.bind_eq_some_iff.mp H
  obtain ⟨t414, A60, H⟩ := H
  replace H : (if t414 = true then ((spec_StrOk.f k a1).bind fun t415 => (spec_RwrStream.j0 k a1 (!t415) l0_0)) else (spec_RwrStream.j0 k a1 true l0_0)) = some (r1, r2) := H
  have A6 := Aside0.mk A60
  clear A60
  by_cases c7 : t414 = true
  ·subst c7
   have H1 : ((spec_StrOk.f k a1).bind fun t415 => (spec_RwrStream.j0 k a1 (!t415) l0_0)) = some (r1, r2) := by rw [if_pos rfl] at H; exact H
   clear H
   have H := H1
   clear H1
   replace H := Option.bind_eq_some_iff.mp H
   obtain ⟨t415, A80, H⟩ := H
   replace H : (spec_RwrStream.j0 k a1 (!t415) l0_0) = some (r1, r2) := H
   have A8 := Aside0.mk A80
   clear A80
   have H' := Aside0.mk H
   clear H
   have hnb9 := NB412_413.out
   have hnc9 := NB413_412.out
   have hcz10_0 : w5.cell? ⟨gb412, 0, none⟩ = some (.slice A0_0 l0_0.length c0_0) := (blk_cell BK412.out 0).trans rfl
   have hfz10_0 := blk_frozen BK412.out 0
   go_wp2_with (first | ((with_reducible refine gate_callee (f := 69) rfl ?_); refine goesL_ (some 7) rfl rfl Try.func69 (by kernel_rfl) rfl #[.agg #[.slice A0_0 l0_0.length c0_0]] rfl Z75 ?_; (with_reducible refine (spec_MapOk.calls k _ _ l0_0 true _ ?side1 ?side2 A6.out).mono ?_); (case side1 => exact Z106); (case side2 => exact HC0_0.out); rintro e w11 ⟨rfl, hb⟩; refine ⟨_, rfl, ?_⟩; have n0_ := Aside0.mk (blk_below (g := gb412) (o := .cells #[.slice A0_0 l0_0.length c0_0] 61 (0, 0)) Z66 hb); have n1_ := Aside0.mk (blk_below (g := gb413) (o := .cells #[.slice none 0 0] 61 (0, 0)) Z67 hb); have n2_ := Aside0.mk (below_step Z125 hb); clear BK412; clear BK413; clear HB; have BK412 := n0_; have BK413 := n1_; have HB := n2_; clear n0_ n1_ n2_; (try clear hb)) | (go_at_call 18; (with_reducible refine (spec_StrOk.calls k a1 t415 _ A8.out).mono ?_); rintro e w12 ⟨rfl, hb⟩; have n0_ := Aside0.mk (blk_below (g := gb412) (o := .cells #[.slice A0_0 l0_0.length c0_0] 61 (0, 0)) Z66 hb); have n1_ := Aside0.mk (blk_below (g := gb413) (o := .cells #[.slice none 0 0] 61 (0, 0)) Z67 hb); have n2_ := Aside0.mk (below_step Z125 hb); clear BK412; clear BK413; clear HB; have BK412 := n0_; have BK413 := n1_; have HB := n2_; clear n0_ n1_ n2_; (try clear hb)))
   go_meet
   case rel => exact ⟨_, (!t415), Z0, H', ⟨by first | omega | exact Nat.le_refl _⟩, ⟨by (with_reducible repeat (first | refine blk_drewN ?_ _ | refine blk_drew ?_ | refine blk_alloc ?_ _)); exact BK412.out⟩, ⟨by (with_reducible repeat (first | refine blk_drewN ?_ _ | refine blk_drew ?_ | refine blk_alloc ?_ _)); exact BK413.out⟩, ⟨by repeat (first | (with_reducible first | exact HB.out | apply below_alloc | apply pw_below_drewN | apply below_drew1 | refine below_set ?_ GE412.out | refine below_set ?_ GE413.out) | exact HB.out)⟩⟩
  ·replace c7 := Bool.eq_false_iff.mpr c7
   subst c7
   have H1 : (spec_RwrStream.j0 k a1 true l0_0) = some (r1, r2) := by rw [if_neg (show ¬ (false = true) by decide)] at H; exact H
   clear H
   have H := H1
   clear H1
   have H' := Aside0.mk H
   clear H
   have hnb13 := NB412_413.out
   have hnc13 := NB413_412.out
   have hcz14_0 : w5.cell? ⟨gb412, 0, none⟩ = some (.slice A0_0 l0_0.length c0_0) := (blk_cell BK412.out 0).trans rfl
   have hfz14_0 := blk_frozen BK412.out 0
   go_wp2_with (first | ((with_reducible refine gate_callee (f := 69) rfl ?_); refine goesL_ (some 7) rfl rfl Try.func69 (by kernel_rfl) rfl #[.agg #[.slice A0_0 l0_0.length c0_0]] rfl Z75 ?_; (with_reducible refine (spec_MapOk.calls k _ _ l0_0 false _ ?side1 ?side2 A6.out).mono ?_); (case side1 => exact Z106); (case side2 => exact HC0_0.out); rintro e w15 ⟨rfl, hb⟩; refine ⟨_, rfl, ?_⟩; have n0_ := Aside0.mk (blk_below (g := gb412) (o := .cells #[.slice A0_0 l0_0.length c0_0] 61 (0, 0)) Z66 hb); have n1_ := Aside0.mk (blk_below (g := gb413) (o := .cells #[.slice none 0 0] 61 (0, 0)) Z67 hb); have n2_ := Aside0.mk (below_step Z125 hb); clear BK412; clear BK413; clear HB; have BK412 := n0_; have BK413 := n1_; have HB := n2_; clear n0_ n1_ n2_; (try clear hb)))
   go_meet
   case rel => exact ⟨_, (true), Z0, H', ⟨by first | omega | exact Nat.le_refl _⟩, ⟨by (with_reducible repeat (first | refine blk_drewN ?_ _ | refine blk_drew ?_ | refine blk_alloc ?_ _)); exact BK412.out⟩, ⟨by (with_reducible repeat (first | refine blk_drewN ?_ _ | refine blk_drew ?_ | refine blk_alloc ?_ _)); exact BK413.out⟩, ⟨by repeat (first | (with_reducible first | exact HB.out | apply below_alloc | apply pw_below_drewN | apply below_drew1 | refine below_set ?_ GE412.out | refine below_set ?_ GE413.out) | exact HB.out)⟩⟩
 case rest =>
  clear HC3
  try clear c1
  try clear p2
  try clear c5
  try clear c6
  try clear c7
  try clear c9
  try clear c13
  try clear hcz10_0
  try clear hcz14_0
  try clear hfz10_0
  try clear hfz14_0
  obtain ⟨kq, x13_2, rfl, HA, HJ2, BK412, BK413, HB⟩ := hcut
  cases kq with
  | zero => exact absurd HA.out (by simp [spec_RwrStream.j0])
  | succ kj2 =>
   have H := HA.out
   clear HA
   simp only [spec_RwrStream.j0] at H
   by_cases c16 : x13_2 = true
   ·subst c16
    have H1 : (some (([] : List (S80)), (⟨#[]⟩ : ByteArray))) = some (r1, r2) := by rw [if_pos rfl] at H; exact H
    clear H
    have H := H1
    clear H1
    simp only [Option.some.injEq, Prod.mk.injEq] at H
    obtain ⟨rfl, rfl⟩ := H
    have hnb17 := NB413_412.out
    have hnc17 := NB412_413.out
    have hcz18_0 : wc.cell? ⟨gb413, 0, none⟩ = some (.slice none 0 0) := (blk_cell BK413.out 0).trans rfl
    have hfz18_0 := blk_frozen BK413.out 0
    go_wp2
    refine bodyPost_ret (results_ct rfl _ _ gb413 61 #[.slice none 0 0] (0, 0) _ rfl Z163 Try.underlying61 rfl (by kernel_rfl)) rfl ?_
    exact ⟨_, by first | rfl | (simp [errW_none, errW_some] <;> rfl) | (simp [*, errW_none, errW_some] <;> rfl), by first | exact Kd.R_nil _ _ _ _ _ | exact Kd.N_nil _ _ _ _ _ | exact Kd.V_nil _ _ _ _ _ | exact Kd.Q_nil _ _ _ _ _ | exact Kd.S_nil _ _ _ _ _, by repeat (first | (with_reducible first | exact HB.out | apply below_alloc | apply pw_below_drewN | apply below_drew1 | refine below_set ?_ GE412.out | refine below_set ?_ GE413.out) | exact HB.out)⟩
   ·replace c16 := Bool.eq_false_iff.mpr c16
    subst c16
    have H1 : ((spec_l3Copy.f l0_0).bind fun t416 => ((spec_l3Stream.f kj2 t416 a1).bind fun bt419 => (some (bt419.1, bt419.2)))) = some (r1, r2) := by rw [if_neg (show ¬ (false = true) by decide)] at H; exact H
    clear H
    have H := H1
    clear H1
    replace H := Option.bind_eq_some_iff.mp H
    obtain ⟨t416, A190, H⟩ := H
    replace H : ((spec_l3Stream.f kj2 t416 a1).bind fun bt419 => (some (bt419.1, bt419.2))) = some (r1, r2) := H
    have A19 := Aside0.mk A190
    clear A190
    replace H := Option.bind_eq_some_iff.mp H
    obtain ⟨⟨t419, t422⟩, A200, H⟩ := H
    replace H : (some (t419, t422)) = some (r1, r2) := H
    have A20 := Aside0.mk A200
    clear A200
    simp only [Option.some.injEq, Prod.mk.injEq] at H
    obtain ⟨rfl, rfl⟩ := H
    have hnb21 := NB412_413.out
    have hnc21 := NB413_412.out
    have hcz22_0 : wc.cell? ⟨gb412, 0, none⟩ = some (.slice A0_0 l0_0.length c0_0) := (blk_cell BK412.out 0).trans rfl
    have hfz22_0 := blk_frozen BK412.out 0
    go_wp2_with (first | ((with_reducible refine gate_callee (f := 71) rfl ?_); refine goesL_ (some 16) rfl rfl Try.func71 (by kernel_rfl) rfl #[.agg #[.slice A0_0 l0_0.length c0_0]] rfl Z75 ?_; (with_reducible refine (spec_l3Copy.calls _ _ l0_0 t416 _ ?side1 ?side2 A19.out).mono ?_); (case side1 => exact Z106); (case side2 => exact HC0_0.out); rintro e w23 ⟨v417, rfl, ho0, hb⟩; refine ⟨_, rfl, ?_⟩; have n0_ := Aside0.mk (Kd.R_lower ho0 (below_size Z125)); have n1_ := Aside0.mk (blk_below (g := gb412) (o := .cells #[.slice A0_0 l0_0.length c0_0] 61 (0, 0)) Z66 hb); have n2_ := Aside0.mk (blk_below (g := gb413) (o := .cells #[.slice none 0 0] 61 (0, 0)) Z67 hb); have n3_ := Aside0.mk (below_step Z125 hb); clear BK412; clear BK413; clear HB; have HO418 := n0_; have BK412 := n1_; have BK413 := n2_; have HB := n3_; clear n0_ n1_ n2_ n3_; (try clear hb); (try clear ho0); obtain ⟨Ao24, co24, eo24⟩ := Kd.R_slice HO418.out; subst eo24) | ((with_reducible refine gate_callee (f := 70) rfl ?_); refine goesL_ (some 18) rfl rfl Try.func70 (by kernel_rfl) rfl #[.agg #[.slice Ao24 t416.length co24], .string a1] rfl Z75 ?_; (with_reducible refine (spec_l3Stream.calls kj2 (fun k_ => some k_ = (.slice Ao24 t416.length co24 : Value).ownBlock) (.slice Ao24 t416.length co24) t416 a1 t419 t422 w _ ?side1 ?side2 A20.out).mono ?_); (case side1 => repeat (first | (with_reducible first | exact HB.out | apply below_alloc | apply pw_below_drewN | apply below_drew1 | refine below_set ?_ GE412.out | refine below_set ?_ GE413.out) | exact HB.out)); (case side2 => exact Kd.R_tight rfl HO418.out); rintro e w25 ⟨v420, rfl, ho0, hb, hkp⟩; refine ⟨_, rfl, ?_⟩; have n0_ := Aside0.mk (blk_kept Z66 hkp (fun hs_ => (fun e_ => (Kd.R_ne HO418.out BK412.out (by decide)) e_) hs_)); have n1_ := Aside0.mk (blk_kept Z67 hkp (fun hs_ => (fun e_ => (Kd.R_ne HO418.out BK413.out (by decide)) e_) hs_)); have n2_ := Aside0.mk (Kd.R_mono (ok' := fun k_ => True) ho0 (fun k_ hk_ => trivial)); have n3_ := Aside0.mk (hb); clear BK412; clear BK413; clear HB; clear HO418; have BK412 := n0_; have BK413 := n1_; have HO421 := n2_; have HB := n3_; clear n0_ n1_ n2_ n3_; (try clear hb); (try clear hkp); (try clear ho0); obtain ⟨Ao26, co26, eo26⟩ := Kd.R_slice HO421.out; subst eo26; have hcz27_0 : w25.cell? ⟨gb413, 0, none⟩ = some (.slice none 0 0) := (blk_cell BK413.out 0).trans rfl; have hfz27_0 := blk_frozen BK413.out 0))
    refine bodyPost_ret (results_ct rfl _ _ gb413 61 #[.slice Ao26 t419.length co26] (0, 0) _ rfl Z163 Try.underlying61 rfl (by kernel_rfl)) rfl ?_
    exact ⟨_, by first | rfl | (simp [errW_none, errW_some] <;> rfl) | (simp [*, errW_none, errW_some] <;> rfl), by (with_reducible repeat (first | apply Kd.R_alloc | apply Kd.R_drewN | apply Kd.R_drew)); exact Kd.R_mono (Kd.R_far (p := ⟨gb413, 0, none⟩) (Kd.R_types HO421.out BK413.out (by decide)) (fun _ hk => hk.2) (.slice Ao26 t419.length co26)) (fun _ hk => trivial), by repeat (first | (with_reducible first | exact HB.out | apply below_alloc | apply pw_below_drewN | apply below_drew1 | refine below_set ?_ GE412.out | refine below_set ?_ GE413.out) | exact HB.out)⟩

/-! ### spec_DrawPosPairs: function 32 -/
def spec_DrawPosPairs.f (k : Nat) (l0 : List Int) : Option (ByteArray × ByteArray) := (spec_l20Open.f l0).bind fun bt423 => ((spec_l20Table.f k bt423.1 bt423.2 99999).bind fun bt426 => ((spec_l20StreamOr.f k bt423.1 bt426.2 9).bind fun bt431 => ((spec_l20Rd_pick.f k bt423.1 bt431.2 3).bind fun bt433 => (if bt433.1 = 0 then ((spec_l20Stream.f k bt423.1 bt433.2).bind fun bt435 => (some (bt431.1, bt435.1))) else ((spec_RwrStream.f k bt426.1 bt431.1).bind fun bt437 => (some (bt431.1, bt437.2)))))))
theorem spec_DrawPosPairs.mono : ∀ a0 k, LeO (spec_DrawPosPairs.f k a0) (spec_DrawPosPairs.f (k + 1) a0) := by
 intro a0 k
 unfold spec_DrawPosPairs.f
 repeat' first
   | (with_reducible exact spec_RwrStream.mono _ _ _)
   | (with_reducible exact spec_l20Rd_pick.mono _ _ _ _)
   | (with_reducible exact spec_l20Stream.mono _ _ _)
   | (with_reducible exact spec_l20StreamOr.mono _ _ _ _)
   | (with_reducible exact spec_l20Table.mono _ _ _ _)
   | (with_reducible exact LeO.refl _)
   | (with_reducible exact LeO.none _)
   | (with_reducible refine LeO.ite ?_ ?_)
   | (with_reducible refine LeO.bind ?_ (fun _ => ?_))
   | exact spec_RwrStream.mono _ _ _
   | exact spec_l20Rd_pick.mono _ _ _ _
   | exact spec_l20Stream.mono _ _ _
   | exact spec_l20StreamOr.mono _ _ _ _
   | exact spec_l20Table.mono _ _ _ _
   | exact LeO.none _
   | refine LeO.ite ?_ ?_
   | refine LeO.bind ?_ (fun _ => ?_)
set_option maxHeartbeats 8000000 in
set_option maxRecDepth 100000 in
theorem spec_DrawPosPairs.calls (k : Nat) (A0 : Option Addr) (c0 : Nat) (l0 : List Int) (r1 : ByteArray) (r2 : ByteArray) (w : World) (hr0 : Kd.C (Kd.int .u8) w A0 l0.length l0) (hc0 : l0.length ≤ c0) (h : spec_DrawPosPairs.f k l0 = some (r1, r2)) :
  Calls Try.prog 32 #[.slice A0 l0.length c0] w fun e w' => e = .returned (.tuple #[.string r1, .string r2]) ∧ Below w.heap.size w w' := by
 have hu61 := Try.underlying61
 have HR0 := Aside0.mk hr0
 have HC0 := Aside0.mk hc0
 clear hr0 hc0
 have HB := Aside0.mk (Below.refl w.heap.size w)
 have H : ((spec_l20Open.f l0).bind fun bt423 => ((spec_l20Table.f k bt423.1 bt423.2 99999).bind fun bt426 => ((spec_l20StreamOr.f k bt423.1 bt426.2 9).bind fun bt431 => ((spec_l20Rd_pick.f k bt423.1 bt431.2 3).bind fun bt433 => (if bt433.1 = 0 then ((spec_l20Stream.f k bt423.1 bt433.2).bind fun bt435 => (some (bt431.1, bt435.1))) else ((spec_RwrStream.f k bt426.1 bt431.1).bind fun bt437 => (some (bt431.1, bt437.2)))))))) = some (r1, r2) := h
 clear h
 replace H := Option.bind_eq_some_iff.mp H
 obtain ⟨⟨t423, t424⟩, A20, H⟩ := H
 replace H : ((spec_l20Table.f k t423 t424 99999).bind fun bt426 => ((spec_l20StreamOr.f k t423 bt426.2 9).bind fun bt431 => ((spec_l20Rd_pick.f k t423 bt431.2 3).bind fun bt433 => (if bt433.1 = 0 then ((spec_l20Stream.f k t423 bt433.2).bind fun bt435 => (some (bt431.1, bt435.1))) else ((spec_RwrStream.f k bt426.1 bt431.1).bind fun bt437 => (some (bt431.1, bt437.2))))))) = some (r1, r2) := H
 have A2 := Aside0.mk A20
 clear A20
 replace H := Option.bind_eq_some_iff.mp H
 obtain ⟨⟨t426, t429⟩, A30, H⟩ := H
 replace H : ((spec_l20StreamOr.f k t423 t429 9).bind fun bt431 => ((spec_l20Rd_pick.f k t423 bt431.2 3).bind fun bt433 => (if bt433.1 = 0 then ((spec_l20Stream.f k t423 bt433.2).bind fun bt435 => (some (bt431.1, bt435.1))) else ((spec_RwrStream.f k t426 bt431.1).bind fun bt437 => (some (bt431.1, bt437.2)))))) = some (r1, r2) := H
 have A3 := Aside0.mk A30
 clear A30
 replace H := Option.bind_eq_some_iff.mp H
 obtain ⟨⟨t431, t432⟩, A40, H⟩ := H
 replace H : ((spec_l20Rd_pick.f k t423 t432 3).bind fun bt433 => (if bt433.1 = 0 then ((spec_l20Stream.f k t423 bt433.2).bind fun bt435 => (some (t431, bt435.1))) else ((spec_RwrStream.f k t426 t431).bind fun bt437 => (some (t431, bt437.2))))) = some (r1, r2) := H
 have A4 := Aside0.mk A40
 clear A40
 replace H := Option.bind_eq_some_iff.mp H
 obtain ⟨⟨t433, t434⟩, A50, H⟩ := H
 replace H : (if t433 = 0 then ((spec_l20Stream.f k t423 t434).bind fun bt435 => (some (t431, bt435.1))) else ((spec_RwrStream.f k t426 t431).bind fun bt437 => (some (t431, bt437.2)))) = some (r1, r2) := H
 have A5 := Aside0.mk A50
 clear A50
 by_cases c6 : t433 = 0
 ·rw [if_pos c6] at H
  have c6b0 : (t433 == 0) = true := beq_iff_eq.mpr c6
  have c6b1 : (t433 != 0) = false := bne_eq_false_iff_eq.mpr c6
  clear c6
  replace H := Option.bind_eq_some_iff.mp H
  obtain ⟨⟨t435, t436⟩, A70, H⟩ := H
  replace H : (some (t431, t435)) = some (r1, r2) := H
  have A7 := Aside0.mk A70
  clear A70
  simp only [Option.some.injEq, Prod.mk.injEq] at H
  obtain ⟨rfl, rfl⟩ := H
  go_enter Try.func32, Try.ntmps32
  go_wp2_with (first | ((with_reducible refine gate_callee (f := 46) rfl ?_); refine goesL_ (some 10) rfl rfl Try.func46 (by kernel_rfl) rfl #[.slice A0 l0.length c0] rfl Z75 ?_; (with_reducible refine (spec_l20Open.calls _ _ l0 t423 t424 w _ ?side1 ?side2 ?side3 A2.out).mono ?_); (case side1 => exact Z70); (case side2 => exact HR0.out); (case side3 => exact HC0.out); rintro e w8 ⟨g425, rfl, hi, hb, hb2⟩; refine ⟨_, rfl, ?_⟩; have n0_ := Aside0.mk (hb); have n1_ := Aside0.mk (hi); clear HB; have HB := n0_; have HI425 := n1_; clear n0_ n1_; (try clear hb); (try clear hb2); (try clear hi)) | ((with_reducible refine gate_callee (f := 48) rfl ?_); refine goesL_ (some 12) rfl rfl Try.func48 (by kernel_rfl) rfl #[.pointer (some ⟨g425, 0, none⟩), .int .i64 99999] rfl Z75 ?_; (with_reducible refine (spec_l20Table.calls k g425 t423 t424 99999 t426 t429 w _ ?side1 ?side2 A3.out).mono ?_); (case side1 => exact Z81); (case side2 => exact Z107); rintro e w9 ⟨v427, rfl, ho0, hi, hb, hk⟩; refine ⟨_, rfl, ?_⟩; have n0_ := Aside0.mk (Kd.R_lower ho0 (below_size Z108)); have n1_ := Aside0.mk (hb); have n2_ := Aside0.mk (hi); clear HB; clear HI425; have HO428 := n0_; have HB := n1_; have HI425 := n2_; clear n0_ n1_ n2_; (try clear hb); (try clear hk); (try clear hi); (try clear ho0)) | ((with_reducible refine gate_dst (N := 5) rfl ?_); refine box_event ?hg (N := 5) ?hd (cs := #[.slice none 0 0]) (t := 61) ?hr ?_; (case hd => rfl); (case hg => rfl); (case hr => first | (go_simp; done) | (go_simp; rfl)); intro gb430 hg w10 hbox hb; have n0_ := Aside0.mk (Kd.R_below Z34 hb); have n1_ := Aside0.mk (IsS76.below Z82 hb); have n2_ := Aside0.mk (below_step Z108 hb); have n3_ := Aside0.mk (hbox); have n4_ := Aside0.mk ((by rw [hg]; exact (below_size Z108) : w.heap.size ≤ gb430)); have n5_ := Aside0.mk ((by rw [hg]; exact (below_size Z108) : w.heap.size ≤ gb430)); have n6_ := Aside0.mk ((Z144 : g425 ≠ gb430)); have n7_ := Aside0.mk ((Z145 : gb430 ≠ g425)); clear HO428; clear HI425; clear HB; have HO428 := n0_; have HI425 := n1_; have HB := n2_; have BK430 := n3_; have GW430 := n4_; have GE430 := n5_; have NB425_430 := n6_; have NB430_425 := n7_; clear n0_ n1_ n2_ n3_ n4_ n5_ n6_ n7_; clear hb hbox hg; obtain ⟨Ao11, co11, eo11⟩ := Kd.R_slice HO428.out; subst eo11; have hnb12 := NB430_425.out; have hnc12 := NB425_430.out; have hcz13_0 : w10.cell? ⟨gb430, 0, none⟩ = some (.slice none 0 0) := (blk_cell BK430.out 0).trans rfl; have hfz13_0 := blk_frozen BK430.out 0) | ((with_reducible refine gate_callee (f := 45) rfl ?_); refine goesL_ (some 14) rfl rfl Try.func45 (by kernel_rfl) rfl #[.pointer (some ⟨g425, 0, none⟩), .int .i64 9] rfl Z75 ?_; (with_reducible refine (spec_l20StreamOr.calls k g425 t423 t429 9 t431 t432 w _ ?side1 ?side2 A4.out).mono ?_); (case side1 => exact Z115); (case side2 => exact Z129); rintro e w14 ⟨rfl, hi, hb, hk⟩; refine ⟨_, rfl, ?_⟩; have n0_ := Aside0.mk (Kd.R_mono (Kd.R_keep (IsS76.apart (show IsS76 w _ g425 t423 t429 from by repeat (first | (with_reducible first | exact HI425.out | apply IsS76.alloc | apply IsS76.drewN | apply IsS76.drew | apply IsS76.set_1 | refine IsS76.far ?_ NB425_430.out _) | exact HI425.out)) (by (with_reducible repeat (first | apply Kd.R_alloc | apply Kd.R_drewN | apply Kd.R_drew)); exact (Kd.R_mono (Kd.R_far (p := ⟨gb430, 0, none⟩) (Kd.R_types HO428.out BK430.out (by decide)) (fun _ hk => hk.2) (.slice Ao11 t426.length co11)) (fun _ h_ => h_.1))) (by decide)) hk (fun _ h => h.2)) (fun _ h => h.1)); have n1_ := Aside0.mk (KeepBut.blk hk (g' := gb430) (o := .cells #[.slice Ao11 t426.length co11] 61 (0, 0)) Z164 NB430_425.out (by simp)); have n2_ := Aside0.mk (hb); have n3_ := Aside0.mk (hi); clear HO428; clear BK430; clear HB; clear HI425; have HO428 := n0_; have BK430 := n1_; have HB := n2_; have HI425 := n3_; clear n0_ n1_ n2_ n3_; (try clear hb); (try clear hk); (try clear hi)) | ((with_reducible refine gate_callee (f := 49) rfl ?_); refine goesL_ (some 16) rfl rfl Try.func49 (by kernel_rfl) rfl #[.pointer (some ⟨g425, 0, none⟩), .int .i64 3] rfl Z75 ?_; (with_reducible refine (spec_l20Rd_pick.calls k g425 t423 t432 3 t433 t434 w _ ?side1 ?side2 A5.out).mono ?_); (case side1 => exact Z115); (case side2 => exact Z129); rintro e w15 ⟨rfl, hi, hb, hk⟩; refine ⟨_, rfl, ?_⟩; have n0_ := Aside0.mk (Kd.R_mono (Kd.R_keep (IsS76.apart (show IsS76 w _ g425 t423 t432 from by repeat (first | (with_reducible first | exact HI425.out | apply IsS76.alloc | apply IsS76.drewN | apply IsS76.drew | apply IsS76.set_1 | refine IsS76.far ?_ NB425_430.out _) | exact HI425.out)) Z34 (by decide)) hk (fun _ h => h.2)) (fun _ h => h.1)); have n1_ := Aside0.mk (KeepBut.blk hk (g' := gb430) (o := .cells #[.slice Ao11 t426.length co11] 61 (0, 0)) Z68 NB430_425.out (by simp)); have n2_ := Aside0.mk (hb); have n3_ := Aside0.mk (hi); clear HO428; clear BK430; clear HB; clear HI425; have HO428 := n0_; have BK430 := n1_; have HB := n2_; have HI425 := n3_; clear n0_ n1_ n2_ n3_; (try clear hb); (try clear hk); (try clear hi)) | ((with_reducible refine gate_callee (f := 50) rfl ?_); refine goesL_ (some 20) rfl rfl Try.func50 (by kernel_rfl) rfl #[.pointer (some ⟨g425, 0, none⟩)] rfl Z75 ?_; (with_reducible refine (spec_l20Stream.calls k g425 t423 t434 t435 t436 w _ ?side1 ?side2 A7.out).mono ?_); (case side1 => exact Z115); (case side2 => exact Z129); rintro e w16 ⟨rfl, hi, hb, hk⟩; refine ⟨_, rfl, ?_⟩; have n0_ := Aside0.mk (Kd.R_mono (Kd.R_keep (IsS76.apart (show IsS76 w _ g425 t423 t434 from by repeat (first | (with_reducible first | exact HI425.out | apply IsS76.alloc | apply IsS76.drewN | apply IsS76.drew | apply IsS76.set_1 | refine IsS76.far ?_ NB425_430.out _) | exact HI425.out)) Z34 (by decide)) hk (fun _ h => h.2)) (fun _ h => h.1)); have n1_ := Aside0.mk (KeepBut.blk hk (g' := gb430) (o := .cells #[.slice Ao11 t426.length co11] 61 (0, 0)) Z68 NB430_425.out (by simp)); have n2_ := Aside0.mk (hb); have n3_ := Aside0.mk (hi); clear HO428; clear BK430; clear HB; clear HI425; have HO428 := n0_; have BK430 := n1_; have HB := n2_; have HI425 := n3_; clear n0_ n1_ n2_ n3_; (try clear hb); (try clear hk); (try clear hi)))
  go_ret2
  exact ⟨by first | rfl | (simp [errW_none, errW_some] <;> rfl) | (simp [*, errW_none, errW_some] <;> rfl), by repeat (first | (with_reducible first | exact HB.out | apply below_alloc | apply pw_below_drewN | apply below_drew1 | refine below_set ?_ (IsS76.ge HI425.out) | refine below_set ?_ GE430.out) | exact HB.out)⟩
 ·rw [if_neg c6] at H
  have c6b0 : (t433 == 0) = false := beq_eq_false_iff_ne.mpr c6
  have c6b1 : (t433 != 0) = true := bne_iff_ne.mpr c6
  replace H := Option.bind_eq_some_iff.mp H
  obtain ⟨⟨t437, t440⟩, A170, H⟩ := H
  replace H : (some (t431, t440)) = some (r1, r2) := H
  have A17 := Aside0.mk A170
  clear A170
  simp only [Option.some.injEq, Prod.mk.injEq] at H
  obtain ⟨rfl, rfl⟩ := H
  go_enter Try.func32, Try.ntmps32
  go_wp2_with (first | ((with_reducible refine gate_callee (f := 46) rfl ?_); refine goesL_ (some 10) rfl rfl Try.func46 (by kernel_rfl) rfl #[.slice A0 l0.length c0] rfl Z75 ?_; (with_reducible refine (spec_l20Open.calls _ _ l0 t423 t424 w _ ?side1 ?side2 ?side3 A2.out).mono ?_); (case side1 => exact Z70); (case side2 => exact HR0.out); (case side3 => exact HC0.out); rintro e w18 ⟨g425, rfl, hi, hb, hb2⟩; refine ⟨_, rfl, ?_⟩; have n0_ := Aside0.mk (hb); have n1_ := Aside0.mk (hi); clear HB; have HB := n0_; have HI425 := n1_; clear n0_ n1_; (try clear hb); (try clear hb2); (try clear hi)) | ((with_reducible refine gate_callee (f := 48) rfl ?_); refine goesL_ (some 12) rfl rfl Try.func48 (by kernel_rfl) rfl #[.pointer (some ⟨g425, 0, none⟩), .int .i64 99999] rfl Z75 ?_; (with_reducible refine (spec_l20Table.calls k g425 t423 t424 99999 t426 t429 w _ ?side1 ?side2 A3.out).mono ?_); (case side1 => exact Z81); (case side2 => exact Z107); rintro e w19 ⟨v427, rfl, ho0, hi, hb, hk⟩; refine ⟨_, rfl, ?_⟩; have n0_ := Aside0.mk (Kd.R_lower ho0 (below_size Z108)); have n1_ := Aside0.mk (hb); have n2_ := Aside0.mk (hi); clear HB; clear HI425; have HO428 := n0_; have HB := n1_; have HI425 := n2_; clear n0_ n1_ n2_; (try clear hb); (try clear hk); (try clear hi); (try clear ho0)) | ((with_reducible refine gate_dst (N := 5) rfl ?_); refine box_event ?hg (N := 5) ?hd (cs := #[.slice none 0 0]) (t := 61) ?hr ?_; (case hd => rfl); (case hg => rfl); (case hr => first | (go_simp; done) | (go_simp; rfl)); intro gb430 hg w20 hbox hb; have n0_ := Aside0.mk (Kd.R_below Z34 hb); have n1_ := Aside0.mk (IsS76.below Z82 hb); have n2_ := Aside0.mk (below_step Z108 hb); have n3_ := Aside0.mk (hbox); have n4_ := Aside0.mk ((by rw [hg]; exact (below_size Z108) : w.heap.size ≤ gb430)); have n5_ := Aside0.mk ((by rw [hg]; exact (below_size Z108) : w.heap.size ≤ gb430)); have n6_ := Aside0.mk ((Z144 : g425 ≠ gb430)); have n7_ := Aside0.mk ((Z145 : gb430 ≠ g425)); clear HO428; clear HI425; clear HB; have HO428 := n0_; have HI425 := n1_; have HB := n2_; have BK430 := n3_; have GW430 := n4_; have GE430 := n5_; have NB425_430 := n6_; have NB430_425 := n7_; clear n0_ n1_ n2_ n3_ n4_ n5_ n6_ n7_; clear hb hbox hg; obtain ⟨Ao21, co21, eo21⟩ := Kd.R_slice HO428.out; subst eo21; have hnb22 := NB430_425.out; have hnc22 := NB425_430.out; have hcz23_0 : w20.cell? ⟨gb430, 0, none⟩ = some (.slice none 0 0) := (blk_cell BK430.out 0).trans rfl; have hfz23_0 := blk_frozen BK430.out 0) | ((with_reducible refine gate_callee (f := 45) rfl ?_); refine goesL_ (some 14) rfl rfl Try.func45 (by kernel_rfl) rfl #[.pointer (some ⟨g425, 0, none⟩), .int .i64 9] rfl Z75 ?_; (with_reducible refine (spec_l20StreamOr.calls k g425 t423 t429 9 t431 t432 w _ ?side1 ?side2 A4.out).mono ?_); (case side1 => exact Z115); (case side2 => exact Z129); rintro e w24 ⟨rfl, hi, hb, hk⟩; refine ⟨_, rfl, ?_⟩; have n0_ := Aside0.mk (Kd.R_mono (Kd.R_keep (IsS76.apart (show IsS76 w _ g425 t423 t429 from by repeat (first | (with_reducible first | exact HI425.out | apply IsS76.alloc | apply IsS76.drewN | apply IsS76.drew | apply IsS76.set_1 | refine IsS76.far ?_ NB425_430.out _) | exact HI425.out)) (by (with_reducible repeat (first | apply Kd.R_alloc | apply Kd.R_drewN | apply Kd.R_drew)); exact (Kd.R_mono (Kd.R_far (p := ⟨gb430, 0, none⟩) (Kd.R_types HO428.out BK430.out (by decide)) (fun _ hk => hk.2) (.slice Ao21 t426.length co21)) (fun _ h_ => h_.1))) (by decide)) hk (fun _ h => h.2)) (fun _ h => h.1)); have n1_ := Aside0.mk (KeepBut.blk hk (g' := gb430) (o := .cells #[.slice Ao21 t426.length co21] 61 (0, 0)) Z164 NB430_425.out (by simp)); have n2_ := Aside0.mk (hb); have n3_ := Aside0.mk (hi); clear HO428; clear BK430; clear HB; clear HI425; have HO428 := n0_; have BK430 := n1_; have HB := n2_; have HI425 := n3_; clear n0_ n1_ n2_ n3_; (try clear hb); (try clear hk); (try clear hi)) | ((with_reducible refine gate_callee (f := 49) rfl ?_); refine goesL_ (some 16) rfl rfl Try.func49 (by kernel_rfl) rfl #[.pointer (some ⟨g425, 0, none⟩), .int .i64 3] rfl Z75 ?_; (with_reducible refine (spec_l20Rd_pick.calls k g425 t423 t432 3 t433 t434 w _ ?side1 ?side2 A5.out).mono ?_); (case side1 => exact Z115); (case side2 => exact Z129); rintro e w25 ⟨rfl, hi, hb, hk⟩; refine ⟨_, rfl, ?_⟩; have n0_ := Aside0.mk (Kd.R_mono (Kd.R_keep (IsS76.apart (show IsS76 w _ g425 t423 t432 from by repeat (first | (with_reducible first | exact HI425.out | apply IsS76.alloc | apply IsS76.drewN | apply IsS76.drew | apply IsS76.set_1 | refine IsS76.far ?_ NB425_430.out _) | exact HI425.out)) Z34 (by decide)) hk (fun _ h => h.2)) (fun _ h => h.1)); have n1_ := Aside0.mk (KeepBut.blk hk (g' := gb430) (o := .cells #[.slice Ao21 t426.length co21] 61 (0, 0)) Z68 NB430_425.out (by simp)); have n2_ := Aside0.mk (hb); have n3_ := Aside0.mk (hi); clear HO428; clear BK430; clear HB; clear HI425; have HO428 := n0_; have BK430 := n1_; have HB := n2_; have HI425 := n3_; clear n0_ n1_ n2_ n3_; (try clear hb); (try clear hk); (try clear hi); have hcz26_0 : w25.cell? ⟨gb430, 0, none⟩ = some (.slice Ao21 t426.length co21) := (blk_cell BK430.out 0).trans rfl; have hfz26_0 := blk_frozen BK430.out 0) | ((with_reducible refine gate_callee (f := 51) rfl ?_); refine goesL_ (some 24) rfl rfl Try.func51 (by kernel_rfl) rfl #[.agg #[.slice Ao21 t426.length co21], .string t431] rfl Z75 ?_; (with_reducible refine (spec_RwrStream.calls k _ _ t426 t431 t437 t440 _ ?side1 ?side2 A17.out).mono ?_); (case side1 => repeat (first | exact (Kd.R_reads' HO428.out).2.2 | (with_reducible refine Kd.C_alloc ?_ _) | (with_reducible refine Kd.C_drewN ?_ _) | (with_reducible refine Kd.C_drew ?_))); (case side2 => exact (Kd.R_reads' HO428.out).2.1); rintro e w27 ⟨v438, rfl, ho0, hb⟩; refine ⟨_, rfl, ?_⟩; have n0_ := Aside0.mk (Kd.R_elder' Z34 (Kd.R_base ho0) hb); have n1_ := Aside0.mk (Kd.R_lower (Kd.R_new' ho0 (Kd.R_lt Z34)) (below_size Z130)); have n2_ := Aside0.mk (IsS76.below Z116 hb); have n3_ := Aside0.mk (blk_below (g := gb430) (o := .cells #[.slice Ao21 t426.length co21] 61 (0, 0)) Z68 hb); have n4_ := Aside0.mk (below_step Z130 hb); clear HO428; clear HI425; clear BK430; clear HB; have HO428 := n0_; have HO439 := n1_; have HI425 := n2_; have BK430 := n3_; have HB := n4_; clear n0_ n1_ n2_ n3_ n4_; (try clear hb); (try clear ho0)) | ((with_reducible refine gate_dst (N := 7) rfl ?_); refine box_event ?hg (N := 7) ?hd (cs := #[.slice none 0 0]) (t := 61) ?hr ?_; (case hd => rfl); (case hg => rfl); (case hr => first | (go_simp; done) | (go_simp; rfl)); intro gb441 hg w28 hbox hb; have n0_ := Aside0.mk (Kd.R_below Z34 hb); have n1_ := Aside0.mk (Kd.R_below (by (with_reducible repeat (first | apply Kd.R_alloc | apply Kd.R_drewN | apply Kd.R_drew)); exact HO439.out) hb); have n2_ := Aside0.mk (IsS76.below Z116 hb); have n3_ := Aside0.mk (blk_below (g := gb430) (o := .cells #[.slice Ao21 t426.length co21] 61 (0, 0)) Z68 hb); have n4_ := Aside0.mk (below_step Z130 hb); have n5_ := Aside0.mk (hbox); have n6_ := Aside0.mk ((by rw [hg]; exact (below_size Z130) : w.heap.size ≤ gb441)); have n7_ := Aside0.mk ((by rw [hg]; exact (below_size Z130) : w.heap.size ≤ gb441)); have n8_ := Aside0.mk ((by rw [hg]; exact Nat.ne_of_lt (blk_lt (g := gb430) (o := .cells #[.slice Ao21 t426.length co21] 61 (0, 0)) Z68) : gb430 ≠ gb441)); have n9_ := Aside0.mk ((by rw [hg]; exact Nat.ne_of_gt (blk_lt (g := gb430) (o := .cells #[.slice Ao21 t426.length co21] 61 (0, 0)) Z68) : gb441 ≠ gb430)); have n10_ := Aside0.mk ((by rw [hg]; exact Nat.ne_of_lt (IsS76.lt (show IsS76 w _ g425 t423 t434 from by repeat (first | (with_reducible first | exact HI425.out | apply IsS76.alloc | apply IsS76.drewN | apply IsS76.drew | apply IsS76.set_1 | refine IsS76.far ?_ NB425_430.out _) | exact HI425.out))) : g425 ≠ gb441)); have n11_ := Aside0.mk ((by rw [hg]; exact Nat.ne_of_gt (IsS76.lt (show IsS76 w _ g425 t423 t434 from by repeat (first | (with_reducible first | exact HI425.out | apply IsS76.alloc | apply IsS76.drewN | apply IsS76.drew | apply IsS76.set_1 | refine IsS76.far ?_ NB425_430.out _) | exact HI425.out))) : gb441 ≠ g425)); clear HO428; clear HO439; clear HI425; clear BK430; clear HB; have HO428 := n0_; have HO439 := n1_; have HI425 := n2_; have BK430 := n3_; have HB := n4_; have BK441 := n5_; have GW441 := n6_; have GE441 := n7_; have NB430_441 := n8_; have NB441_430 := n9_; have NB425_441 := n10_; have NB441_425 := n11_; clear n0_ n1_ n2_ n3_ n4_ n5_ n6_ n7_ n8_ n9_ n10_ n11_; clear hb hbox hg; obtain ⟨Ao29, co29, eo29⟩ := Kd.R_slice HO439.out; subst eo29; have hnb30 := NB441_430.out; have hnc30 := NB430_441.out; have hnb31 := NB441_425.out; have hnc31 := NB425_441.out; have hcz32_0 : w28.cell? ⟨gb441, 0, none⟩ = some (.slice none 0 0) := (blk_cell BK441.out 0).trans rfl; have hfz32_0 := blk_frozen BK441.out 0))
  go_ret2
  exact ⟨by first | rfl | (simp [errW_none, errW_some] <;> rfl) | (simp [*, errW_none, errW_some] <;> rfl), by repeat (first | (with_reducible first | exact HB.out | apply below_alloc | apply pw_below_drewN | apply below_drew1 | refine below_set ?_ (IsS76.ge HI425.out) | refine below_set ?_ GE430.out | refine below_set ?_ GE441.out) | exact HB.out)⟩

/-! ### spec_DrawPosThere: function 34 -/
def spec_DrawPosThere.f (k : Nat) (l0 : List Int) : Option (ByteArray × ByteArray × Int) := (spec_DrawPosPairs.f k l0).bind fun bt442 => ((spec_l20Open.f l0).bind fun bt444 => ((spec_l20Rd_pick.f k bt444.1 bt444.2 130).bind fun bt447 => ((some (([bt447.1, (-1), 9223372036854775807, (bt442.2.size : Int)] : List Int) : List Int)).bind fun y449 => ((spec_l20Rd_pick.f k bt444.1 bt444.2 4).bind fun bt452 => (if 0 ≤ bt452.1 then (if bt452.1 < (y449.length : Int) then (some (bt442.1, bt442.2, rd y449 bt452.1)) else (none)) else (none))))))
theorem spec_DrawPosThere.mono : ∀ a0 k, LeO (spec_DrawPosThere.f k a0) (spec_DrawPosThere.f (k + 1) a0) := by
 intro a0 k
 unfold spec_DrawPosThere.f
 repeat' first
   | (with_reducible exact spec_DrawPosPairs.mono _ _)
   | (with_reducible exact spec_l20Rd_pick.mono _ _ _ _)
   | (with_reducible exact LeO.refl _)
   | (with_reducible exact LeO.none _)
   | (with_reducible refine LeO.ite ?_ ?_)
   | (with_reducible refine LeO.bind ?_ (fun _ => ?_))
   | exact spec_DrawPosPairs.mono _ _
   | exact spec_l20Rd_pick.mono _ _ _ _
   | exact LeO.none _
   | refine LeO.ite ?_ ?_
   | refine LeO.bind ?_ (fun _ => ?_)
def spec_DrawPosThere.T2 : Bool × List (List Nat × List Nat) := (true, [([], []), ([], []), ([], []), ([2], [2]), ([3, 3], [3]), ([], []), ([5], [5]), ([4, 6], [4, 6]), ([], []), ([8, 4], [8]), ([9, 9], [9]), ([7, 10], [7, 10]), ([11], [11]), ([0, 10, 0], [0]), ([1, 13, 0, 1, 13], [1]), ([12, 14, 0, 1, 2, 3, 4, 5, 6, 7, 8, 9, 10, 11, 12, 13, 14], [12])])
def spec_DrawPosThere.B2 : List Nat := [0, 0, 0, 4, 12, 0, 32, 124, 0, 284, 796, 2044, 4092, 1821, 10015, 32767]
theorem spec_DrawPosThere.tab2 : rtab .any (opsOf Try.f34 2) = spec_DrawPosThere.T2 := by kernel_rfl
theorem spec_DrawPosThere.bits2 : waitsOk spec_DrawPosThere.T2.2 spec_DrawPosThere.B2 = true := by kernel_rfl
set_option maxHeartbeats 8000000 in
set_option maxRecDepth 100000 in
theorem spec_DrawPosThere.way0 (k : Nat) (A0 : Option Addr) (c0 : Nat) (l0 : List Int) (r1 r2 : ByteArray) (bb : List Int) (pp v p1 p2 : Int) (w : World) (hr0 : Kd.C (Kd.int .u8) w A0 l0.length l0) (hc0 : l0.length ≤ c0) (h1 : spec_DrawPosPairs.f k l0 = some (r1, r2)) (h2 : spec_l20Open.f l0 = some (bb, pp)) (h3 : spec_l20Rd_pick.f k bb pp 130 = some (v, p1)) (h4 : spec_l20Rd_pick.f k bb pp 4 = some (0, p2)) :
  Calls Try.prog 34 #[.slice A0 l0.length c0] w fun e w' => e = .returned (.tuple #[.string r1, .string r2, .int .i64 v]) ∧ Below w.heap.size w w' := by
 have HR0 := Aside0.mk hr0
 have HC0 := Aside0.mk hc0
 have AO := Aside0.mk h2
 have AP := Aside0.mk h3
 have AU := Aside0.mk h4
 have AD := Aside0.mk h1
 clear hr0 hc0 h1 h2 h3 h4
 go_enter Try.func34, Try.ntmps34
 go_wp2_with (go_at_call 32; refine (spec_DrawPosPairs.calls k A0 c0 l0 r1 r2 _ HR0.out HC0.out AD.out).mono ?_; rintro e W1 ⟨rfl, hb⟩; have BB := Aside0.mk (below_drew1 hb); clear hb)
 refine start_ (n := 16) (S := fun w' => True) (ds := []) #[false, false, false, false, false, false, false, false, false, false, false, false, false, false, false, false] (by kernel_rfl) rfl rfl trivial (fun hHeld => ?_)
 generalize W1.drew = w5 at BB hHeld ⊢
 refine with_tabW spec_DrawPosThere.tab2 spec_DrawPosThere.bits2 (fun HT_ HW_ => ?_)
 refine inv_at [0, 1, 2, 3, 4, 5, 6, 7, 8, 9, 10, 11, 12, 13, 14, 15] (fun a0_ b a w' => ∃ (g1 : Nat) (g2 : Nat) (gs : Nat) (m3_ : Value) (m7_ : Value) (m9_ : Value) (m11_ : Value), a = putSel a0_ b [(0, 12, .string r1), (1, 13, .string r2), (2, 14, .slice A0 l0.length c0), (3, 15, m3_), (4, 16, .int .i64 v), (5, 17, .string r2), (6, 18, .int .i64 (r2.size : Int)), (7, 19, m7_), (8, 20, .slice A0 l0.length c0), (9, 21, m9_), (10, 22, .int .i64 0), (11, 23, m11_), (12, 24, .int .i64 v), (13, 2, .string r1), (14, 3, .string r2), (15, 4, .int .i64 v)] ∧ (Below w.heap.size w w') ∧ (b 3 = true → b 4 = false → IsS76 w w' g1 bb pp) ∧ (b 9 = true → b 10 = false → IsS76 w w' g2 bb pp) ∧ (b 7 = true → w'.heap[gs]? = some (.cells #[.int .i64 v, .int .i64 (-1), .int .i64 9223372036854775807, .int .i64 (r2.size : Int)] 3 (0, 0))) ∧ (b 3 = true → (m3_ : Value) = .pointer (some ⟨g1, 0, none⟩)) ∧ (b 7 = true → (m7_ : Value) = .slice (some ⟨gs, 0, none⟩) 4 4) ∧ (b 9 = true → (m9_ : Value) = .pointer (some ⟨g2, 0, none⟩)) ∧ (b 11 = true → (m11_ : Value) = .pointer (some ⟨gs, 0, none⟩))) HT_.out HW_.out (by kernel_rfl) (by kernel_rfl) ?_ ?_ ?_
 ·exact ⟨0, 0, 0, .bool false, .bool false, .bool false, .bool false, by simp only [putSel, Bool.false_eq_true, if_false], BB.out, fun h_ => absurd h_ (by decide), fun h_ => absurd h_ (by decide), fun h_ => absurd h_ (by decide), fun h_ => absurd h_ (by decide), fun h_ => absurd h_ (by decide), fun h_ => absurd h_ (by decide), fun h_ => absurd h_ (by decide)⟩
 ·skip
  clear BB
  refine steps_cons ?_ ?_
  ·rintro b a w' ⟨g1, g2, gs, m3_, m7_, m9_, m11_, ha, Q_BB, Q_I1, Q_I2, Q_KS, Q_X3_, Q_X7_, Q_X9_, Q_X11_⟩ hb_ hon hoff
   refine ⟨_, rfl, fun K hK => ?_⟩
   have e5 : a.tmps[5]? = some (.string r1) := by rw [ha]; exact (putSel_off rfl).trans rfl
   replace ha := Aside0.mk ha
   have BB := Aside0.mk Q_BB
   refine value_ (w1 := w') (v := .string r1) (by rfl) rfl ?_ ?_
   ·go_simp
    (try simp only [i64_w])
    try rfl
   refine hK.out _ _ ⟨g1, g2, gs, m3_, m7_, m9_, m11_, Z1, Q_BB, Q_I1, Q_I2, Q_KS, Q_X3_, Q_X7_, Q_X9_, Q_X11_⟩
  refine steps_cons ?_ ?_
  ·rintro b a w' ⟨g1, g2, gs, m3_, m7_, m9_, m11_, ha, Q_BB, Q_I1, Q_I2, Q_KS, Q_X3_, Q_X7_, Q_X9_, Q_X11_⟩ hb_ hon hoff
   refine ⟨_, rfl, fun K hK => ?_⟩
   have e6 : a.tmps[6]? = some (.string r2) := by rw [ha]; exact (putSel_off rfl).trans rfl
   replace ha := Aside0.mk ha
   have BB := Aside0.mk Q_BB
   refine value_ (w1 := w') (v := .string r2) (by rfl) rfl ?_ ?_
   ·go_simp
    (try simp only [i64_w])
    try rfl
   refine hK.out _ _ ⟨g1, g2, gs, m3_, m7_, m9_, m11_, Z2, Q_BB, Q_I1, Q_I2, Q_KS, Q_X3_, Q_X7_, Q_X9_, Q_X11_⟩
  refine steps_cons ?_ ?_
  ·rintro b a w' ⟨g1, g2, gs, m3_, m7_, m9_, m11_, ha, Q_BB, Q_I1, Q_I2, Q_KS, Q_X3_, Q_X7_, Q_X9_, Q_X11_⟩ hb_ hon hoff
   refine ⟨_, rfl, fun K hK => ?_⟩
   have e0 : a.tmps[0]? = some (.slice A0 l0.length c0) := by rw [ha]; exact (putSel_off rfl).trans rfl
   replace ha := Aside0.mk ha
   have BB := Aside0.mk Q_BB
   refine value_ (w1 := w') (v := .slice A0 l0.length c0) (by rfl) rfl ?_ ?_
   ·go_simp
    (try simp only [i64_w])
    try rfl
   refine hK.out _ _ ⟨g1, g2, gs, m3_, m7_, m9_, m11_, Z3, Q_BB, fun h0_ _ => absurd ((hoff 3 (by kernel_rfl)).symm.trans h0_) (by decide), fun h0_ _ => absurd ((hoff 9 (by kernel_rfl)).symm.trans h0_) (by decide), fun h0_ => absurd ((hoff 7 (by kernel_rfl)).symm.trans h0_) (by decide), fun h0_ => absurd ((hoff 3 (by kernel_rfl)).symm.trans h0_) (by decide), fun h0_ => absurd ((hoff 7 (by kernel_rfl)).symm.trans h0_) (by decide), fun h0_ => absurd ((hoff 9 (by kernel_rfl)).symm.trans h0_) (by decide), fun h0_ => absurd ((hoff 11 (by kernel_rfl)).symm.trans h0_) (by decide)⟩
  refine steps_cons ?_ ?_
  ·rintro b a w' ⟨g1, g2, gs, m3_, m7_, m9_, m11_, ha, Q_BB, Q_I1, Q_I2, Q_KS, Q_X3_, Q_X7_, Q_X9_, Q_X11_⟩ hb_ hon hoff
   refine ⟨_, rfl, fun K hK => ?_⟩
   have e14 : a.tmps[14]? = some (.slice A0 l0.length c0) := by rw [ha]; exact putSel_on (e := (2, 14, .slice A0 l0.length c0)) 2 rfl rfl (hon 2 (by kernel_rfl)) rfl
   replace ha := Aside0.mk ha
   have BB := Aside0.mk Q_BB
   refine goes_ Try.func46 (by kernel_rfl) rfl #[.slice A0 l0.length c0] (by rfl) rfl rfl Z155 ?_
   refine (spec_l20Open.calls A0 c0 l0 bb pp w _ BB.out HR0.out HC0.out AO.out).mono ?_
   rintro e w8 ⟨g9, rfl, hi9, hb9, hk9⟩
   refine ⟨_, rfl, ?_⟩
   refine hK.out _ _ ⟨g9, g2, gs, (.pointer (some ⟨g9, 0, none⟩)), m7_, m9_, m11_, Z4, hb9, fun _ _ => hi9, fun h0_ _ => absurd ((hoff 9 (by kernel_rfl)).symm.trans h0_) (by decide), fun h0_ => absurd ((hoff 7 (by kernel_rfl)).symm.trans h0_) (by decide), fun _ => rfl, fun h0_ => absurd ((hoff 7 (by kernel_rfl)).symm.trans h0_) (by decide), fun h0_ => absurd ((hoff 9 (by kernel_rfl)).symm.trans h0_) (by decide), fun h0_ => absurd ((hoff 11 (by kernel_rfl)).symm.trans h0_) (by decide)⟩
  refine steps_cons ?_ ?_
  ·rintro b a w' ⟨g1, g2, gs, m3_, m7_, m9_, m11_, ha, Q_BB, Q_I1, Q_I2, Q_KS, Q_X3_, Q_X7_, Q_X9_, Q_X11_⟩ hb_ hon hoff
   refine ⟨_, rfl, fun K hK => ?_⟩
   have e15 : a.tmps[15]? = some (m3_) := by rw [ha]; exact putSel_on (e := (3, 15, m3_)) 3 rfl rfl (hon 3 (by kernel_rfl)) rfl
   rw [Q_X3_ (hon 3 (by kernel_rfl))] at e15
   replace ha := Aside0.mk ha
   have BB := Aside0.mk Q_BB
   have I1 := Aside0.mk (Q_I1 (hon 3 (by kernel_rfl)) hb_)
   refine goes_ Try.func49 (by kernel_rfl) rfl #[.pointer (some ⟨g1, 0, none⟩), .int .i64 130] (by rfl) rfl rfl Z156 ?_
   refine (spec_l20Rd_pick.calls k g1 bb pp 130 v p1 w _ I1.out BB.out AP.out).mono ?_
   rintro e w8 ⟨rfl, hi9, hb9, hk9⟩
   refine ⟨_, rfl, ?_⟩
   refine hK.out _ _ ⟨g1, g2, gs, m3_, m7_, m9_, m11_, Z5, hb9, fun _ h1_ => absurd ((up_self b 4).symm.trans h1_) (by decide), fun h0_ _ => absurd ((hoff 9 (by kernel_rfl)).symm.trans h0_) (by decide), fun h0_ => absurd ((hoff 7 (by kernel_rfl)).symm.trans h0_) (by decide), Q_X3_, fun h0_ => absurd ((hoff 7 (by kernel_rfl)).symm.trans h0_) (by decide), fun h0_ => absurd ((hoff 9 (by kernel_rfl)).symm.trans h0_) (by decide), fun h0_ => absurd ((hoff 11 (by kernel_rfl)).symm.trans h0_) (by decide)⟩
  refine steps_cons ?_ ?_
  ·rintro b a w' ⟨g1, g2, gs, m3_, m7_, m9_, m11_, ha, Q_BB, Q_I1, Q_I2, Q_KS, Q_X3_, Q_X7_, Q_X9_, Q_X11_⟩ hb_ hon hoff
   refine ⟨_, rfl, fun K hK => ?_⟩
   have e6 : a.tmps[6]? = some (.string r2) := by rw [ha]; exact (putSel_off rfl).trans rfl
   replace ha := Aside0.mk ha
   have BB := Aside0.mk Q_BB
   refine value_ (w1 := w') (v := .string r2) (by rfl) rfl ?_ ?_
   ·go_simp
    (try simp only [i64_w])
    try rfl
   refine hK.out _ _ ⟨g1, g2, gs, m3_, m7_, m9_, m11_, Z6, Q_BB, Q_I1, Q_I2, fun h0_ => absurd ((hoff 7 (by kernel_rfl)).symm.trans h0_) (by decide), Q_X3_, fun h0_ => absurd ((hoff 7 (by kernel_rfl)).symm.trans h0_) (by decide), Q_X9_, fun h0_ => absurd ((hoff 11 (by kernel_rfl)).symm.trans h0_) (by decide)⟩
  refine steps_cons ?_ ?_
  ·rintro b a w' ⟨g1, g2, gs, m3_, m7_, m9_, m11_, ha, Q_BB, Q_I1, Q_I2, Q_KS, Q_X3_, Q_X7_, Q_X9_, Q_X11_⟩ hb_ hon hoff
   refine ⟨_, rfl, fun K hK => ?_⟩
   have e17 : a.tmps[17]? = some (.string r2) := by rw [ha]; exact putSel_on (e := (5, 17, .string r2)) 5 rfl rfl (hon 5 (by kernel_rfl)) rfl
   replace ha := Aside0.mk ha
   have BB := Aside0.mk Q_BB
   refine value_ (w1 := w') (v := .int .i64 (r2.size : Int)) (by rfl) rfl ?_ ?_
   ·go_simp
    (try simp only [i64_w])
    try rfl
   refine hK.out _ _ ⟨g1, g2, gs, m3_, m7_, m9_, m11_, Z7, Q_BB, Q_I1, Q_I2, fun h0_ => absurd ((hoff 7 (by kernel_rfl)).symm.trans h0_) (by decide), Q_X3_, fun h0_ => absurd ((hoff 7 (by kernel_rfl)).symm.trans h0_) (by decide), Q_X9_, fun h0_ => absurd ((hoff 11 (by kernel_rfl)).symm.trans h0_) (by decide)⟩
  refine steps_cons ?_ ?_
  ·rintro b a w' ⟨g1, g2, gs, m3_, m7_, m9_, m11_, ha, Q_BB, Q_I1, Q_I2, Q_KS, Q_X3_, Q_X7_, Q_X9_, Q_X11_⟩ hb_ hon hoff
   refine ⟨_, rfl, fun K hK => ?_⟩
   have e16 : a.tmps[16]? = some (.int .i64 v) := by rw [ha]; exact putSel_on (e := (4, 16, .int .i64 v)) 4 rfl rfl (hon 4 (by kernel_rfl)) rfl
   have e18 : a.tmps[18]? = some (.int .i64 (r2.size : Int)) := by rw [ha]; exact putSel_on (e := (6, 18, .int .i64 (r2.size : Int))) 6 rfl rfl (hon 6 (by kernel_rfl)) rfl
   replace ha := Aside0.mk ha
   have BB := Aside0.mk Q_BB
   refine value_ (w1 := w'.alloc (.cells #[.int .i64 v, .int .i64 (-1), .int .i64 9223372036854775807, .int .i64 (r2.size : Int)] 3)) (v := .slice (some ⟨w'.heap.size, 0, none⟩) 4 4) (by rfl) rfl ?_ ?_
   ·go_simp
    try rfl
   refine hK.out _ _ ⟨g1, g2, w'.heap.size, m3_, (.slice (some ⟨w'.heap.size, 0, none⟩) 4 4), m9_, m11_, Z8, below_alloc BB.out _, fun _ h1_ => absurd ((hon 4 (by kernel_rfl)).symm.trans h1_) (by decide), fun h0_ h1_ => IsS76.alloc (Q_I2 h0_ h1_) _, fun _ => blk_new _ _, Q_X3_, fun _ => rfl, Q_X9_, fun h0_ => absurd ((hoff 11 (by kernel_rfl)).symm.trans h0_) (by decide)⟩
  refine steps_cons ?_ ?_
  ·rintro b a w' ⟨g1, g2, gs, m3_, m7_, m9_, m11_, ha, Q_BB, Q_I1, Q_I2, Q_KS, Q_X3_, Q_X7_, Q_X9_, Q_X11_⟩ hb_ hon hoff
   refine ⟨_, rfl, fun K hK => ?_⟩
   have e0 : a.tmps[0]? = some (.slice A0 l0.length c0) := by rw [ha]; exact (putSel_off rfl).trans rfl
   replace ha := Aside0.mk ha
   have BB := Aside0.mk Q_BB
   refine value_ (w1 := w') (v := .slice A0 l0.length c0) (by rfl) rfl ?_ ?_
   ·go_simp
    (try simp only [i64_w])
    try rfl
   refine hK.out _ _ ⟨g1, g2, gs, m3_, m7_, m9_, m11_, Z9, Q_BB, Q_I1, fun h0_ _ => absurd ((hoff 9 (by kernel_rfl)).symm.trans h0_) (by decide), Q_KS, Q_X3_, Q_X7_, fun h0_ => absurd ((hoff 9 (by kernel_rfl)).symm.trans h0_) (by decide), fun h0_ => absurd ((hoff 11 (by kernel_rfl)).symm.trans h0_) (by decide)⟩
  refine steps_cons ?_ ?_
  ·rintro b a w' ⟨g1, g2, gs, m3_, m7_, m9_, m11_, ha, Q_BB, Q_I1, Q_I2, Q_KS, Q_X3_, Q_X7_, Q_X9_, Q_X11_⟩ hb_ hon hoff
   refine ⟨_, rfl, fun K hK => ?_⟩
   have e20 : a.tmps[20]? = some (.slice A0 l0.length c0) := by rw [ha]; exact putSel_on (e := (8, 20, .slice A0 l0.length c0)) 8 rfl rfl (hon 8 (by kernel_rfl)) rfl
   replace ha := Aside0.mk ha
   have BB := Aside0.mk Q_BB
   refine goes_ Try.func46 (by kernel_rfl) rfl #[.slice A0 l0.length c0] (by rfl) rfl rfl Z157 ?_
   refine (spec_l20Open.calls A0 c0 l0 bb pp w _ BB.out HR0.out HC0.out AO.out).mono ?_
   rintro e w8 ⟨g9, rfl, hi9, hb9, hk9⟩
   refine ⟨_, rfl, ?_⟩
   refine hK.out _ _ ⟨g1, g9, gs, m3_, m7_, (.pointer (some ⟨g9, 0, none⟩)), m11_, Z10, hb9, fun _ h1_ => absurd ((hon 4 (by kernel_rfl)).symm.trans h1_) (by decide), fun _ _ => hi9, fun h0_ => blk_below (Q_KS h0_) hk9, Q_X3_, Q_X7_, fun _ => rfl, fun h0_ => absurd ((hoff 11 (by kernel_rfl)).symm.trans h0_) (by decide)⟩
  refine steps_cons ?_ ?_
  ·rintro b a w' ⟨g1, g2, gs, m3_, m7_, m9_, m11_, ha, Q_BB, Q_I1, Q_I2, Q_KS, Q_X3_, Q_X7_, Q_X9_, Q_X11_⟩ hb_ hon hoff
   refine ⟨_, rfl, fun K hK => ?_⟩
   have e21 : a.tmps[21]? = some (m9_) := by rw [ha]; exact putSel_on (e := (9, 21, m9_)) 9 rfl rfl (hon 9 (by kernel_rfl)) rfl
   rw [Q_X9_ (hon 9 (by kernel_rfl))] at e21
   replace ha := Aside0.mk ha
   have BB := Aside0.mk Q_BB
   have I2 := Aside0.mk (Q_I2 (hon 9 (by kernel_rfl)) hb_)
   refine goes_ Try.func49 (by kernel_rfl) rfl #[.pointer (some ⟨g2, 0, none⟩), .int .i64 4] (by rfl) rfl rfl Z158 ?_
   refine (spec_l20Rd_pick.calls k g2 bb pp 4 0 p2 w _ I2.out BB.out AU.out).mono ?_
   rintro e w8 ⟨rfl, hi9, hb9, hk9⟩
   refine ⟨_, rfl, ?_⟩
   refine hK.out _ _ ⟨g1, g2, gs, m3_, m7_, m9_, m11_, Z12, hb9, fun _ h1_ => absurd ((hon 4 (by kernel_rfl)).symm.trans h1_) (by decide), fun _ h1_ => absurd ((up_self b 10).symm.trans h1_) (by decide), fun h0_ => hk9.blk (Q_KS h0_) (fun e_ => (IsS76.ne_blk I2.out (Q_KS h0_) (by decide)) e_.symm) (by simp), Q_X3_, Q_X7_, Q_X9_, fun h0_ => absurd ((hoff 11 (by kernel_rfl)).symm.trans h0_) (by decide)⟩
  refine steps_cons ?_ ?_
  ·rintro b a w' ⟨g1, g2, gs, m3_, m7_, m9_, m11_, ha, Q_BB, Q_I1, Q_I2, Q_KS, Q_X3_, Q_X7_, Q_X9_, Q_X11_⟩ hb_ hon hoff
   refine ⟨_, rfl, fun K hK => ?_⟩
   have e19 : a.tmps[19]? = some (m7_) := by rw [ha]; exact putSel_on (e := (7, 19, m7_)) 7 rfl rfl (hon 7 (by kernel_rfl)) rfl
   rw [Q_X7_ (hon 7 (by kernel_rfl))] at e19
   have e22 : a.tmps[22]? = some (.int .i64 0) := by rw [ha]; exact putSel_on (e := (10, 22, .int .i64 0)) 10 rfl rfl (hon 10 (by kernel_rfl)) rfl
   replace ha := Aside0.mk ha
   have BB := Aside0.mk Q_BB
   have KS := Aside0.mk (Q_KS (hon 7 (by kernel_rfl)))
   refine value_ (w1 := w') (v := .pointer (some ⟨gs, 0, none⟩)) (by rfl) rfl ?_ ?_
   ·go_simp
    (try simp only [i64_w])
    try rfl
   refine hK.out _ _ ⟨g1, g2, gs, m3_, m7_, m9_, (.pointer (some ⟨gs, 0, none⟩)), Z13, Q_BB, fun _ h1_ => absurd ((hon 4 (by kernel_rfl)).symm.trans h1_) (by decide), fun _ h1_ => absurd ((hon 10 (by kernel_rfl)).symm.trans h1_) (by decide), Q_KS, Q_X3_, Q_X7_, Q_X9_, fun _ => rfl⟩
  refine steps_cons ?_ ?_
  ·rintro b a w' ⟨g1, g2, gs, m3_, m7_, m9_, m11_, ha, Q_BB, Q_I1, Q_I2, Q_KS, Q_X3_, Q_X7_, Q_X9_, Q_X11_⟩ hb_ hon hoff
   refine ⟨_, rfl, fun K hK => ?_⟩
   have e23 : a.tmps[23]? = some (m11_) := by rw [ha]; exact putSel_on (e := (11, 23, m11_)) 11 rfl rfl (hon 11 (by kernel_rfl)) rfl
   rw [Q_X11_ (hon 11 (by kernel_rfl))] at e23
   replace ha := Aside0.mk ha
   have BB := Aside0.mk Q_BB
   have KS := Aside0.mk (Q_KS (hon 7 (by kernel_rfl)))
   have hld := (blk_cell KS.out 0).trans (show _ = some (.int .i64 v) from rfl)
   refine value_ (w1 := w') (v := .int .i64 v) (by rfl) rfl ?_ ?_
   ·go_simp
    (try simp only [i64_w])
    try rfl
   refine hK.out _ _ ⟨g1, g2, gs, m3_, m7_, m9_, m11_, Z14, Q_BB, fun _ h1_ => absurd ((hon 4 (by kernel_rfl)).symm.trans h1_) (by decide), fun _ h1_ => absurd ((hon 10 (by kernel_rfl)).symm.trans h1_) (by decide), Q_KS, Q_X3_, Q_X7_, Q_X9_, Q_X11_⟩
  refine steps_cons ?_ ?_
  ·rintro b a w' ⟨g1, g2, gs, m3_, m7_, m9_, m11_, ha, Q_BB, Q_I1, Q_I2, Q_KS, Q_X3_, Q_X7_, Q_X9_, Q_X11_⟩ hb_ hon hoff
   refine ⟨_, rfl, fun K hK => ?_⟩
   have e12 : a.tmps[12]? = some (.string r1) := by rw [ha]; exact putSel_on (e := (0, 12, .string r1)) 0 rfl rfl (hon 0 (by kernel_rfl)) rfl
   replace ha := Aside0.mk ha
   have BB := Aside0.mk Q_BB
   refine value_ (w1 := w') (v := .string r1) (by rfl) rfl ?_ ?_
   ·go_simp
    (try simp only [i64_w])
    try rfl
   refine hK.out _ _ ⟨g1, g2, gs, m3_, m7_, m9_, m11_, Z15, Q_BB, fun _ h1_ => absurd ((hon 4 (by kernel_rfl)).symm.trans h1_) (by decide), fun _ h1_ => absurd ((hon 10 (by kernel_rfl)).symm.trans h1_) (by decide), Q_KS, Q_X3_, Q_X7_, Q_X9_, Q_X11_⟩
  refine steps_cons ?_ ?_
  ·rintro b a w' ⟨g1, g2, gs, m3_, m7_, m9_, m11_, ha, Q_BB, Q_I1, Q_I2, Q_KS, Q_X3_, Q_X7_, Q_X9_, Q_X11_⟩ hb_ hon hoff
   refine ⟨_, rfl, fun K hK => ?_⟩
   have e13 : a.tmps[13]? = some (.string r2) := by rw [ha]; exact putSel_on (e := (1, 13, .string r2)) 1 rfl rfl (hon 1 (by kernel_rfl)) rfl
   replace ha := Aside0.mk ha
   have BB := Aside0.mk Q_BB
   refine value_ (w1 := w') (v := .string r2) (by rfl) rfl ?_ ?_
   ·go_simp
    (try simp only [i64_w])
    try rfl
   refine hK.out _ _ ⟨g1, g2, gs, m3_, m7_, m9_, m11_, Z16, Q_BB, fun _ h1_ => absurd ((hon 4 (by kernel_rfl)).symm.trans h1_) (by decide), fun _ h1_ => absurd ((hon 10 (by kernel_rfl)).symm.trans h1_) (by decide), Q_KS, Q_X3_, Q_X7_, Q_X9_, Q_X11_⟩
  refine steps_cons ?_ ?_
  ·rintro b a w' ⟨g1, g2, gs, m3_, m7_, m9_, m11_, ha, Q_BB, Q_I1, Q_I2, Q_KS, Q_X3_, Q_X7_, Q_X9_, Q_X11_⟩ hb_ hon hoff
   refine ⟨_, rfl, fun K hK => ?_⟩
   have e24 : a.tmps[24]? = some (.int .i64 v) := by rw [ha]; exact putSel_on (e := (12, 24, .int .i64 v)) 12 rfl rfl (hon 12 (by kernel_rfl)) rfl
   replace ha := Aside0.mk ha
   have BB := Aside0.mk Q_BB
   have KS := Aside0.mk (Q_KS (hon 7 (by kernel_rfl)))
   refine value_ (w1 := w') (v := .int .i64 v) (by rfl) rfl ?_ ?_
   ·go_simp
    (try simp only [i64_w])
    try rfl
   refine hK.out _ _ ⟨g1, g2, gs, m3_, m7_, m9_, m11_, Z17, Q_BB, fun _ h1_ => absurd ((hon 4 (by kernel_rfl)).symm.trans h1_) (by decide), fun _ h1_ => absurd ((hon 10 (by kernel_rfl)).symm.trans h1_) (by decide), Q_KS, Q_X3_, Q_X7_, Q_X9_, Q_X11_⟩
  exact steps_nil
 ·rintro b a w' hall ⟨g1, g2, gs, m3_, m7_, m9_, m11_, ha, Q_BB, Q_I1, Q_I2, Q_KS, Q_X3_, Q_X7_, Q_X9_, Q_X11_⟩
  clear BB
  have hb0_ := hall 0 (by kernel_rfl)
  have hb1_ := hall 1 (by kernel_rfl)
  have hb2_ := hall 2 (by kernel_rfl)
  have hb3_ := hall 3 (by kernel_rfl)
  have hb4_ := hall 4 (by kernel_rfl)
  have hb5_ := hall 5 (by kernel_rfl)
  have hb6_ := hall 6 (by kernel_rfl)
  have hb7_ := hall 7 (by kernel_rfl)
  have hb8_ := hall 8 (by kernel_rfl)
  have hb9_ := hall 9 (by kernel_rfl)
  have hb10_ := hall 10 (by kernel_rfl)
  have hb11_ := hall 11 (by kernel_rfl)
  have hb12_ := hall 12 (by kernel_rfl)
  have hb13_ := hall 13 (by kernel_rfl)
  have hb14_ := hall 14 (by kernel_rfl)
  have hb15_ := hall 15 (by kernel_rfl)
  subst ha
  obtain rfl := Q_X3_ hb3_
  obtain rfl := Q_X7_ hb7_
  obtain rfl := Q_X9_ hb9_
  obtain rfl := Q_X11_ hb11_
  simp only [putSel, hb0_, hb1_, hb2_, hb3_, hb4_, hb5_, hb6_, hb7_, hb8_, hb9_, hb10_, hb11_, hb12_, hb13_, hb14_, hb15_, if_true, Act.put, List.setIfInBounds_toArray, List.set_cons_zero, List.set_cons_succ]
  have BB := Aside0.mk Q_BB
  clear Q_BB
  clear Q_I1
  clear Q_I2
  have KS := Aside0.mk (Q_KS hb7_)
  clear Q_KS
  clear hall hb0_ hb1_ hb2_ hb3_ hb4_ hb5_ hb6_ hb7_ hb8_ hb9_ hb10_ hb11_ hb12_ hb13_ hb14_ hb15_
  try go_wp2
  first | go_ret | go_ret3
  exact ⟨rfl, BB.out⟩
set_option maxHeartbeats 8000000 in
set_option maxRecDepth 100000 in
theorem spec_DrawPosThere.way1 (k : Nat) (A0 : Option Addr) (c0 : Nat) (l0 : List Int) (r1 r2 : ByteArray) (bb : List Int) (pp v p1 p2 : Int) (w : World) (hr0 : Kd.C (Kd.int .u8) w A0 l0.length l0) (hc0 : l0.length ≤ c0) (h1 : spec_DrawPosPairs.f k l0 = some (r1, r2)) (h2 : spec_l20Open.f l0 = some (bb, pp)) (h3 : spec_l20Rd_pick.f k bb pp 130 = some (v, p1)) (h4 : spec_l20Rd_pick.f k bb pp 4 = some (1, p2)) :
  Calls Try.prog 34 #[.slice A0 l0.length c0] w fun e w' => e = .returned (.tuple #[.string r1, .string r2, .int .i64 (-1)]) ∧ Below w.heap.size w w' := by
 have HR0 := Aside0.mk hr0
 have HC0 := Aside0.mk hc0
 have AO := Aside0.mk h2
 have AP := Aside0.mk h3
 have AU := Aside0.mk h4
 have AD := Aside0.mk h1
 clear hr0 hc0 h1 h2 h3 h4
 go_enter Try.func34, Try.ntmps34
 go_wp2_with (go_at_call 32; refine (spec_DrawPosPairs.calls k A0 c0 l0 r1 r2 _ HR0.out HC0.out AD.out).mono ?_; rintro e W1 ⟨rfl, hb⟩; have BB := Aside0.mk (below_drew1 hb); clear hb)
 refine start_ (n := 16) (S := fun w' => True) (ds := []) #[false, false, false, false, false, false, false, false, false, false, false, false, false, false, false, false] (by kernel_rfl) rfl rfl trivial (fun hHeld => ?_)
 generalize W1.drew = w5 at BB hHeld ⊢
 refine with_tabW spec_DrawPosThere.tab2 spec_DrawPosThere.bits2 (fun HT_ HW_ => ?_)
 refine inv_at [0, 1, 2, 3, 4, 5, 6, 7, 8, 9, 10, 11, 12, 13, 14, 15] (fun a0_ b a w' => ∃ (g1 : Nat) (g2 : Nat) (gs : Nat) (m3_ : Value) (m7_ : Value) (m9_ : Value) (m11_ : Value), a = putSel a0_ b [(0, 12, .string r1), (1, 13, .string r2), (2, 14, .slice A0 l0.length c0), (3, 15, m3_), (4, 16, .int .i64 v), (5, 17, .string r2), (6, 18, .int .i64 (r2.size : Int)), (7, 19, m7_), (8, 20, .slice A0 l0.length c0), (9, 21, m9_), (10, 22, .int .i64 1), (11, 23, m11_), (12, 24, .int .i64 (-1)), (13, 2, .string r1), (14, 3, .string r2), (15, 4, .int .i64 (-1))] ∧ (Below w.heap.size w w') ∧ (b 3 = true → b 4 = false → IsS76 w w' g1 bb pp) ∧ (b 9 = true → b 10 = false → IsS76 w w' g2 bb pp) ∧ (b 7 = true → w'.heap[gs]? = some (.cells #[.int .i64 v, .int .i64 (-1), .int .i64 9223372036854775807, .int .i64 (r2.size : Int)] 3 (0, 0))) ∧ (b 3 = true → (m3_ : Value) = .pointer (some ⟨g1, 0, none⟩)) ∧ (b 7 = true → (m7_ : Value) = .slice (some ⟨gs, 0, none⟩) 4 4) ∧ (b 9 = true → (m9_ : Value) = .pointer (some ⟨g2, 0, none⟩)) ∧ (b 11 = true → (m11_ : Value) = .pointer (some ⟨gs, 1, none⟩))) HT_.out HW_.out (by kernel_rfl) (by kernel_rfl) ?_ ?_ ?_
 ·exact ⟨0, 0, 0, .bool false, .bool false, .bool false, .bool false, by simp only [putSel, Bool.false_eq_true, if_false], BB.out, fun h_ => absurd h_ (by decide), fun h_ => absurd h_ (by decide), fun h_ => absurd h_ (by decide), fun h_ => absurd h_ (by decide), fun h_ => absurd h_ (by decide), fun h_ => absurd h_ (by decide), fun h_ => absurd h_ (by decide)⟩
 ·skip
  clear BB
  refine steps_cons ?_ ?_
  ·rintro b a w' ⟨g1, g2, gs, m3_, m7_, m9_, m11_, ha, Q_BB, Q_I1, Q_I2, Q_KS, Q_X3_, Q_X7_, Q_X9_, Q_X11_⟩ hb_ hon hoff
   refine ⟨_, rfl, fun K hK => ?_⟩
   have e5 : a.tmps[5]? = some (.string r1) := by rw [ha]; exact (putSel_off rfl).trans rfl
   replace ha := Aside0.mk ha
   have BB := Aside0.mk Q_BB
   refine value_ (w1 := w') (v := .string r1) (by rfl) rfl ?_ ?_
   ·go_simp
    (try simp only [i64_w])
    try rfl
   refine hK.out _ _ ⟨g1, g2, gs, m3_, m7_, m9_, m11_, Z1, Q_BB, Q_I1, Q_I2, Q_KS, Q_X3_, Q_X7_, Q_X9_, Q_X11_⟩
  refine steps_cons ?_ ?_
  ·rintro b a w' ⟨g1, g2, gs, m3_, m7_, m9_, m11_, ha, Q_BB, Q_I1, Q_I2, Q_KS, Q_X3_, Q_X7_, Q_X9_, Q_X11_⟩ hb_ hon hoff
   refine ⟨_, rfl, fun K hK => ?_⟩
   have e6 : a.tmps[6]? = some (.string r2) := by rw [ha]; exact (putSel_off rfl).trans rfl
   replace ha := Aside0.mk ha
   have BB := Aside0.mk Q_BB
   refine value_ (w1 := w') (v := .string r2) (by rfl) rfl ?_ ?_
   ·go_simp
    (try simp only [i64_w])
    try rfl
   refine hK.out _ _ ⟨g1, g2, gs, m3_, m7_, m9_, m11_, Z2, Q_BB, Q_I1, Q_I2, Q_KS, Q_X3_, Q_X7_, Q_X9_, Q_X11_⟩
  refine steps_cons ?_ ?_
  ·rintro b a w' ⟨g1, g2, gs, m3_, m7_, m9_, m11_, ha, Q_BB, Q_I1, Q_I2, Q_KS, Q_X3_, Q_X7_, Q_X9_, Q_X11_⟩ hb_ hon hoff
   refine ⟨_, rfl, fun K hK => ?_⟩
   have e0 : a.tmps[0]? = some (.slice A0 l0.length c0) := by rw [ha]; exact (putSel_off rfl).trans rfl
   replace ha := Aside0.mk ha
   have BB := Aside0.mk Q_BB
   refine value_ (w1 := w') (v := .slice A0 l0.length c0) (by rfl) rfl ?_ ?_
   ·go_simp
    (try simp only [i64_w])
    try rfl
   refine hK.out _ _ ⟨g1, g2, gs, m3_, m7_, m9_, m11_, Z3, Q_BB, fun h0_ _ => absurd ((hoff 3 (by kernel_rfl)).symm.trans h0_) (by decide), fun h0_ _ => absurd ((hoff 9 (by kernel_rfl)).symm.trans h0_) (by decide), fun h0_ => absurd ((hoff 7 (by kernel_rfl)).symm.trans h0_) (by decide), fun h0_ => absurd ((hoff 3 (by kernel_rfl)).symm.trans h0_) (by decide), fun h0_ => absurd ((hoff 7 (by kernel_rfl)).symm.trans h0_) (by decide), fun h0_ => absurd ((hoff 9 (by kernel_rfl)).symm.trans h0_) (by decide), fun h0_ => absurd ((hoff 11 (by kernel_rfl)).symm.trans h0_) (by decide)⟩
  refine steps_cons ?_ ?_
  ·rintro b a w' ⟨g1, g2, gs, m3_, m7_, m9_, m11_, ha, Q_BB, Q_I1, Q_I2, Q_KS, Q_X3_, Q_X7_, Q_X9_, Q_X11_⟩ hb_ hon hoff
   refine ⟨_, rfl, fun K hK => ?_⟩
   have e14 : a.tmps[14]? = some (.slice A0 l0.length c0) := by rw [ha]; exact putSel_on (e := (2, 14, .slice A0 l0.length c0)) 2 rfl rfl (hon 2 (by kernel_rfl)) rfl
   replace ha := Aside0.mk ha
   have BB := Aside0.mk Q_BB
   refine goes_ Try.func46 (by kernel_rfl) rfl #[.slice A0 l0.length c0] (by rfl) rfl rfl Z155 ?_
   refine (spec_l20Open.calls A0 c0 l0 bb pp w _ BB.out HR0.out HC0.out AO.out).mono ?_
   rintro e w8 ⟨g9, rfl, hi9, hb9, hk9⟩
   refine ⟨_, rfl, ?_⟩
   refine hK.out _ _ ⟨g9, g2, gs, (.pointer (some ⟨g9, 0, none⟩)), m7_, m9_, m11_, Z4, hb9, fun _ _ => hi9, fun h0_ _ => absurd ((hoff 9 (by kernel_rfl)).symm.trans h0_) (by decide), fun h0_ => absurd ((hoff 7 (by kernel_rfl)).symm.trans h0_) (by decide), fun _ => rfl, fun h0_ => absurd ((hoff 7 (by kernel_rfl)).symm.trans h0_) (by decide), fun h0_ => absurd ((hoff 9 (by kernel_rfl)).symm.trans h0_) (by decide), fun h0_ => absurd ((hoff 11 (by kernel_rfl)).symm.trans h0_) (by decide)⟩
  refine steps_cons ?_ ?_
  ·rintro b a w' ⟨g1, g2, gs, m3_, m7_, m9_, m11_, ha, Q_BB, Q_I1, Q_I2, Q_KS, Q_X3_, Q_X7_, Q_X9_, Q_X11_⟩ hb_ hon hoff
   refine ⟨_, rfl, fun K hK => ?_⟩
   have e15 : a.tmps[15]? = some (m3_) := by rw [ha]; exact putSel_on (e := (3, 15, m3_)) 3 rfl rfl (hon 3 (by kernel_rfl)) rfl
   rw [Q_X3_ (hon 3 (by kernel_rfl))] at e15
   replace ha := Aside0.mk ha
   have BB := Aside0.mk Q_BB
   have I1 := Aside0.mk (Q_I1 (hon 3 (by kernel_rfl)) hb_)
   refine goes_ Try.func49 (by kernel_rfl) rfl #[.pointer (some ⟨g1, 0, none⟩), .int .i64 130] (by rfl) rfl rfl Z156 ?_
   refine (spec_l20Rd_pick.calls k g1 bb pp 130 v p1 w _ I1.out BB.out AP.out).mono ?_
   rintro e w8 ⟨rfl, hi9, hb9, hk9⟩
   refine ⟨_, rfl, ?_⟩
   refine hK.out _ _ ⟨g1, g2, gs, m3_, m7_, m9_, m11_, Z5, hb9, fun _ h1_ => absurd ((up_self b 4).symm.trans h1_) (by decide), fun h0_ _ => absurd ((hoff 9 (by kernel_rfl)).symm.trans h0_) (by decide), fun h0_ => absurd ((hoff 7 (by kernel_rfl)).symm.trans h0_) (by decide), Q_X3_, fun h0_ => absurd ((hoff 7 (by kernel_rfl)).symm.trans h0_) (by decide), fun h0_ => absurd ((hoff 9 (by kernel_rfl)).symm.trans h0_) (by decide), fun h0_ => absurd ((hoff 11 (by kernel_rfl)).symm.trans h0_) (by decide)⟩
  refine steps_cons ?_ ?_
  ·rintro b a w' ⟨g1, g2, gs, m3_, m7_, m9_, m11_, ha, Q_BB, Q_I1, Q_I2, Q_KS, Q_X3_, Q_X7_, Q_X9_, Q_X11_⟩ hb_ hon hoff
   refine ⟨_, rfl, fun K hK => ?_⟩
   have e6 : a.tmps[6]? = some (.string r2) := by rw [ha]; exact (putSel_off rfl).trans rfl
   replace ha := Aside0.mk ha
   have BB := Aside0.mk Q_BB
   refine value_ (w1 := w') (v := .string r2) (by rfl) rfl ?_ ?_
   ·go_simp
    (try simp only [i64_w])
    try rfl
   refine hK.out _ _ ⟨g1, g2, gs, m3_, m7_, m9_, m11_, Z6, Q_BB, Q_I1, Q_I2, fun h0_ => absurd ((hoff 7 (by kernel_rfl)).symm.trans h0_) (by decide), Q_X3_, fun h0_ => absurd ((hoff 7 (by kernel_rfl)).symm.trans h0_) (by decide), Q_X9_, fun h0_ => absurd ((hoff 11 (by kernel_rfl)).symm.trans h0_) (by decide)⟩
  refine steps_cons ?_ ?_
  ·rintro b a w' ⟨g1, g2, gs, m3_, m7_, m9_, m11_, ha, Q_BB, Q_I1, Q_I2, Q_KS, Q_X3_, Q_X7_, Q_X9_, Q_X11_⟩ hb_ hon hoff
   refine ⟨_, rfl, fun K hK => ?_⟩
   have e17 : a.tmps[17]? = some (.string r2) := by rw [ha]; exact putSel_on (e := (5, 17, .string r2)) 5 rfl rfl (hon 5 (by kernel_rfl)) rfl
   replace ha := Aside0.mk ha
   have BB := Aside0.mk Q_BB
   refine value_ (w1 := w') (v := .int .i64 (r2.size : Int)) (by rfl) rfl ?_ ?_
   ·go_simp
    (try simp only [i64_w])
    try rfl
   refine hK.out _ _ ⟨g1, g2, gs, m3_, m7_, m9_, m11_, Z7, Q_BB, Q_I1, Q_I2, fun h0_ => absurd ((hoff 7 (by kernel_rfl)).symm.trans h0_) (by decide), Q_X3_, fun h0_ => absurd ((hoff 7 (by kernel_rfl)).symm.trans h0_) (by decide), Q_X9_, fun h0_ => absurd ((hoff 11 (by kernel_rfl)).symm.trans h0_) (by decide)⟩
  refine steps_cons ?_ ?_
  ·rintro b a w' ⟨g1, g2, gs, m3_, m7_, m9_, m11_, ha, Q_BB, Q_I1, Q_I2, Q_KS, Q_X3_, Q_X7_, Q_X9_, Q_X11_⟩ hb_ hon hoff
   refine ⟨_, rfl, fun K hK => ?_⟩
   have e16 : a.tmps[16]? = some (.int .i64 v) := by rw [ha]; exact putSel_on (e := (4, 16, .int .i64 v)) 4 rfl rfl (hon 4 (by kernel_rfl)) rfl
   have e18 : a.tmps[18]? = some (.int .i64 (r2.size : Int)) := by rw [ha]; exact putSel_on (e := (6, 18, .int .i64 (r2.size : Int))) 6 rfl rfl (hon 6 (by kernel_rfl)) rfl
   replace ha := Aside0.mk ha
   have BB := Aside0.mk Q_BB
   refine value_ (w1 := w'.alloc (.cells #[.int .i64 v, .int .i64 (-1), .int .i64 9223372036854775807, .int .i64 (r2.size : Int)] 3)) (v := .slice (some ⟨w'.heap.size, 0, none⟩) 4 4) (by rfl) rfl ?_ ?_
   ·go_simp
    try rfl
   refine hK.out _ _ ⟨g1, g2, w'.heap.size, m3_, (.slice (some ⟨w'.heap.size, 0, none⟩) 4 4), m9_, m11_, Z8, below_alloc BB.out _, fun _ h1_ => absurd ((hon 4 (by kernel_rfl)).symm.trans h1_) (by decide), fun h0_ h1_ => IsS76.alloc (Q_I2 h0_ h1_) _, fun _ => blk_new _ _, Q_X3_, fun _ => rfl, Q_X9_, fun h0_ => absurd ((hoff 11 (by kernel_rfl)).symm.trans h0_) (by decide)⟩
  refine steps_cons ?_ ?_
  ·rintro b a w' ⟨g1, g2, gs, m3_, m7_, m9_, m11_, ha, Q_BB, Q_I1, Q_I2, Q_KS, Q_X3_, Q_X7_, Q_X9_, Q_X11_⟩ hb_ hon hoff
   refine ⟨_, rfl, fun K hK => ?_⟩
   have e0 : a.tmps[0]? = some (.slice A0 l0.length c0) := by rw [ha]; exact (putSel_off rfl).trans rfl
   replace ha := Aside0.mk ha
   have BB := Aside0.mk Q_BB
   refine value_ (w1 := w') (v := .slice A0 l0.length c0) (by rfl) rfl ?_ ?_
   ·go_simp
    (try simp only [i64_w])
    try rfl
   refine hK.out _ _ ⟨g1, g2, gs, m3_, m7_, m9_, m11_, Z9, Q_BB, Q_I1, fun h0_ _ => absurd ((hoff 9 (by kernel_rfl)).symm.trans h0_) (by decide), Q_KS, Q_X3_, Q_X7_, fun h0_ => absurd ((hoff 9 (by kernel_rfl)).symm.trans h0_) (by decide), fun h0_ => absurd ((hoff 11 (by kernel_rfl)).symm.trans h0_) (by decide)⟩
  refine steps_cons ?_ ?_
  ·rintro b a w' ⟨g1, g2, gs, m3_, m7_, m9_, m11_, ha, Q_BB, Q_I1, Q_I2, Q_KS, Q_X3_, Q_X7_, Q_X9_, Q_X11_⟩ hb_ hon hoff
   refine ⟨_, rfl, fun K hK => ?_⟩
   have e20 : a.tmps[20]? = some (.slice A0 l0.length c0) := by rw [ha]; exact putSel_on (e := (8, 20, .slice A0 l0.length c0)) 8 rfl rfl (hon 8 (by kernel_rfl)) rfl
   replace ha := Aside0.mk ha
   have BB := Aside0.mk Q_BB
   refine goes_ Try.func46 (by kernel_rfl) rfl #[.slice A0 l0.length c0] (by rfl) rfl rfl Z157 ?_
   refine (spec_l20Open.calls A0 c0 l0 bb pp w _ BB.out HR0.out HC0.out AO.out).mono ?_
   rintro e w8 ⟨g9, rfl, hi9, hb9, hk9⟩
   refine ⟨_, rfl, ?_⟩
   refine hK.out _ _ ⟨g1, g9, gs, m3_, m7_, (.pointer (some ⟨g9, 0, none⟩)), m11_, Z10, hb9, fun _ h1_ => absurd ((hon 4 (by kernel_rfl)).symm.trans h1_) (by decide), fun _ _ => hi9, fun h0_ => blk_below (Q_KS h0_) hk9, Q_X3_, Q_X7_, fun _ => rfl, fun h0_ => absurd ((hoff 11 (by kernel_rfl)).symm.trans h0_) (by decide)⟩
  refine steps_cons ?_ ?_
  ·rintro b a w' ⟨g1, g2, gs, m3_, m7_, m9_, m11_, ha, Q_BB, Q_I1, Q_I2, Q_KS, Q_X3_, Q_X7_, Q_X9_, Q_X11_⟩ hb_ hon hoff
   refine ⟨_, rfl, fun K hK => ?_⟩
   have e21 : a.tmps[21]? = some (m9_) := by rw [ha]; exact putSel_on (e := (9, 21, m9_)) 9 rfl rfl (hon 9 (by kernel_rfl)) rfl
   rw [Q_X9_ (hon 9 (by kernel_rfl))] at e21
   replace ha := Aside0.mk ha
   have BB := Aside0.mk Q_BB
   have I2 := Aside0.mk (Q_I2 (hon 9 (by kernel_rfl)) hb_)
   refine goes_ Try.func49 (by kernel_rfl) rfl #[.pointer (some ⟨g2, 0, none⟩), .int .i64 4] (by rfl) rfl rfl Z158 ?_
   refine (spec_l20Rd_pick.calls k g2 bb pp 4 1 p2 w _ I2.out BB.out AU.out).mono ?_
   rintro e w8 ⟨rfl, hi9, hb9, hk9⟩
   refine ⟨_, rfl, ?_⟩
   refine hK.out _ _ ⟨g1, g2, gs, m3_, m7_, m9_, m11_, Z12, hb9, fun _ h1_ => absurd ((hon 4 (by kernel_rfl)).symm.trans h1_) (by decide), fun _ h1_ => absurd ((up_self b 10).symm.trans h1_) (by decide), fun h0_ => hk9.blk (Q_KS h0_) (fun e_ => (IsS76.ne_blk I2.out (Q_KS h0_) (by decide)) e_.symm) (by simp), Q_X3_, Q_X7_, Q_X9_, fun h0_ => absurd ((hoff 11 (by kernel_rfl)).symm.trans h0_) (by decide)⟩
  refine steps_cons ?_ ?_
  ·rintro b a w' ⟨g1, g2, gs, m3_, m7_, m9_, m11_, ha, Q_BB, Q_I1, Q_I2, Q_KS, Q_X3_, Q_X7_, Q_X9_, Q_X11_⟩ hb_ hon hoff
   refine ⟨_, rfl, fun K hK => ?_⟩
   have e19 : a.tmps[19]? = some (m7_) := by rw [ha]; exact putSel_on (e := (7, 19, m7_)) 7 rfl rfl (hon 7 (by kernel_rfl)) rfl
   rw [Q_X7_ (hon 7 (by kernel_rfl))] at e19
   have e22 : a.tmps[22]? = some (.int .i64 1) := by rw [ha]; exact putSel_on (e := (10, 22, .int .i64 1)) 10 rfl rfl (hon 10 (by kernel_rfl)) rfl
   replace ha := Aside0.mk ha
   have BB := Aside0.mk Q_BB
   have KS := Aside0.mk (Q_KS (hon 7 (by kernel_rfl)))
   refine value_ (w1 := w') (v := .pointer (some ⟨gs, 1, none⟩)) (by rfl) rfl ?_ ?_
   ·go_simp
    (try simp only [i64_w])
    try rfl
   refine hK.out _ _ ⟨g1, g2, gs, m3_, m7_, m9_, (.pointer (some ⟨gs, 1, none⟩)), Z13, Q_BB, fun _ h1_ => absurd ((hon 4 (by kernel_rfl)).symm.trans h1_) (by decide), fun _ h1_ => absurd ((hon 10 (by kernel_rfl)).symm.trans h1_) (by decide), Q_KS, Q_X3_, Q_X7_, Q_X9_, fun _ => rfl⟩
  refine steps_cons ?_ ?_
  ·rintro b a w' ⟨g1, g2, gs, m3_, m7_, m9_, m11_, ha, Q_BB, Q_I1, Q_I2, Q_KS, Q_X3_, Q_X7_, Q_X9_, Q_X11_⟩ hb_ hon hoff
   refine ⟨_, rfl, fun K hK => ?_⟩
   have e23 : a.tmps[23]? = some (m11_) := by rw [ha]; exact putSel_on (e := (11, 23, m11_)) 11 rfl rfl (hon 11 (by kernel_rfl)) rfl
   rw [Q_X11_ (hon 11 (by kernel_rfl))] at e23
   replace ha := Aside0.mk ha
   have BB := Aside0.mk Q_BB
   have KS := Aside0.mk (Q_KS (hon 7 (by kernel_rfl)))
   have hld := (blk_cell KS.out 1).trans (show _ = some (.int .i64 (-1)) from rfl)
   refine value_ (w1 := w') (v := .int .i64 (-1)) (by rfl) rfl ?_ ?_
   ·go_simp
    (try simp only [i64_w])
    try rfl
   refine hK.out _ _ ⟨g1, g2, gs, m3_, m7_, m9_, m11_, Z14, Q_BB, fun _ h1_ => absurd ((hon 4 (by kernel_rfl)).symm.trans h1_) (by decide), fun _ h1_ => absurd ((hon 10 (by kernel_rfl)).symm.trans h1_) (by decide), Q_KS, Q_X3_, Q_X7_, Q_X9_, Q_X11_⟩
  refine steps_cons ?_ ?_
  ·rintro b a w' ⟨g1, g2, gs, m3_, m7_, m9_, m11_, ha, Q_BB, Q_I1, Q_I2, Q_KS, Q_X3_, Q_X7_, Q_X9_, Q_X11_⟩ hb_ hon hoff
   refine ⟨_, rfl, fun K hK => ?_⟩
   have e12 : a.tmps[12]? = some (.string r1) := by rw [ha]; exact putSel_on (e := (0, 12, .string r1)) 0 rfl rfl (hon 0 (by kernel_rfl)) rfl
   replace ha := Aside0.mk ha
   have BB := Aside0.mk Q_BB
   refine value_ (w1 := w') (v := .string r1) (by rfl) rfl ?_ ?_
   ·go_simp
    (try simp only [i64_w])
    try rfl
   refine hK.out _ _ ⟨g1, g2, gs, m3_, m7_, m9_, m11_, Z15, Q_BB, fun _ h1_ => absurd ((hon 4 (by kernel_rfl)).symm.trans h1_) (by decide), fun _ h1_ => absurd ((hon 10 (by kernel_rfl)).symm.trans h1_) (by decide), Q_KS, Q_X3_, Q_X7_, Q_X9_, Q_X11_⟩
  refine steps_cons ?_ ?_
  ·rintro b a w' ⟨g1, g2, gs, m3_, m7_, m9_, m11_, ha, Q_BB, Q_I1, Q_I2, Q_KS, Q_X3_, Q_X7_, Q_X9_, Q_X11_⟩ hb_ hon hoff
   refine ⟨_, rfl, fun K hK => ?_⟩
   have e13 : a.tmps[13]? = some (.string r2) := by rw [ha]; exact putSel_on (e := (1, 13, .string r2)) 1 rfl rfl (hon 1 (by kernel_rfl)) rfl
   replace ha := Aside0.mk ha
   have BB := Aside0.mk Q_BB
   refine value_ (w1 := w') (v := .string r2) (by rfl) rfl ?_ ?_
   ·go_simp
    (try simp only [i64_w])
    try rfl
   refine hK.out _ _ ⟨g1, g2, gs, m3_, m7_, m9_, m11_, Z16, Q_BB, fun _ h1_ => absurd ((hon 4 (by kernel_rfl)).symm.trans h1_) (by decide), fun _ h1_ => absurd ((hon 10 (by kernel_rfl)).symm.trans h1_) (by decide), Q_KS, Q_X3_, Q_X7_, Q_X9_, Q_X11_⟩
  refine steps_cons ?_ ?_
  ·rintro b a w' ⟨g1, g2, gs, m3_, m7_, m9_, m11_, ha, Q_BB, Q_I1, Q_I2, Q_KS, Q_X3_, Q_X7_, Q_X9_, Q_X11_⟩ hb_ hon hoff
   refine ⟨_, rfl, fun K hK => ?_⟩
   have e24 : a.tmps[24]? = some (.int .i64 (-1)) := by rw [ha]; exact putSel_on (e := (12, 24, .int .i64 (-1))) 12 rfl rfl (hon 12 (by kernel_rfl)) rfl
   replace ha := Aside0.mk ha
   have BB := Aside0.mk Q_BB
   have KS := Aside0.mk (Q_KS (hon 7 (by kernel_rfl)))
   refine value_ (w1 := w') (v := .int .i64 (-1)) (by rfl) rfl ?_ ?_
   ·go_simp
    (try simp only [i64_w])
    try rfl
   refine hK.out _ _ ⟨g1, g2, gs, m3_, m7_, m9_, m11_, Z17, Q_BB, fun _ h1_ => absurd ((hon 4 (by kernel_rfl)).symm.trans h1_) (by decide), fun _ h1_ => absurd ((hon 10 (by kernel_rfl)).symm.trans h1_) (by decide), Q_KS, Q_X3_, Q_X7_, Q_X9_, Q_X11_⟩
  exact steps_nil
 ·rintro b a w' hall ⟨g1, g2, gs, m3_, m7_, m9_, m11_, ha, Q_BB, Q_I1, Q_I2, Q_KS, Q_X3_, Q_X7_, Q_X9_, Q_X11_⟩
  clear BB
  have hb0_ := hall 0 (by kernel_rfl)
  have hb1_ := hall 1 (by kernel_rfl)
  have hb2_ := hall 2 (by kernel_rfl)
  have hb3_ := hall 3 (by kernel_rfl)
  have hb4_ := hall 4 (by kernel_rfl)
  have hb5_ := hall 5 (by kernel_rfl)
  have hb6_ := hall 6 (by kernel_rfl)
  have hb7_ := hall 7 (by kernel_rfl)
  have hb8_ := hall 8 (by kernel_rfl)
  have hb9_ := hall 9 (by kernel_rfl)
  have hb10_ := hall 10 (by kernel_rfl)
  have hb11_ := hall 11 (by kernel_rfl)
  have hb12_ := hall 12 (by kernel_rfl)
  have hb13_ := hall 13 (by kernel_rfl)
  have hb14_ := hall 14 (by kernel_rfl)
  have hb15_ := hall 15 (by kernel_rfl)
  subst ha
  obtain rfl := Q_X3_ hb3_
  obtain rfl := Q_X7_ hb7_
  obtain rfl := Q_X9_ hb9_
  obtain rfl := Q_X11_ hb11_
  simp only [putSel, hb0_, hb1_, hb2_, hb3_, hb4_, hb5_, hb6_, hb7_, hb8_, hb9_, hb10_, hb11_, hb12_, hb13_, hb14_, hb15_, if_true, Act.put, List.setIfInBounds_toArray, List.set_cons_zero, List.set_cons_succ]
  have BB := Aside0.mk Q_BB
  clear Q_BB
  clear Q_I1
  clear Q_I2
  have KS := Aside0.mk (Q_KS hb7_)
  clear Q_KS
  clear hall hb0_ hb1_ hb2_ hb3_ hb4_ hb5_ hb6_ hb7_ hb8_ hb9_ hb10_ hb11_ hb12_ hb13_ hb14_ hb15_
  try go_wp2
  first | go_ret | go_ret3
  exact ⟨rfl, BB.out⟩
set_option maxHeartbeats 8000000 in
set_option maxRecDepth 100000 in
theorem spec_DrawPosThere.way2 (k : Nat) (A0 : Option Addr) (c0 : Nat) (l0 : List Int) (r1 r2 : ByteArray) (bb : List Int) (pp v p1 p2 : Int) (w : World) (hr0 : Kd.C (Kd.int .u8) w A0 l0.length l0) (hc0 : l0.length ≤ c0) (h1 : spec_DrawPosPairs.f k l0 = some (r1, r2)) (h2 : spec_l20Open.f l0 = some (bb, pp)) (h3 : spec_l20Rd_pick.f k bb pp 130 = some (v, p1)) (h4 : spec_l20Rd_pick.f k bb pp 4 = some (2, p2)) :
  Calls Try.prog 34 #[.slice A0 l0.length c0] w fun e w' => e = .returned (.tuple #[.string r1, .string r2, .int .i64 9223372036854775807]) ∧ Below w.heap.size w w' := by
 have HR0 := Aside0.mk hr0
 have HC0 := Aside0.mk hc0
 have AO := Aside0.mk h2
 have AP := Aside0.mk h3
 have AU := Aside0.mk h4
 have AD := Aside0.mk h1
 clear hr0 hc0 h1 h2 h3 h4
 go_enter Try.func34, Try.ntmps34
 go_wp2_with (go_at_call 32; refine (spec_DrawPosPairs.calls k A0 c0 l0 r1 r2 _ HR0.out HC0.out AD.out).mono ?_; rintro e W1 ⟨rfl, hb⟩; have BB := Aside0.mk (below_drew1 hb); clear hb)
 refine start_ (n := 16) (S := fun w' => True) (ds := []) #[false, false, false, false, false, false, false, false, false, false, false, false, false, false, false, false] (by kernel_rfl) rfl rfl trivial (fun hHeld => ?_)
 generalize W1.drew = w5 at BB hHeld ⊢
 refine with_tabW spec_DrawPosThere.tab2 spec_DrawPosThere.bits2 (fun HT_ HW_ => ?_)
 refine inv_at [0, 1, 2, 3, 4, 5, 6, 7, 8, 9, 10, 11, 12, 13, 14, 15] (fun a0_ b a w' => ∃ (g1 : Nat) (g2 : Nat) (gs : Nat) (m3_ : Value) (m7_ : Value) (m9_ : Value) (m11_ : Value), a = putSel a0_ b [(0, 12, .string r1), (1, 13, .string r2), (2, 14, .slice A0 l0.length c0), (3, 15, m3_), (4, 16, .int .i64 v), (5, 17, .string r2), (6, 18, .int .i64 (r2.size : Int)), (7, 19, m7_), (8, 20, .slice A0 l0.length c0), (9, 21, m9_), (10, 22, .int .i64 2), (11, 23, m11_), (12, 24, .int .i64 9223372036854775807), (13, 2, .string r1), (14, 3, .string r2), (15, 4, .int .i64 9223372036854775807)] ∧ (Below w.heap.size w w') ∧ (b 3 = true → b 4 = false → IsS76 w w' g1 bb pp) ∧ (b 9 = true → b 10 = false → IsS76 w w' g2 bb pp) ∧ (b 7 = true → w'.heap[gs]? = some (.cells #[.int .i64 v, .int .i64 (-1), .int .i64 9223372036854775807, .int .i64 (r2.size : Int)] 3 (0, 0))) ∧ (b 3 = true → (m3_ : Value) = .pointer (some ⟨g1, 0, none⟩)) ∧ (b 7 = true → (m7_ : Value) = .slice (some ⟨gs, 0, none⟩) 4 4) ∧ (b 9 = true → (m9_ : Value) = .pointer (some ⟨g2, 0, none⟩)) ∧ (b 11 = true → (m11_ : Value) = .pointer (some ⟨gs, 2, none⟩))) HT_.out HW_.out (by kernel_rfl) (by kernel_rfl) ?_ ?_ ?_
 ·exact ⟨0, 0, 0, .bool false, .bool false, .bool false, .bool false, by simp only [putSel, Bool.false_eq_true, if_false], BB.out, fun h_ => absurd h_ (by decide), fun h_ => absurd h_ (by decide), fun h_ => absurd h_ (by decide), fun h_ => absurd h_ (by decide), fun h_ => absurd h_ (by decide), fun h_ => absurd h_ (by decide), fun h_ => absurd h_ (by decide)⟩
 ·skip
  clear BB
  refine steps_cons ?_ ?_
  ·rintro b a w' ⟨g1, g2, gs, m3_, m7_, m9_, m11_, ha, Q_BB, Q_I1, Q_I2, Q_KS, Q_X3_, Q_X7_, Q_X9_, Q_X11_⟩ hb_ hon hoff
   refine ⟨_, rfl, fun K hK => ?_⟩
   have e5 : a.tmps[5]? = some (.string r1) := by rw [ha]; exact (putSel_off rfl).trans rfl
   replace ha := Aside0.mk ha
   have BB := Aside0.mk Q_BB
   refine value_ (w1 := w') (v := .string r1) (by rfl) rfl ?_ ?_
   ·go_simp
    (try simp only [i64_w])
    try rfl
   refine hK.out _ _ ⟨g1, g2, gs, m3_, m7_, m9_, m11_, Z1, Q_BB, Q_I1, Q_I2, Q_KS, Q_X3_, Q_X7_, Q_X9_, Q_X11_⟩
  refine steps_cons ?_ ?_
  ·rintro b a w' ⟨g1, g2, gs, m3_, m7_, m9_, m11_, ha, Q_BB, Q_I1, Q_I2, Q_KS, Q_X3_, Q_X7_, Q_X9_, Q_X11_⟩ hb_ hon hoff
   refine ⟨_, rfl, fun K hK => ?_⟩
   have e6 : a.tmps[6]? = some (.string r2) := by rw [ha]; exact (putSel_off rfl).trans rfl
   replace ha := Aside0.mk ha
   have BB := Aside0.mk Q_BB
   refine value_ (w1 := w') (v := .string r2) (by rfl) rfl ?_ ?_
   ·go_simp
    (try simp only [i64_w])
    try rfl
   refine hK.out _ _ ⟨g1, g2, gs, m3_, m7_, m9_, m11_, Z2, Q_BB, Q_I1, Q_I2, Q_KS, Q_X3_, Q_X7_, Q_X9_, Q_X11_⟩
  refine steps_cons ?_ ?_
  ·rintro b a w' ⟨g1, g2, gs, m3_, m7_, m9_, m11_, ha, Q_BB, Q_I1, Q_I2, Q_KS, Q_X3_, Q_X7_, Q_X9_, Q_X11_⟩ hb_ hon hoff
   refine ⟨_, rfl, fun K hK => ?_⟩
   have e0 : a.tmps[0]? = some (.slice A0 l0.length c0) := by rw [ha]; exact (putSel_off rfl).trans rfl
   replace ha := Aside0.mk ha
   have BB := Aside0.mk Q_BB
   refine value_ (w1 := w') (v := .slice A0 l0.length c0) (by rfl) rfl ?_ ?_
   ·go_simp
    (try simp only [i64_w])
    try rfl
   refine hK.out _ _ ⟨g1, g2, gs, m3_, m7_, m9_, m11_, Z3, Q_BB, fun h0_ _ => absurd ((hoff 3 (by kernel_rfl)).symm.trans h0_) (by decide), fun h0_ _ => absurd ((hoff 9 (by kernel_rfl)).symm.trans h0_) (by decide), fun h0_ => absurd ((hoff 7 (by kernel_rfl)).symm.trans h0_) (by decide), fun h0_ => absurd ((hoff 3 (by kernel_rfl)).symm.trans h0_) (by decide), fun h0_ => absurd ((hoff 7 (by kernel_rfl)).symm.trans h0_) (by decide), fun h0_ => absurd ((hoff 9 (by kernel_rfl)).symm.trans h0_) (by decide), fun h0_ => absurd ((hoff 11 (by kernel_rfl)).symm.trans h0_) (by decide)⟩
  refine steps_cons ?_ ?_
  ·rintro b a w' ⟨g1, g2, gs, m3_, m7_, m9_, m11_, ha, Q_BB, Q_I1, Q_I2, Q_KS, Q_X3_, Q_X7_, Q_X9_, Q_X11_⟩ hb_ hon hoff
   refine ⟨_, rfl, fun K hK => ?_⟩
   have e14 : a.tmps[14]? = some (.slice A0 l0.length c0) := by rw [ha]; exact putSel_on (e := (2, 14, .slice A0 l0.length c0)) 2 rfl rfl (hon 2 (by kernel_rfl)) rfl
   replace ha := Aside0.mk ha
   have BB := Aside0.mk Q_BB
   refine goes_ Try.func46 (by kernel_rfl) rfl #[.slice A0 l0.length c0] (by rfl) rfl rfl Z155 ?_
   refine (spec_l20Open.calls A0 c0 l0 bb pp w _ BB.out HR0.out HC0.out AO.out).mono ?_
   rintro e w8 ⟨g9, rfl, hi9, hb9, hk9⟩
   refine ⟨_, rfl, ?_⟩
   refine hK.out _ _ ⟨g9, g2, gs, (.pointer (some ⟨g9, 0, none⟩)), m7_, m9_, m11_, Z4, hb9, fun _ _ => hi9, fun h0_ _ => absurd ((hoff 9 (by kernel_rfl)).symm.trans h0_) (by decide), fun h0_ => absurd ((hoff 7 (by kernel_rfl)).symm.trans h0_) (by decide), fun _ => rfl, fun h0_ => absurd ((hoff 7 (by kernel_rfl)).symm.trans h0_) (by decide), fun h0_ => absurd ((hoff 9 (by kernel_rfl)).symm.trans h0_) (by decide), fun h0_ => absurd ((hoff 11 (by kernel_rfl)).symm.trans h0_) (by decide)⟩
  refine steps_cons ?_ ?_
  ·rintro b a w' ⟨g1, g2, gs, m3_, m7_, m9_, m11_, ha, Q_BB, Q_I1, Q_I2, Q_KS, Q_X3_, Q_X7_, Q_X9_, Q_X11_⟩ hb_ hon hoff
   refine ⟨_, rfl, fun K hK => ?_⟩
   have e15 : a.tmps[15]? = some (m3_) := by rw [ha]; exact putSel_on (e := (3, 15, m3_)) 3 rfl rfl (hon 3 (by kernel_rfl)) rfl
   rw [Q_X3_ (hon 3 (by kernel_rfl))] at e15
   replace ha := Aside0.mk ha
   have BB := Aside0.mk Q_BB
   have I1 := Aside0.mk (Q_I1 (hon 3 (by kernel_rfl)) hb_)
   refine goes_ Try.func49 (by kernel_rfl) rfl #[.pointer (some ⟨g1, 0, none⟩), .int .i64 130] (by rfl) rfl rfl Z156 ?_
   refine (spec_l20Rd_pick.calls k g1 bb pp 130 v p1 w _ I1.out BB.out AP.out).mono ?_
   rintro e w8 ⟨rfl, hi9, hb9, hk9⟩
   refine ⟨_, rfl, ?_⟩
   refine hK.out _ _ ⟨g1, g2, gs, m3_, m7_, m9_, m11_, Z5, hb9, fun _ h1_ => absurd ((up_self b 4).symm.trans h1_) (by decide), fun h0_ _ => absurd ((hoff 9 (by kernel_rfl)).symm.trans h0_) (by decide), fun h0_ => absurd ((hoff 7 (by kernel_rfl)).symm.trans h0_) (by decide), Q_X3_, fun h0_ => absurd ((hoff 7 (by kernel_rfl)).symm.trans h0_) (by decide), fun h0_ => absurd ((hoff 9 (by kernel_rfl)).symm.trans h0_) (by decide), fun h0_ => absurd ((hoff 11 (by kernel_rfl)).symm.trans h0_) (by decide)⟩
  refine steps_cons ?_ ?_
  ·rintro b a w' ⟨g1, g2, gs, m3_, m7_, m9_, m11_, ha, Q_BB, Q_I1, Q_I2, Q_KS, Q_X3_, Q_X7_, Q_X9_, Q_X11_⟩ hb_ hon hoff
   refine ⟨_, rfl, fun K hK => ?_⟩
   have e6 : a.tmps[6]? = some (.string r2) := by rw [ha]; exact (putSel_off rfl).trans rfl
   replace ha := Aside0.mk ha
   have BB := Aside0.mk Q_BB
   refine value_ (w1 := w') (v := .string r2) (by rfl) rfl ?_ ?_
   ·go_simp
    (try simp only [i64_w])
    try rfl
   refine hK.out _ _ ⟨g1, g2, gs, m3_, m7_, m9_, m11_, Z6, Q_BB, Q_I1, Q_I2, fun h0_ => absurd ((hoff 7 (by kernel_rfl)).symm.trans h0_) (by decide), Q_X3_, fun h0_ => absurd ((hoff 7 (by kernel_rfl)).symm.trans h0_) (by decide), Q_X9_, fun h0_ => absurd ((hoff 11 (by kernel_rfl)).symm.trans h0_) (by decide)⟩
  refine steps_cons ?_ ?_
  ·rintro b a w' ⟨g1, g2, gs, m3_, m7_, m9_, m11_, ha, Q_BB, Q_I1, Q_I2, Q_KS, Q_X3_, Q_X7_, Q_X9_, Q_X11_⟩ hb_ hon hoff
   refine ⟨_, rfl, fun K hK => ?_⟩
   have e17 : a.tmps[17]? = some (.string r2) := by rw [ha]; exact putSel_on (e := (5, 17, .string r2)) 5 rfl rfl (hon 5 (by kernel_rfl)) rfl
   replace ha := Aside0.mk ha
   have BB := Aside0.mk Q_BB
   refine value_ (w1 := w') (v := .int .i64 (r2.size : Int)) (by rfl) rfl ?_ ?_
   ·go_simp
    (try simp only [i64_w])
    try rfl
   refine hK.out _ _ ⟨g1, g2, gs, m3_, m7_, m9_, m11_, Z7, Q_BB, Q_I1, Q_I2, fun h0_ => absurd ((hoff 7 (by kernel_rfl)).symm.trans h0_) (by decide), Q_X3_, fun h0_ => absurd ((hoff 7 (by kernel_rfl)).symm.trans h0_) (by decide), Q_X9_, fun h0_ => absurd ((hoff 11 (by kernel_rfl)).symm.trans h0_) (by decide)⟩
  refine steps_cons ?_ ?_
  ·rintro b a w' ⟨g1, g2, gs, m3_, m7_, m9_, m11_, ha, Q_BB, Q_I1, Q_I2, Q_KS, Q_X3_, Q_X7_, Q_X9_, Q_X11_⟩ hb_ hon hoff
   refine ⟨_, rfl, fun K hK => ?_⟩
   have e16 : a.tmps[16]? = some (.int .i64 v) := by rw [ha]; exact putSel_on (e := (4, 16, .int .i64 v)) 4 rfl rfl (hon 4 (by kernel_rfl)) rfl
   have e18 : a.tmps[18]? = some (.int .i64 (r2.size : Int)) := by rw [ha]; exact putSel_on (e := (6, 18, .int .i64 (r2.size : Int))) 6 rfl rfl (hon 6 (by kernel_rfl)) rfl
   replace ha := Aside0.mk ha
   have BB := Aside0.mk Q_BB
   refine value_ (w1 := w'.alloc (.cells #[.int .i64 v, .int .i64 (-1), .int .i64 9223372036854775807, .int .i64 (r2.size : Int)] 3)) (v := .slice (some ⟨w'.heap.size, 0, none⟩) 4 4) (by rfl) rfl ?_ ?_
   ·go_simp
    try rfl
   refine hK.out _ _ ⟨g1, g2, w'.heap.size, m3_, (.slice (some ⟨w'.heap.size, 0, none⟩) 4 4), m9_, m11_, Z8, below_alloc BB.out _, fun _ h1_ => absurd ((hon 4 (by kernel_rfl)).symm.trans h1_) (by decide), fun h0_ h1_ => IsS76.alloc (Q_I2 h0_ h1_) _, fun _ => blk_new _ _, Q_X3_, fun _ => rfl, Q_X9_, fun h0_ => absurd ((hoff 11 (by kernel_rfl)).symm.trans h0_) (by decide)⟩
  refine steps_cons ?_ ?_
  ·rintro b a w' ⟨g1, g2, gs, m3_, m7_, m9_, m11_, ha, Q_BB, Q_I1, Q_I2, Q_KS, Q_X3_, Q_X7_, Q_X9_, Q_X11_⟩ hb_ hon hoff
   refine ⟨_, rfl, fun K hK => ?_⟩
   have e0 : a.tmps[0]? = some (.slice A0 l0.length c0) := by rw [ha]; exact (putSel_off rfl).trans rfl
   replace ha := Aside0.mk ha
   have BB := Aside0.mk Q_BB
   refine value_ (w1 := w') (v := .slice A0 l0.length c0) (by rfl) rfl ?_ ?_
   ·go_simp
    (try simp only [i64_w])
    try rfl
   refine hK.out _ _ ⟨g1, g2, gs, m3_, m7_, m9_, m11_, Z9, Q_BB, Q_I1, fun h0_ _ => absurd ((hoff 9 (by kernel_rfl)).symm.trans h0_) (by decide), Q_KS, Q_X3_, Q_X7_, fun h0_ => absurd ((hoff 9 (by kernel_rfl)).symm.trans h0_) (by decide), fun h0_ => absurd ((hoff 11 (by kernel_rfl)).symm.trans h0_) (by decide)⟩
  refine steps_cons ?_ ?_
  ·rintro b a w' ⟨g1, g2, gs, m3_, m7_, m9_, m11_, ha, Q_BB, Q_I1, Q_I2, Q_KS, Q_X3_, Q_X7_, Q_X9_, Q_X11_⟩ hb_ hon hoff
   refine ⟨_, rfl, fun K hK => ?_⟩
   have e20 : a.tmps[20]? = some (.slice A0 l0.length c0) := by rw [ha]; exact putSel_on (e := (8, 20, .slice A0 l0.length c0)) 8 rfl rfl (hon 8 (by kernel_rfl)) rfl
   replace ha := Aside0.mk ha
   have BB := Aside0.mk Q_BB
   refine goes_ Try.func46 (by kernel_rfl) rfl #[.slice A0 l0.length c0] (by rfl) rfl rfl Z157 ?_
   refine (spec_l20Open.calls A0 c0 l0 bb pp w _ BB.out HR0.out HC0.out AO.out).mono ?_
   rintro e w8 ⟨g9, rfl, hi9, hb9, hk9⟩
   refine ⟨_, rfl, ?_⟩
   refine hK.out _ _ ⟨g1, g9, gs, m3_, m7_, (.pointer (some ⟨g9, 0, none⟩)), m11_, Z10, hb9, fun _ h1_ => absurd ((hon 4 (by kernel_rfl)).symm.trans h1_) (by decide), fun _ _ => hi9, fun h0_ => blk_below (Q_KS h0_) hk9, Q_X3_, Q_X7_, fun _ => rfl, fun h0_ => absurd ((hoff 11 (by kernel_rfl)).symm.trans h0_) (by decide)⟩
  refine steps_cons ?_ ?_
  ·rintro b a w' ⟨g1, g2, gs, m3_, m7_, m9_, m11_, ha, Q_BB, Q_I1, Q_I2, Q_KS, Q_X3_, Q_X7_, Q_X9_, Q_X11_⟩ hb_ hon hoff
   refine ⟨_, rfl, fun K hK => ?_⟩
   have e21 : a.tmps[21]? = some (m9_) := by rw [ha]; exact putSel_on (e := (9, 21, m9_)) 9 rfl rfl (hon 9 (by kernel_rfl)) rfl
   rw [Q_X9_ (hon 9 (by kernel_rfl))] at e21
   replace ha := Aside0.mk ha
   have BB := Aside0.mk Q_BB
   have I2 := Aside0.mk (Q_I2 (hon 9 (by kernel_rfl)) hb_)
   refine goes_ Try.func49 (by kernel_rfl) rfl #[.pointer (some ⟨g2, 0, none⟩), .int .i64 4] (by rfl) rfl rfl Z158 ?_
   refine (spec_l20Rd_pick.calls k g2 bb pp 4 2 p2 w _ I2.out BB.out AU.out).mono ?_
   rintro e w8 ⟨rfl, hi9, hb9, hk9⟩
   refine ⟨_, rfl, ?_⟩
   refine hK.out _ _ ⟨g1, g2, gs, m3_, m7_, m9_, m11_, Z12, hb9, fun _ h1_ => absurd ((hon 4 (by kernel_rfl)).symm.trans h1_) (by decide), fun _ h1_ => absurd ((up_self b 10).symm.trans h1_) (by decide), fun h0_ => hk9.blk (Q_KS h0_) (fun e_ => (IsS76.ne_blk I2.out (Q_KS h0_) (by decide)) e_.symm) (by simp), Q_X3_, Q_X7_, Q_X9_, fun h0_ => absurd ((hoff 11 (by kernel_rfl)).symm.trans h0_) (by decide)⟩
  refine steps_cons ?_ ?_
  ·rintro b a w' ⟨g1, g2, gs, m3_, m7_, m9_, m11_, ha, Q_BB, Q_I1, Q_I2, Q_KS, Q_X3_, Q_X7_, Q_X9_, Q_X11_⟩ hb_ hon hoff
   refine ⟨_, rfl, fun K hK => ?_⟩
   have e19 : a.tmps[19]? = some (m7_) := by rw [ha]; exact putSel_on (e := (7, 19, m7_)) 7 rfl rfl (hon 7 (by kernel_rfl)) rfl
   rw [Q_X7_ (hon 7 (by kernel_rfl))] at e19
   have e22 : a.tmps[22]? = some (.int .i64 2) := by rw [ha]; exact putSel_on (e := (10, 22, .int .i64 2)) 10 rfl rfl (hon 10 (by kernel_rfl)) rfl
   replace ha := Aside0.mk ha
   have BB := Aside0.mk Q_BB
   have KS := Aside0.mk (Q_KS (hon 7 (by kernel_rfl)))
   refine value_ (w1 := w') (v := .pointer (some ⟨gs, 2, none⟩)) (by rfl) rfl ?_ ?_
   ·go_simp
    (try simp only [i64_w])
    try rfl
   refine hK.out _ _ ⟨g1, g2, gs, m3_, m7_, m9_, (.pointer (some ⟨gs, 2, none⟩)), Z13, Q_BB, fun _ h1_ => absurd ((hon 4 (by kernel_rfl)).symm.trans h1_) (by decide), fun _ h1_ => absurd ((hon 10 (by kernel_rfl)).symm.trans h1_) (by decide), Q_KS, Q_X3_, Q_X7_, Q_X9_, fun _ => rfl⟩
  refine steps_cons ?_ ?_
  ·rintro b a w' ⟨g1, g2, gs, m3_, m7_, m9_, m11_, ha, Q_BB, Q_I1, Q_I2, Q_KS, Q_X3_, Q_X7_, Q_X9_, Q_X11_⟩ hb_ hon hoff
   refine ⟨_, rfl, fun K hK => ?_⟩
   have e23 : a.tmps[23]? = some (m11_) := by rw [ha]; exact putSel_on (e := (11, 23, m11_)) 11 rfl rfl (hon 11 (by kernel_rfl)) rfl
   rw [Q_X11_ (hon 11 (by kernel_rfl))] at e23
   replace ha := Aside0.mk ha
   have BB := Aside0.mk Q_BB
   have KS := Aside0.mk (Q_KS (hon 7 (by kernel_rfl)))
   have hld := (blk_cell KS.out 2).trans (show _ = some (.int .i64 9223372036854775807) from rfl)
   refine value_ (w1 := w') (v := .int .i64 9223372036854775807) (by rfl) rfl ?_ ?_
   ·go_simp
    (try simp only [i64_w])
    try rfl
   refine hK.out _ _ ⟨g1, g2, gs, m3_, m7_, m9_, m11_, Z14, Q_BB, fun _ h1_ => absurd ((hon 4 (by kernel_rfl)).symm.trans h1_) (by decide), fun _ h1_ => absurd ((hon 10 (by kernel_rfl)).symm.trans h1_) (by decide), Q_KS, Q_X3_, Q_X7_, Q_X9_, Q_X11_⟩
  refine steps_cons ?_ ?_
  ·rintro b a w' ⟨g1, g2, gs, m3_, m7_, m9_, m11_, ha, Q_BB, Q_I1, Q_I2, Q_KS, Q_X3_, Q_X7_, Q_X9_, Q_X11_⟩ hb_ hon hoff
   refine ⟨_, rfl, fun K hK => ?_⟩
   have e12 : a.tmps[12]? = some (.string r1) := by rw [ha]; exact putSel_on (e := (0, 12, .string r1)) 0 rfl rfl (hon 0 (by kernel_rfl)) rfl
   replace ha := Aside0.mk ha
   have BB := Aside0.mk Q_BB
   refine value_ (w1 := w') (v := .string r1) (by rfl) rfl ?_ ?_
   ·go_simp
    (try simp only [i64_w])
    try rfl
   refine hK.out _ _ ⟨g1, g2, gs, m3_, m7_, m9_, m11_, Z15, Q_BB, fun _ h1_ => absurd ((hon 4 (by kernel_rfl)).symm.trans h1_) (by decide), fun _ h1_ => absurd ((hon 10 (by kernel_rfl)).symm.trans h1_) (by decide), Q_KS, Q_X3_, Q_X7_, Q_X9_, Q_X11_⟩
  refine steps_cons ?_ ?_
  ·rintro b a w' ⟨g1, g2, gs, m3_, m7_, m9_, m11_, ha, Q_BB, Q_I1, Q_I2, Q_KS, Q_X3_, Q_X7_, Q_X9_, Q_X11_⟩ hb_ hon hoff
   refine ⟨_, rfl, fun K hK => ?_⟩
   have e13 : a.tmps[13]? = some (.string r2) := by rw [ha]; exact putSel_on (e := (1, 13, .string r2)) 1 rfl rfl (hon 1 (by kernel_rfl)) rfl
   replace ha := Aside0.mk ha
   have BB := Aside0.mk Q_BB
   refine value_ (w1 := w') (v := .string r2) (by rfl) rfl ?_ ?_
   ·go_simp
    (try simp only [i64_w])
    try rfl
   refine hK.out _ _ ⟨g1, g2, gs, m3_, m7_, m9_, m11_, Z16, Q_BB, fun _ h1_ => absurd ((hon 4 (by kernel_rfl)).symm.trans h1_) (by decide), fun _ h1_ => absurd ((hon 10 (by kernel_rfl)).symm.trans h1_) (by decide), Q_KS, Q_X3_, Q_X7_, Q_X9_, Q_X11_⟩
  refine steps_cons ?_ ?_
  ·rintro b a w' ⟨g1, g2, gs, m3_, m7_, m9_, m11_, ha, Q_BB, Q_I1, Q_I2, Q_KS, Q_X3_, Q_X7_, Q_X9_, Q_X11_⟩ hb_ hon hoff
   refine ⟨_, rfl, fun K hK => ?_⟩
   have e24 : a.tmps[24]? = some (.int .i64 9223372036854775807) := by rw [ha]; exact putSel_on (e := (12, 24, .int .i64 9223372036854775807)) 12 rfl rfl (hon 12 (by kernel_rfl)) rfl
   replace ha := Aside0.mk ha
   have BB := Aside0.mk Q_BB
   have KS := Aside0.mk (Q_KS (hon 7 (by kernel_rfl)))
   refine value_ (w1 := w') (v := .int .i64 9223372036854775807) (by rfl) rfl ?_ ?_
   ·go_simp
    (try simp only [i64_w])
    try rfl
   refine hK.out _ _ ⟨g1, g2, gs, m3_, m7_, m9_, m11_, Z17, Q_BB, fun _ h1_ => absurd ((hon 4 (by kernel_rfl)).symm.trans h1_) (by decide), fun _ h1_ => absurd ((hon 10 (by kernel_rfl)).symm.trans h1_) (by decide), Q_KS, Q_X3_, Q_X7_, Q_X9_, Q_X11_⟩
  exact steps_nil
 ·rintro b a w' hall ⟨g1, g2, gs, m3_, m7_, m9_, m11_, ha, Q_BB, Q_I1, Q_I2, Q_KS, Q_X3_, Q_X7_, Q_X9_, Q_X11_⟩
  clear BB
  have hb0_ := hall 0 (by kernel_rfl)
  have hb1_ := hall 1 (by kernel_rfl)
  have hb2_ := hall 2 (by kernel_rfl)
  have hb3_ := hall 3 (by kernel_rfl)
  have hb4_ := hall 4 (by kernel_rfl)
  have hb5_ := hall 5 (by kernel_rfl)
  have hb6_ := hall 6 (by kernel_rfl)
  have hb7_ := hall 7 (by kernel_rfl)
  have hb8_ := hall 8 (by kernel_rfl)
  have hb9_ := hall 9 (by kernel_rfl)
  have hb10_ := hall 10 (by kernel_rfl)
  have hb11_ := hall 11 (by kernel_rfl)
  have hb12_ := hall 12 (by kernel_rfl)
  have hb13_ := hall 13 (by kernel_rfl)
  have hb14_ := hall 14 (by kernel_rfl)
  have hb15_ := hall 15 (by kernel_rfl)
  subst ha
  obtain rfl := Q_X3_ hb3_
  obtain rfl := Q_X7_ hb7_
  obtain rfl := Q_X9_ hb9_
  obtain rfl := Q_X11_ hb11_
  simp only [putSel, hb0_, hb1_, hb2_, hb3_, hb4_, hb5_, hb6_, hb7_, hb8_, hb9_, hb10_, hb11_, hb12_, hb13_, hb14_, hb15_, if_true, Act.put, List.setIfInBounds_toArray, List.set_cons_zero, List.set_cons_succ]
  have BB := Aside0.mk Q_BB
  clear Q_BB
  clear Q_I1
  clear Q_I2
  have KS := Aside0.mk (Q_KS hb7_)
  clear Q_KS
  clear hall hb0_ hb1_ hb2_ hb3_ hb4_ hb5_ hb6_ hb7_ hb8_ hb9_ hb10_ hb11_ hb12_ hb13_ hb14_ hb15_
  try go_wp2
  first | go_ret | go_ret3
  exact ⟨rfl, BB.out⟩
set_option maxHeartbeats 8000000 in
set_option maxRecDepth 100000 in
theorem spec_DrawPosThere.way3 (k : Nat) (A0 : Option Addr) (c0 : Nat) (l0 : List Int) (r1 r2 : ByteArray) (bb : List Int) (pp v p1 p2 : Int) (w : World) (hr0 : Kd.C (Kd.int .u8) w A0 l0.length l0) (hc0 : l0.length ≤ c0) (h1 : spec_DrawPosPairs.f k l0 = some (r1, r2)) (h2 : spec_l20Open.f l0 = some (bb, pp)) (h3 : spec_l20Rd_pick.f k bb pp 130 = some (v, p1)) (h4 : spec_l20Rd_pick.f k bb pp 4 = some (3, p2)) :
  Calls Try.prog 34 #[.slice A0 l0.length c0] w fun e w' => e = .returned (.tuple #[.string r1, .string r2, .int .i64 (r2.size : Int)]) ∧ Below w.heap.size w w' := by
 have HR0 := Aside0.mk hr0
 have HC0 := Aside0.mk hc0
 have AO := Aside0.mk h2
 have AP := Aside0.mk h3
 have AU := Aside0.mk h4
 have AD := Aside0.mk h1
 clear hr0 hc0 h1 h2 h3 h4
 go_enter Try.func34, Try.ntmps34
 go_wp2_with (go_at_call 32; refine (spec_DrawPosPairs.calls k A0 c0 l0 r1 r2 _ HR0.out HC0.out AD.out).mono ?_; rintro e W1 ⟨rfl, hb⟩; have BB := Aside0.mk (below_drew1 hb); clear hb)
 refine start_ (n := 16) (S := fun w' => True) (ds := []) #[false, false, false, false, false, false, false, false, false, false, false, false, false, false, false, false] (by kernel_rfl) rfl rfl trivial (fun hHeld => ?_)
 generalize W1.drew = w5 at BB hHeld ⊢
 refine with_tabW spec_DrawPosThere.tab2 spec_DrawPosThere.bits2 (fun HT_ HW_ => ?_)
 refine inv_at [0, 1, 2, 3, 4, 5, 6, 7, 8, 9, 10, 11, 12, 13, 14, 15] (fun a0_ b a w' => ∃ (g1 : Nat) (g2 : Nat) (gs : Nat) (m3_ : Value) (m7_ : Value) (m9_ : Value) (m11_ : Value), a = putSel a0_ b [(0, 12, .string r1), (1, 13, .string r2), (2, 14, .slice A0 l0.length c0), (3, 15, m3_), (4, 16, .int .i64 v), (5, 17, .string r2), (6, 18, .int .i64 (r2.size : Int)), (7, 19, m7_), (8, 20, .slice A0 l0.length c0), (9, 21, m9_), (10, 22, .int .i64 3), (11, 23, m11_), (12, 24, .int .i64 (r2.size : Int)), (13, 2, .string r1), (14, 3, .string r2), (15, 4, .int .i64 (r2.size : Int))] ∧ (Below w.heap.size w w') ∧ (b 3 = true → b 4 = false → IsS76 w w' g1 bb pp) ∧ (b 9 = true → b 10 = false → IsS76 w w' g2 bb pp) ∧ (b 7 = true → w'.heap[gs]? = some (.cells #[.int .i64 v, .int .i64 (-1), .int .i64 9223372036854775807, .int .i64 (r2.size : Int)] 3 (0, 0))) ∧ (b 3 = true → (m3_ : Value) = .pointer (some ⟨g1, 0, none⟩)) ∧ (b 7 = true → (m7_ : Value) = .slice (some ⟨gs, 0, none⟩) 4 4) ∧ (b 9 = true → (m9_ : Value) = .pointer (some ⟨g2, 0, none⟩)) ∧ (b 11 = true → (m11_ : Value) = .pointer (some ⟨gs, 3, none⟩))) HT_.out HW_.out (by kernel_rfl) (by kernel_rfl) ?_ ?_ ?_
 ·exact ⟨0, 0, 0, .bool false, .bool false, .bool false, .bool false, by simp only [putSel, Bool.false_eq_true, if_false], BB.out, fun h_ => absurd h_ (by decide), fun h_ => absurd h_ (by decide), fun h_ => absurd h_ (by decide), fun h_ => absurd h_ (by decide), fun h_ => absurd h_ (by decide), fun h_ => absurd h_ (by decide), fun h_ => absurd h_ (by decide)⟩
 ·skip
  clear BB
  refine steps_cons ?_ ?_
  ·rintro b a w' ⟨g1, g2, gs, m3_, m7_, m9_, m11_, ha, Q_BB, Q_I1, Q_I2, Q_KS, Q_X3_, Q_X7_, Q_X9_, Q_X11_⟩ hb_ hon hoff
   refine ⟨_, rfl, fun K hK => ?_⟩
   have e5 : a.tmps[5]? = some (.string r1) := by rw [ha]; exact (putSel_off rfl).trans rfl
   replace ha := Aside0.mk ha
   have BB := Aside0.mk Q_BB
   refine value_ (w1 := w') (v := .string r1) (by rfl) rfl ?_ ?_
   ·go_simp
    (try simp only [i64_w])
    try rfl
   refine hK.out _ _ ⟨g1, g2, gs, m3_, m7_, m9_, m11_, Z1, Q_BB, Q_I1, Q_I2, Q_KS, Q_X3_, Q_X7_, Q_X9_, Q_X11_⟩
  refine steps_cons ?_ ?_
  ·rintro b a w' ⟨g1, g2, gs, m3_, m7_, m9_, m11_, ha, Q_BB, Q_I1, Q_I2, Q_KS, Q_X3_, Q_X7_, Q_X9_, Q_X11_⟩ hb_ hon hoff
   refine ⟨_, rfl, fun K hK => ?_⟩
   have e6 : a.tmps[6]? = some (.string r2) := by rw [ha]; exact (putSel_off rfl).trans rfl
   replace ha := Aside0.mk ha
   have BB := Aside0.mk Q_BB
   refine value_ (w1 := w') (v := .string r2) (by rfl) rfl ?_ ?_
   ·go_simp
    (try simp only [i64_w])
    try rfl
   refine hK.out _ _ ⟨g1, g2, gs, m3_, m7_, m9_, m11_, Z2, Q_BB, Q_I1, Q_I2, Q_KS, Q_X3_, Q_X7_, Q_X9_, Q_X11_⟩
  refine steps_cons ?_ ?_
  ·rintro b a w' ⟨g1, g2, gs, m3_, m7_, m9_, m11_, ha, Q_BB, Q_I1, Q_I2, Q_KS, Q_X3_, Q_X7_, Q_X9_, Q_X11_⟩ hb_ hon hoff
   refine ⟨_, rfl, fun K hK => ?_⟩
   have e0 : a.tmps[0]? = some (.slice A0 l0.length c0) := by rw [ha]; exact (putSel_off rfl).trans rfl
   replace ha := Aside0.mk ha
   have BB := Aside0.mk Q_BB
   refine value_ (w1 := w') (v := .slice A0 l0.length c0) (by rfl) rfl ?_ ?_
   ·go_simp
    (try simp only [i64_w])
    try rfl
   refine hK.out _ _ ⟨g1, g2, gs, m3_, m7_, m9_, m11_, Z3, Q_BB, fun h0_ _ => absurd ((hoff 3 (by kernel_rfl)).symm.trans h0_) (by decide), fun h0_ _ => absurd ((hoff 9 (by kernel_rfl)).symm.trans h0_) (by decide), fun h0_ => absurd ((hoff 7 (by kernel_rfl)).symm.trans h0_) (by decide), fun h0_ => absurd ((hoff 3 (by kernel_rfl)).symm.trans h0_) (by decide), fun h0_ => absurd ((hoff 7 (by kernel_rfl)).symm.trans h0_) (by decide), fun h0_ => absurd ((hoff 9 (by kernel_rfl)).symm.trans h0_) (by decide), fun h0_ => absurd ((hoff 11 (by kernel_rfl)).symm.trans h0_) (by decide)⟩
  refine steps_cons ?_ ?_
  ·rintro b a w' ⟨g1, g2, gs, m3_, m7_, m9_, m11_, ha, Q_BB, Q_I1, Q_I2, Q_KS, Q_X3_, Q_X7_, Q_X9_, Q_X11_⟩ hb_ hon hoff
   refine ⟨_, rfl, fun K hK => ?_⟩
   have e14 : a.tmps[14]? = some (.slice A0 l0.length c0) := by rw [ha]; exact putSel_on (e := (2, 14, .slice A0 l0.length c0)) 2 rfl rfl (hon 2 (by kernel_rfl)) rfl
   replace ha := Aside0.mk ha
   have BB := Aside0.mk Q_BB
   refine goes_ Try.func46 (by kernel_rfl) rfl #[.slice A0 l0.length c0] (by rfl) rfl rfl Z155 ?_
   refine (spec_l20Open.calls A0 c0 l0 bb pp w _ BB.out HR0.out HC0.out AO.out).mono ?_
   rintro e w8 ⟨g9, rfl, hi9, hb9, hk9⟩
   refine ⟨_, rfl, ?_⟩
   refine hK.out _ _ ⟨g9, g2, gs, (.pointer (some ⟨g9, 0, none⟩)), m7_, m9_, m11_, Z4, hb9, fun _ _ => hi9, fun h0_ _ => absurd ((hoff 9 (by kernel_rfl)).symm.trans h0_) (by decide), fun h0_ => absurd ((hoff 7 (by kernel_rfl)).symm.trans h0_) (by decide), fun _ => rfl, fun h0_ => absurd ((hoff 7 (by kernel_rfl)).symm.trans h0_) (by decide), fun h0_ => absurd ((hoff 9 (by kernel_rfl)).symm.trans h0_) (by decide), fun h0_ => absurd ((hoff 11 (by kernel_rfl)).symm.trans h0_) (by decide)⟩
  refine steps_cons ?_ ?_
  ·rintro b a w' ⟨g1, g2, gs, m3_, m7_, m9_, m11_, ha, Q_BB, Q_I1, Q_I2, Q_KS, Q_X3_, Q_X7_, Q_X9_, Q_X11_⟩ hb_ hon hoff
   refine ⟨_, rfl, fun K hK => ?_⟩
   have e15 : a.tmps[15]? = some (m3_) := by rw [ha]; exact putSel_on (e := (3, 15, m3_)) 3 rfl rfl (hon 3 (by kernel_rfl)) rfl
   rw [Q_X3_ (hon 3 (by kernel_rfl))] at e15
   replace ha := Aside0.mk ha
   have BB := Aside0.mk Q_BB
   have I1 := Aside0.mk (Q_I1 (hon 3 (by kernel_rfl)) hb_)
   refine goes_ Try.func49 (by kernel_rfl) rfl #[.pointer (some ⟨g1, 0, none⟩), .int .i64 130] (by rfl) rfl rfl Z156 ?_
   refine (spec_l20Rd_pick.calls k g1 bb pp 130 v p1 w _ I1.out BB.out AP.out).mono ?_
   rintro e w8 ⟨rfl, hi9, hb9, hk9⟩
   refine ⟨_, rfl, ?_⟩
   refine hK.out _ _ ⟨g1, g2, gs, m3_, m7_, m9_, m11_, Z5, hb9, fun _ h1_ => absurd ((up_self b 4).symm.trans h1_) (by decide), fun h0_ _ => absurd ((hoff 9 (by kernel_rfl)).symm.trans h0_) (by decide), fun h0_ => absurd ((hoff 7 (by kernel_rfl)).symm.trans h0_) (by decide), Q_X3_, fun h0_ => absurd ((hoff 7 (by kernel_rfl)).symm.trans h0_) (by decide), fun h0_ => absurd ((hoff 9 (by kernel_rfl)).symm.trans h0_) (by decide), fun h0_ => absurd ((hoff 11 (by kernel_rfl)).symm.trans h0_) (by decide)⟩
  refine steps_cons ?_ ?_
  ·rintro b a w' ⟨g1, g2, gs, m3_, m7_, m9_, m11_, ha, Q_BB, Q_I1, Q_I2, Q_KS, Q_X3_, Q_X7_, Q_X9_, Q_X11_⟩ hb_ hon hoff
   refine ⟨_, rfl, fun K hK => ?_⟩
   have e6 : a.tmps[6]? = some (.string r2) := by rw [ha]; exact (putSel_off rfl).trans rfl
   replace ha := Aside0.mk ha
   have BB := Aside0.mk Q_BB
   refine value_ (w1 := w') (v := .string r2) (by rfl) rfl ?_ ?_
   ·go_simp
    (try simp only [i64_w])
    try rfl
   refine hK.out _ _ ⟨g1, g2, gs, m3_, m7_, m9_, m11_, Z6, Q_BB, Q_I1, Q_I2, fun h0_ => absurd ((hoff 7 (by kernel_rfl)).symm.trans h0_) (by decide), Q_X3_, fun h0_ => absurd ((hoff 7 (by kernel_rfl)).symm.trans h0_) (by decide), Q_X9_, fun h0_ => absurd ((hoff 11 (by kernel_rfl)).symm.trans h0_) (by decide)⟩
  refine steps_cons ?_ ?_
  ·rintro b a w' ⟨g1, g2, gs, m3_, m7_, m9_, m11_, ha, Q_BB, Q_I1, Q_I2, Q_KS, Q_X3_, Q_X7_, Q_X9_, Q_X11_⟩ hb_ hon hoff
   refine ⟨_, rfl, fun K hK => ?_⟩
   have e17 : a.tmps[17]? = some (.string r2) := by rw [ha]; exact putSel_on (e := (5, 17, .string r2)) 5 rfl rfl (hon 5 (by kernel_rfl)) rfl
   replace ha := Aside0.mk ha
   have BB := Aside0.mk Q_BB
   refine value_ (w1 := w') (v := .int .i64 (r2.size : Int)) (by rfl) rfl ?_ ?_
   ·go_simp
    (try simp only [i64_w])
    try rfl
   refine hK.out _ _ ⟨g1, g2, gs, m3_, m7_, m9_, m11_, Z7, Q_BB, Q_I1, Q_I2, fun h0_ => absurd ((hoff 7 (by kernel_rfl)).symm.trans h0_) (by decide), Q_X3_, fun h0_ => absurd ((hoff 7 (by kernel_rfl)).symm.trans h0_) (by decide), Q_X9_, fun h0_ => absurd ((hoff 11 (by kernel_rfl)).symm.trans h0_) (by decide)⟩
  refine steps_cons ?_ ?_
  ·rintro b a w' ⟨g1, g2, gs, m3_, m7_, m9_, m11_, ha, Q_BB, Q_I1, Q_I2, Q_KS, Q_X3_, Q_X7_, Q_X9_, Q_X11_⟩ hb_ hon hoff
   refine ⟨_, rfl, fun K hK => ?_⟩
   have e16 : a.tmps[16]? = some (.int .i64 v) := by rw [ha]; exact putSel_on (e := (4, 16, .int .i64 v)) 4 rfl rfl (hon 4 (by kernel_rfl)) rfl
   have e18 : a.tmps[18]? = some (.int .i64 (r2.size : Int)) := by rw [ha]; exact putSel_on (e := (6, 18, .int .i64 (r2.size : Int))) 6 rfl rfl (hon 6 (by kernel_rfl)) rfl
   replace ha := Aside0.mk ha
   have BB := Aside0.mk Q_BB
   refine value_ (w1 := w'.alloc (.cells #[.int .i64 v, .int .i64 (-1), .int .i64 9223372036854775807, .int .i64 (r2.size : Int)] 3)) (v := .slice (some ⟨w'.heap.size, 0, none⟩) 4 4) (by rfl) rfl ?_ ?_
   ·go_simp
    try rfl
   refine hK.out _ _ ⟨g1, g2, w'.heap.size, m3_, (.slice (some ⟨w'.heap.size, 0, none⟩) 4 4), m9_, m11_, Z8, below_alloc BB.out _, fun _ h1_ => absurd ((hon 4 (by kernel_rfl)).symm.trans h1_) (by decide), fun h0_ h1_ => IsS76.alloc (Q_I2 h0_ h1_) _, fun _ => blk_new _ _, Q_X3_, fun _ => rfl, Q_X9_, fun h0_ => absurd ((hoff 11 (by kernel_rfl)).symm.trans h0_) (by decide)⟩
  refine steps_cons ?_ ?_
  ·rintro b a w' ⟨g1, g2, gs, m3_, m7_, m9_, m11_, ha, Q_BB, Q_I1, Q_I2, Q_KS, Q_X3_, Q_X7_, Q_X9_, Q_X11_⟩ hb_ hon hoff
   refine ⟨_, rfl, fun K hK => ?_⟩
   have e0 : a.tmps[0]? = some (.slice A0 l0.length c0) := by rw [ha]; exact (putSel_off rfl).trans rfl
   replace ha := Aside0.mk ha
   have BB := Aside0.mk Q_BB
   refine value_ (w1 := w') (v := .slice A0 l0.length c0) (by rfl) rfl ?_ ?_
   ·go_simp
    (try simp only [i64_w])
    try rfl
   refine hK.out _ _ ⟨g1, g2, gs, m3_, m7_, m9_, m11_, Z9, Q_BB, Q_I1, fun h0_ _ => absurd ((hoff 9 (by kernel_rfl)).symm.trans h0_) (by decide), Q_KS, Q_X3_, Q_X7_, fun h0_ => absurd ((hoff 9 (by kernel_rfl)).symm.trans h0_) (by decide), fun h0_ => absurd ((hoff 11 (by kernel_rfl)).symm.trans h0_) (by decide)⟩
  refine steps_cons ?_ ?_
  ·rintro b a w' ⟨g1, g2, gs, m3_, m7_, m9_, m11_, ha, Q_BB, Q_I1, Q_I2, Q_KS, Q_X3_, Q_X7_, Q_X9_, Q_X11_⟩ hb_ hon hoff
   refine ⟨_, rfl, fun K hK => ?_⟩
   have e20 : a.tmps[20]? = some (.slice A0 l0.length c0) := by rw [ha]; exact putSel_on (e := (8, 20, .slice A0 l0.length c0)) 8 rfl rfl (hon 8 (by kernel_rfl)) rfl
   replace ha := Aside0.mk ha
   have BB := Aside0.mk Q_BB
   refine goes_ Try.func46 (by kernel_rfl) rfl #[.slice A0 l0.length c0] (by rfl) rfl rfl Z157 ?_
   refine (spec_l20Open.calls A0 c0 l0 bb pp w _ BB.out HR0.out HC0.out AO.out).mono ?_
   rintro e w8 ⟨g9, rfl, hi9, hb9, hk9⟩
   refine ⟨_, rfl, ?_⟩
   refine hK.out _ _ ⟨g1, g9, gs, m3_, m7_, (.pointer (some ⟨g9, 0, none⟩)), m11_, Z10, hb9, fun _ h1_ => absurd ((hon 4 (by kernel_rfl)).symm.trans h1_) (by decide), fun _ _ => hi9, fun h0_ => blk_below (Q_KS h0_) hk9, Q_X3_, Q_X7_, fun _ => rfl, fun h0_ => absurd ((hoff 11 (by kernel_rfl)).symm.trans h0_) (by decide)⟩
  refine steps_cons ?_ ?_
  ·rintro b a w' ⟨g1, g2, gs, m3_, m7_, m9_, m11_, ha, Q_BB, Q_I1, Q_I2, Q_KS, Q_X3_, Q_X7_, Q_X9_, Q_X11_⟩ hb_ hon hoff
   refine ⟨_, rfl, fun K hK => ?_⟩
   have e21 : a.tmps[21]? = some (m9_) := by rw [ha]; exact putSel_on (e := (9, 21, m9_)) 9 rfl rfl (hon 9 (by kernel_rfl)) rfl
   rw [Q_X9_ (hon 9 (by kernel_rfl))] at e21
   replace ha := Aside0.mk ha
   have BB := Aside0.mk Q_BB
   have I2 := Aside0.mk (Q_I2 (hon 9 (by kernel_rfl)) hb_)
   refine goes_ Try.func49 (by kernel_rfl) rfl #[.pointer (some ⟨g2, 0, none⟩), .int .i64 4] (by rfl) rfl rfl Z158 ?_
   refine (spec_l20Rd_pick.calls k g2 bb pp 4 3 p2 w _ I2.out BB.out AU.out).mono ?_
   rintro e w8 ⟨rfl, hi9, hb9, hk9⟩
   refine ⟨_, rfl, ?_⟩
   refine hK.out _ _ ⟨g1, g2, gs, m3_, m7_, m9_, m11_, Z12, hb9, fun _ h1_ => absurd ((hon 4 (by kernel_rfl)).symm.trans h1_) (by decide), fun _ h1_ => absurd ((up_self b 10).symm.trans h1_) (by decide), fun h0_ => hk9.blk (Q_KS h0_) (fun e_ => (IsS76.ne_blk I2.out (Q_KS h0_) (by decide)) e_.symm) (by simp), Q_X3_, Q_X7_, Q_X9_, fun h0_ => absurd ((hoff 11 (by kernel_rfl)).symm.trans h0_) (by decide)⟩
  refine steps_cons ?_ ?_
  ·rintro b a w' ⟨g1, g2, gs, m3_, m7_, m9_, m11_, ha, Q_BB, Q_I1, Q_I2, Q_KS, Q_X3_, Q_X7_, Q_X9_, Q_X11_⟩ hb_ hon hoff
   refine ⟨_, rfl, fun K hK => ?_⟩
   have e19 : a.tmps[19]? = some (m7_) := by rw [ha]; exact putSel_on (e := (7, 19, m7_)) 7 rfl rfl (hon 7 (by kernel_rfl)) rfl
   rw [Q_X7_ (hon 7 (by kernel_rfl))] at e19
   have e22 : a.tmps[22]? = some (.int .i64 3) := by rw [ha]; exact putSel_on (e := (10, 22, .int .i64 3)) 10 rfl rfl (hon 10 (by kernel_rfl)) rfl
   replace ha := Aside0.mk ha
   have BB := Aside0.mk Q_BB
   have KS := Aside0.mk (Q_KS (hon 7 (by kernel_rfl)))
   refine value_ (w1 := w') (v := .pointer (some ⟨gs, 3, none⟩)) (by rfl) rfl ?_ ?_
   ·go_simp
    (try simp only [i64_w])
    try rfl
   refine hK.out _ _ ⟨g1, g2, gs, m3_, m7_, m9_, (.pointer (some ⟨gs, 3, none⟩)), Z13, Q_BB, fun _ h1_ => absurd ((hon 4 (by kernel_rfl)).symm.trans h1_) (by decide), fun _ h1_ => absurd ((hon 10 (by kernel_rfl)).symm.trans h1_) (by decide), Q_KS, Q_X3_, Q_X7_, Q_X9_, fun _ => rfl⟩
  refine steps_cons ?_ ?_
  ·rintro b a w' ⟨g1, g2, gs, m3_, m7_, m9_, m11_, ha, Q_BB, Q_I1, Q_I2, Q_KS, Q_X3_, Q_X7_, Q_X9_, Q_X11_⟩ hb_ hon hoff
   refine ⟨_, rfl, fun K hK => ?_⟩
   have e23 : a.tmps[23]? = some (m11_) := by rw [ha]; exact putSel_on (e := (11, 23, m11_)) 11 rfl rfl (hon 11 (by kernel_rfl)) rfl
   rw [Q_X11_ (hon 11 (by kernel_rfl))] at e23
   replace ha := Aside0.mk ha
   have BB := Aside0.mk Q_BB
   have KS := Aside0.mk (Q_KS (hon 7 (by kernel_rfl)))
   have hld := (blk_cell KS.out 3).trans (show _ = some (.int .i64 (r2.size : Int)) from rfl)
   refine value_ (w1 := w') (v := .int .i64 (r2.size : Int)) (by rfl) rfl ?_ ?_
   ·go_simp
    (try simp only [i64_w])
    try rfl
   refine hK.out _ _ ⟨g1, g2, gs, m3_, m7_, m9_, m11_, Z14, Q_BB, fun _ h1_ => absurd ((hon 4 (by kernel_rfl)).symm.trans h1_) (by decide), fun _ h1_ => absurd ((hon 10 (by kernel_rfl)).symm.trans h1_) (by decide), Q_KS, Q_X3_, Q_X7_, Q_X9_, Q_X11_⟩
  refine steps_cons ?_ ?_
  ·rintro b a w' ⟨g1, g2, gs, m3_, m7_, m9_, m11_, ha, Q_BB, Q_I1, Q_I2, Q_KS, Q_X3_, Q_X7_, Q_X9_, Q_X11_⟩ hb_ hon hoff
   refine ⟨_, rfl, fun K hK => ?_⟩
   have e12 : a.tmps[12]? = some (.string r1) := by rw [ha]; exact putSel_on (e := (0, 12, .string r1)) 0 rfl rfl (hon 0 (by kernel_rfl)) rfl
   replace ha := Aside0.mk ha
   have BB := Aside0.mk Q_BB
   refine value_ (w1 := w') (v := .string r1) (by rfl) rfl ?_ ?_
   ·go_simp
    (try simp only [i64_w])
    try rfl
   refine hK.out _ _ ⟨g1, g2, gs, m3_, m7_, m9_, m11_, Z15, Q_BB, fun _ h1_ => absurd ((hon 4 (by kernel_rfl)).symm.trans h1_) (by decide), fun _ h1_ => absurd ((hon 10 (by kernel_rfl)).symm.trans h1_) (by decide), Q_KS, Q_X3_, Q_X7_, Q_X9_, Q_X11_⟩
  refine steps_cons ?_ ?_
  ·rintro b a w' ⟨g1, g2, gs, m3_, m7_, m9_, m11_, ha, Q_BB, Q_I1, Q_I2, Q_KS, Q_X3_, Q_X7_, Q_X9_, Q_X11_⟩ hb_ hon hoff
   refine ⟨_, rfl, fun K hK => ?_⟩
   have e13 : a.tmps[13]? = some (.string r2) := by rw [ha]; exact putSel_on (e := (1, 13, .string r2)) 1 rfl rfl (hon 1 (by kernel_rfl)) rfl
   replace ha := Aside0.mk ha
   have BB := Aside0.mk Q_BB
   refine value_ (w1 := w') (v := .string r2) (by rfl) rfl ?_ ?_
   ·go_simp
    (try simp only [i64_w])
    try rfl
   refine hK.out _ _ ⟨g1, g2, gs, m3_, m7_, m9_, m11_, Z16, Q_BB, fun _ h1_ => absurd ((hon 4 (by kernel_rfl)).symm.trans h1_) (by decide), fun _ h1_ => absurd ((hon 10 (by kernel_rfl)).symm.trans h1_) (by decide), Q_KS, Q_X3_, Q_X7_, Q_X9_, Q_X11_⟩
  refine steps_cons ?_ ?_
  ·rintro b a w' ⟨g1, g2, gs, m3_, m7_, m9_, m11_, ha, Q_BB, Q_I1, Q_I2, Q_KS, Q_X3_, Q_X7_, Q_X9_, Q_X11_⟩ hb_ hon hoff
   refine ⟨_, rfl, fun K hK => ?_⟩
   have e24 : a.tmps[24]? = some (.int .i64 (r2.size : Int)) := by rw [ha]; exact putSel_on (e := (12, 24, .int .i64 (r2.size : Int))) 12 rfl rfl (hon 12 (by kernel_rfl)) rfl
   replace ha := Aside0.mk ha
   have BB := Aside0.mk Q_BB
   have KS := Aside0.mk (Q_KS (hon 7 (by kernel_rfl)))
   refine value_ (w1 := w') (v := .int .i64 (r2.size : Int)) (by rfl) rfl ?_ ?_
   ·go_simp
    (try simp only [i64_w])
    try rfl
   refine hK.out _ _ ⟨g1, g2, gs, m3_, m7_, m9_, m11_, Z17, Q_BB, fun _ h1_ => absurd ((hon 4 (by kernel_rfl)).symm.trans h1_) (by decide), fun _ h1_ => absurd ((hon 10 (by kernel_rfl)).symm.trans h1_) (by decide), Q_KS, Q_X3_, Q_X7_, Q_X9_, Q_X11_⟩
  exact steps_nil
 ·rintro b a w' hall ⟨g1, g2, gs, m3_, m7_, m9_, m11_, ha, Q_BB, Q_I1, Q_I2, Q_KS, Q_X3_, Q_X7_, Q_X9_, Q_X11_⟩
  clear BB
  have hb0_ := hall 0 (by kernel_rfl)
  have hb1_ := hall 1 (by kernel_rfl)
  have hb2_ := hall 2 (by kernel_rfl)
  have hb3_ := hall 3 (by kernel_rfl)
  have hb4_ := hall 4 (by kernel_rfl)
  have hb5_ := hall 5 (by kernel_rfl)
  have hb6_ := hall 6 (by kernel_rfl)
  have hb7_ := hall 7 (by kernel_rfl)
  have hb8_ := hall 8 (by kernel_rfl)
  have hb9_ := hall 9 (by kernel_rfl)
  have hb10_ := hall 10 (by kernel_rfl)
  have hb11_ := hall 11 (by kernel_rfl)
  have hb12_ := hall 12 (by kernel_rfl)
  have hb13_ := hall 13 (by kernel_rfl)
  have hb14_ := hall 14 (by kernel_rfl)
  have hb15_ := hall 15 (by kernel_rfl)
  subst ha
  obtain rfl := Q_X3_ hb3_
  obtain rfl := Q_X7_ hb7_
  obtain rfl := Q_X9_ hb9_
  obtain rfl := Q_X11_ hb11_
  simp only [putSel, hb0_, hb1_, hb2_, hb3_, hb4_, hb5_, hb6_, hb7_, hb8_, hb9_, hb10_, hb11_, hb12_, hb13_, hb14_, hb15_, if_true, Act.put, List.setIfInBounds_toArray, List.set_cons_zero, List.set_cons_succ]
  have BB := Aside0.mk Q_BB
  clear Q_BB
  clear Q_I1
  clear Q_I2
  have KS := Aside0.mk (Q_KS hb7_)
  clear Q_KS
  clear hall hb0_ hb1_ hb2_ hb3_ hb4_ hb5_ hb6_ hb7_ hb8_ hb9_ hb10_ hb11_ hb12_ hb13_ hb14_ hb15_
  try go_wp2
  first | go_ret | go_ret3
  exact ⟨rfl, BB.out⟩
set_option maxHeartbeats 8000000 in
theorem spec_DrawPosThere.calls (k : Nat) (A0 : Option Addr) (c0 : Nat) (l0 : List Int) (r1 : ByteArray) (r2 : ByteArray) (r3 : Int) (w : World) (hr0 : Kd.C (Kd.int .u8) w A0 l0.length l0) (hc0 : l0.length ≤ c0) (h : spec_DrawPosThere.f k l0 = some (r1, r2, r3)) :
  Calls Try.prog 34 #[.slice A0 l0.length c0] w fun e w' => e = .returned (.tuple #[.string r1, .string r2, .int .i64 r3]) ∧ Below w.heap.size w w' := by
 unfold spec_DrawPosThere.f at h
 obtain ⟨⟨s1, s2⟩, h1, h⟩ := Option.bind_eq_some_iff.mp h
 obtain ⟨⟨bb, pp⟩, h2, h⟩ := Option.bind_eq_some_iff.mp h
 obtain ⟨⟨v, p1⟩, h3, h⟩ := Option.bind_eq_some_iff.mp h
 rw [Option.bind_some] at h
 obtain ⟨⟨u, p2⟩, h4, h⟩ := Option.bind_eq_some_iff.mp h
 dsimp only at h1 h2 h3 h4 h
 by_cases c0_ : 0 ≤ u
 ·rw [if_pos c0_] at h
  by_cases c1_ : u < (([v, (-1), 9223372036854775807, (s2.size : Int)] : List Int).length : Int)
  ·rw [if_pos c1_] at h
   simp only [Option.some.injEq, Prod.mk.injEq] at h
   obtain ⟨rfl, rfl, rfl⟩ := h
   have c2_ : u < 4 := by simpa using c1_
   rcases (by omega : u = 0 ∨ u = 1 ∨ u = 2 ∨ u = 3) with rfl | rfl | rfl | rfl
   ·exact spec_DrawPosThere.way0 k A0 c0 l0 _ _ bb pp v p1 p2 w hr0 hc0 h1 h2 h3 h4
   ·exact spec_DrawPosThere.way1 k A0 c0 l0 _ _ bb pp v p1 p2 w hr0 hc0 h1 h2 h3 h4
   ·exact spec_DrawPosThere.way2 k A0 c0 l0 _ _ bb pp v p1 p2 w hr0 hc0 h1 h2 h3 h4
   ·exact spec_DrawPosThere.way3 k A0 c0 l0 _ _ bb pp v p1 p2 w hr0 hc0 h1 h2 h3 h4
  ·rw [if_neg c1_] at h; cases h
 ·rw [if_neg c0_] at h; cases h

end Go.Proofs.Ytmahgffkkdggcaa.QFnPosThere
