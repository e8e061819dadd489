-- Laid by a program of this repo (wip/tools/sprint.py): print.py's functions and walks; the contracts named 'BY HAND' are proved by hand.
import Derived.Test.YtmahgffkkdggcaaQFnPosPairsx0
import Derived.Test.YtmahgffkkdggcaaQFnPosPairsx3
import Derived.Test.YtmahgffkkdggcaaQFnPosPairsx5
import Derived.Test.YtmahgffkkdggcaaQFnPosPairsx6
import Derived.Test.YtmahgffkkdggcaaQFnPosPairsx7
import Derived.Test.YtmahgffkkdggcaaQFnPosPairsx8
import Derived.Test.YtmahgffkkdggcaaQFnPosPairsx11
import Derived.Test.YtmahgffkkdggcaaQFnPosPairsx12
import Derived.Test.YtmahgffkkdggcaaQFnPosPairsx14
namespace Go.Proofs.Ytmahgffkkdggcaa.QFnPosPairs
open Go.RowKit Go.Proofs.YtmahgffkkdggcaaW.PrintWords Go.Proofs.YtmahgffkkdggcaaW.PrintLast Go.Proofs.YtmahgffkkdggcaaW.PrintMore
attribute [local go_sem] max2_int min2_int max_two min_two max_three min_three max_four min_four   -- for this text's walks alone
set_option linter.unusedVariables false
set_option linter.unusedSimpArgs false

/-! ### spec_l3Stream: function 70 -/
def spec_l3Stream.l0 : Nat → List ByteArray → ByteArray → Int → List (S80) → Option ((List (S80)) × ByteArray)
 | 0, _, _, _, _ => none
 | k + 1, x6, x8, x9, x394000 => if x9 < (x6.length : Int) then (if 0 ≤ x9 then ((spec_l3Line.f k x394000 (rdOf ByteArray.empty x6 x9)).bind fun bt400 => (if x8.size + bt400.2.size ≤ 9223372036854775807 then (if (x8 ++ bt400.2).size + 1 ≤ 9223372036854775807 then (spec_l3Stream.l0 k x6 ((x8 ++ bt400.2) ++ (⟨#[59]⟩ : ByteArray)) (wrap64 (x9 + 1)) bt400.1) else (none)) else (none))) else (none)) else (some (x394000, x8))
def spec_l3Stream.f (k : Nat) (l0_0 : List (S80)) (a1 : ByteArray) : Option ((List (S80)) × ByteArray) := (spec_StrLines.f k a1).bind fun bt395 => (spec_l3Stream.l0 k bt395.1 (⟨#[]⟩ : ByteArray) 0 l0_0)
theorem spec_l3Stream.mono_l : ∀ k, (∀ y0 y1 y2 y3, LeO (spec_l3Stream.l0 k y0 y1 y2 y3) (spec_l3Stream.l0 (k + 1) y0 y1 y2 y3))
 | 0 => fun _ _ _ _ r h => by simp [spec_l3Stream.l0] at h
 | k + 1 => by
  have ih0 := spec_l3Stream.mono_l k
  ·intro y0 y1 y2 y3
   unfold spec_l3Stream.l0
   repeat' first
   | (with_reducible exact ih0 _ _ _ _)
   | (with_reducible exact spec_StrLines.mono _ _)
   | (with_reducible exact spec_l3Line.mono _ _ _)
   | (with_reducible exact LeO.refl _)
   | (with_reducible exact LeO.none _)
   | (with_reducible refine LeO.ite ?_ ?_)
   | (with_reducible refine LeO.bind ?_ (fun _ => ?_))
   | exact ih0 _ _ _ _
   | exact spec_StrLines.mono _ _
   | exact spec_l3Line.mono _ _ _
   | exact LeO.none _
   | refine LeO.ite ?_ ?_
   | refine LeO.bind ?_ (fun _ => ?_)
theorem spec_l3Stream.mono : ∀ a0 a1 k, LeO (spec_l3Stream.f k a0 a1) (spec_l3Stream.f (k + 1) a0 a1) := by
 intro a0 a1 k
 have ih0 := spec_l3Stream.mono_l k
 unfold spec_l3Stream.f
 repeat' first
   | (with_reducible exact ih0 _ _ _ _)
   | (with_reducible exact spec_StrLines.mono _ _)
   | (with_reducible exact spec_l3Line.mono _ _ _)
   | (with_reducible exact LeO.refl _)
   | (with_reducible exact LeO.none _)
   | (with_reducible refine LeO.ite ?_ ?_)
   | (with_reducible refine LeO.bind ?_ (fun _ => ?_))
   | exact ih0 _ _ _ _
   | exact spec_StrLines.mono _ _
   | exact spec_l3Line.mono _ _ _
   | exact LeO.none _
   | refine LeO.ite ?_ ?_
   | refine LeO.bind ?_ (fun _ => ?_)
def spec_l3Stream.T6 : Bool × List (List Nat × List Nat) := (true, [([], []), ([], []), ([], []), ([1, 2], [1, 2]), ([3], [3]), ([0, 4], [0, 4]), ([5], [5]), ([6], [6]), ([6], [6]), ([], []), ([9, 7, 5, 0, 1, 2, 3, 4, 5, 6, 7, 9], [7, 9]), ([8, 10, 0, 1, 2, 3, 4, 5, 6, 7, 8, 9, 10], [8])])
def spec_l3Stream.B6 : List Nat := [0, 0, 0, 6, 14, 31, 63, 127, 127, 0, 767, 2047]
theorem spec_l3Stream.tab6 : rtab .any (opsOf Try.f70 6) = spec_l3Stream.T6 := by kernel_rfl
theorem spec_l3Stream.bits6 : waitsOk spec_l3Stream.T6.2 spec_l3Stream.B6 = true := by kernel_rfl
set_option maxHeartbeats 8000000 in
set_option maxRecDepth 100000 in
theorem spec_l3Stream.calls (k : Nat) (P0_0_ : Nat → Prop) (u9000_ : Value) (l0_0 : List (S80)) (a1 : ByteArray) (r1 : List (S80)) (r2 : ByteArray) (w0 w : World) (hB : Below w0.heap.size w0 w) (ho0_0 : Kd.R k80 80 w w0.heap.size P0_0_ u9000_ l0_0) (h : spec_l3Stream.f k l0_0 a1 = some (r1, r2)) :
  Calls Try.prog 70 #[.agg #[u9000_], .string a1] w fun e w' => ∃ v0_ : Value, e = .returned (.tuple #[.agg #[v0_], .string r2]) ∧ Kd.R k80 80 w' w0.heap.size (fun k_ => (P0_0_ k_ ∨ w.heap.size ≤ k_)) v0_ r1 ∧ Below w0.heap.size w0 w' ∧ Kept w w' (fun k_ => P0_0_ k_) := by
 have hu61 := Try.underlying61
 have HO0_0 := Aside0.mk (show Kd.R k80 80 w w0.heap.size (fun k_ => (P0_0_ k_ ∨ w.heap.size ≤ k_)) u9000_ l0_0 from Kd.R_mono ho0_0 (fun k_ hk => (.inl hk)))
 have HK := Aside0.mk (Kept.refl w (fun k_ => P0_0_ k_))
 have HW0 := Aside0.mk hB.size
 have HB := Aside0.mk hB
 clear hB
 have H : ((spec_StrLines.f k a1).bind fun bt395 => (spec_l3Stream.l0 k bt395.1 (⟨#[]⟩ : ByteArray) 0 l0_0)) = some (r1, r2) := h
 clear h
 replace H := Option.bind_eq_some_iff.mp H
 obtain ⟨⟨t395, t396⟩, A30, H⟩ := H
 replace H : (spec_l3Stream.l0 k t395 (⟨#[]⟩ : ByteArray) 0 l0_0) = some (r1, r2) := H
 have A3 := Aside0.mk A30
 clear A30
 have H' := Aside0.mk H
 clear H
 obtain ⟨Ao4, co4, eo4⟩ := Kd.R_slice HO0_0.out
 subst eo4
 go_enter Try.func70, Try.ntmps70
 go_wp2_with (first | ((with_reducible refine gate_dst (N := 2) rfl ?_); refine box_event ?hg (N := 2) ?hd (cs := #[.slice Ao4 l0_0.length co4]) (t := 61) ?hr ?_; (case hd => rfl); (case hg => rfl); (case hr => first | (go_simp; done) | (go_simp; rfl)); intro gb393 hg w5 hbox hb; have n0_ := Aside0.mk (Kd.R_below Z13 hb); have n1_ := Aside0.mk (Kept.below (S := (fun k_ => P0_0_ k_)) Z78 hb); have n2_ := Aside0.mk (below_step Z80 hb); have n3_ := Aside0.mk (hbox); have n4_ := Aside0.mk ((Z195 : w.heap.size ≤ gb393)); have n5_ := Aside0.mk ((Z196 : w0.heap.size ≤ gb393)); clear HO0_0; clear HK; clear HB; have HO0_0 := n0_; have HK := n1_; have HB := n2_; have BK393 := n3_; have GW393 := n4_; have GE393 := n5_; clear n0_ n1_ n2_ n3_ n4_ n5_; clear hb hbox hg) | ((with_reducible refine gate_dst (N := 4) rfl ?_); refine box_event ?hg (N := 4) ?hd (cs := #[.slice none 0 0]) (t := 61) ?hr ?_; (case hd => rfl); (case hg => rfl); (case hr => first | (go_simp; done) | (go_simp; rfl)); intro gb394 hg w6 hbox hb; have n0_ := Aside0.mk (Kd.R_below Z13 hb); have n1_ := Aside0.mk (blk_below (g := gb393) (o := .cells #[.slice Ao4 l0_0.length co4] 61 (0, 0)) Z52 hb); have n2_ := Aside0.mk (Kept.below (S := (fun k_ => P0_0_ k_)) (by repeat (first | (with_reducible first | exact HK.out | apply Kept.alloc | apply Kept.drewN | apply Kept.drew | refine Kept.setCell ?_ (.inr GW393.out) _) | exact HK.out)) hb); have n3_ := Aside0.mk (below_step Z105 hb); have n4_ := Aside0.mk (hbox); have n5_ := Aside0.mk ((by rw [hg]; exact (by first | exact HK.out.1 | exact (show Kept w _ (fun k_ => P0_0_ k_) from by repeat (first | (with_reducible first | exact HK.out | apply Kept.alloc | apply Kept.drewN | apply Kept.drew | refine Kept.setCell ?_ (.inr GW393.out) _) | exact HK.out)).1) : w.heap.size ≤ gb394)); have n6_ := Aside0.mk ((by rw [hg]; exact (below_size Z105) : w0.heap.size ≤ gb394)); have n7_ := Aside0.mk ((by rw [hg]; exact Nat.ne_of_lt (blk_lt (g := gb393) (o := .cells #[.slice Ao4 l0_0.length co4] 61 (0, 0)) Z52) : gb393 ≠ gb394)); have n8_ := Aside0.mk ((by rw [hg]; exact Nat.ne_of_gt (blk_lt (g := gb393) (o := .cells #[.slice Ao4 l0_0.length co4] 61 (0, 0)) Z52) : gb394 ≠ gb393)); clear HO0_0; clear BK393; clear HK; clear HB; have HO0_0 := n0_; have BK393 := n1_; have HK := n2_; have HB := n3_; have BK394 := n4_; have GW394 := n5_; have GE394 := n6_; have NB393_394 := n7_; have NB394_393 := n8_; clear n0_ n1_ n2_ n3_ n4_ n5_ n6_ n7_ n8_; clear hb hbox hg) | ((with_reducible refine gate_callee (f := 13) rfl ?_); refine goesL_ (some 14) rfl rfl Try.func13 (by kernel_rfl) rfl #[.string a1] rfl Z84 ?_; (with_reducible refine (spec_StrLines.calls k a1 t395 t396 _ A3.out).mono ?_); rintro e w7 ⟨v397, rfl, ho0, hb⟩; refine ⟨_, rfl, ?_⟩; have n0_ := Aside0.mk (Kd.R_below Z13 hb); have n1_ := Aside0.mk (Kd.R_lower (Kd.R_newM (M := fun k_ => (P0_0_ k_ ∨ w.heap.size ≤ k_)) ho0 Z174 (fun k_ h_ => .inr h_)) (below_size Z135)); have n2_ := Aside0.mk (blk_below (g := gb393) (o := .cells #[.slice Ao4 l0_0.length co4] 61 (0, 0)) Z52 hb); have n3_ := Aside0.mk (blk_below (g := gb394) (o := .cells #[.slice none 0 0] 61 (0, 0)) Z53 hb); have n4_ := Aside0.mk (Kept.below (S := (fun k_ => P0_0_ k_)) Z145 hb); have n5_ := Aside0.mk (below_step Z135 hb); clear HO0_0; clear BK393; clear BK394; clear HK; clear HB; have HO0_0 := n0_; have HO398 := n1_; have BK393 := n2_; have BK394 := n3_; have HK := n4_; have HB := n5_; clear n0_ n1_ n2_ n3_ n4_ n5_; (try clear hb); (try clear ho0)))
 go_loopg [8, 9] k (fun kq v8 v9 w' => ∃ (x8_1 : ByteArray) (x9_1 : Int) (x394000_1 : List (S80)) (u394000 : Value), v8 = .string x8_1 ∧ v9 = .int .i64 x9_1 ∧ Aside0 (spec_l3Stream.l0 kq t395 x8_1 x9_1 x394000_1 = some (r1, r2)) ∧ Aside0 (kq ≤ k) ∧ Aside0 (Kd.R Kd.string 9 w' w0.heap.size (fun k_ => (P0_0_ k_ ∨ w.heap.size ≤ k_)) v397 t395) ∧ Aside0 (Kd.R k80 80 w' w0.heap.size (fun k_ => (P0_0_ k_ ∨ w.heap.size ≤ k_)) u394000 x394000_1) ∧ Aside0 (w'.heap[gb393]? = some (.cells #[u394000] 61 (0, 0))) ∧ Aside0 (w'.heap[gb394]? = some (.cells #[(.slice none 0 0)] 61 (0, 0))) ∧ Aside0 (Kept w w' (fun k_ => P0_0_ k_)) ∧ Aside0 (Below w0.heap.size w0 w'))
 case atStart => exact ⟨((⟨#[]⟩ : ByteArray)), (0), (l0_0), (.slice Ao4 l0_0.length co4), Z1, Z1, H', ⟨Nat.le_refl _⟩, ⟨by (with_reducible repeat (first | apply Kd.R_alloc | apply Kd.R_drewN | apply Kd.R_drew)); exact Kd.R_mono HO398.out (fun _ hk => hk.1)⟩, ⟨by (with_reducible repeat (first | apply Kd.R_alloc | apply Kd.R_drewN | apply Kd.R_drew)); exact HO0_0.out⟩, ⟨by (with_reducible repeat (first | refine blk_drewN ?_ _ | refine blk_drew ?_ | refine blk_alloc ?_ _)); exact BK393.out⟩, ⟨by (with_reducible repeat (first | refine blk_drewN ?_ _ | refine blk_drew ?_ | refine blk_alloc ?_ _)); exact BK394.out⟩, ⟨by repeat (first | (with_reducible first | exact HK.out | apply Kept.alloc | apply Kept.drewN | apply Kept.drew | refine Kept.setCell ?_ (.inr GW393.out) _ | refine Kept.setCell ?_ (.inr GW394.out) _) | exact HK.out)⟩, ⟨by repeat (first | (with_reducible first | exact HB.out | apply below_alloc | apply pw_below_drewN | apply below_drew1 | refine below_set ?_ GE393.out | refine below_set ?_ GE394.out) | exact HB.out)⟩⟩
 case round =>
  clear H'
  try clear c1
  try clear p2
  try clear c7
  obtain ⟨x8_1, x9_1, x394000_1, u394000, rfl, rfl, HA, HK1, HO_6, HO_394000, BK393, BK394, HK, HB⟩ := hrel
  cases gk with
  | zero => exact absurd HA.out (by simp [spec_l3Stream.l0])
  | succ k1 =>
   have H := HA.out
   clear HA
   simp only [spec_l3Stream.l0] at H
   by_cases c8 : x9_1 < (t395.length : Int)
   ·rw [if_pos c8] at H
    have c8b0 : decide (x9_1 < (t395.length : Int)) = true := decide_eq_true c8
    clear c8
    by_cases c9 : 0 ≤ x9_1
    ·rw [if_pos c9] at H
     have c9b0 : decide (0 ≤ x9_1) = true := decide_eq_true c9
     clear c9
     replace H := Option.bind_eq_some_iff.mp H
     obtain ⟨⟨t400, t403⟩, A100, H⟩ := H
     replace H : (if x8_1.size + t403.size ≤ 9223372036854775807 then (if (x8_1 ++ t403).size + 1 ≤ 9223372036854775807 then (spec_l3Stream.l0 k1 t395 ((x8_1 ++ t403) ++ (⟨#[59]⟩ : ByteArray)) (wrap64 (x9_1 + 1)) t400) else (none)) else (none)) = some (r1, r2) := H
     have A10 := Aside0.mk A100
     clear A100
     by_cases c11 : x8_1.size + t403.size ≤ 9223372036854775807
     ·rw [if_pos c11] at H
      have c11b0 := eq_true c11
      have c11b1 : decide (x8_1.size + t403.size ≤ 9223372036854775807) = true := decide_eq_true c11
      try have c11b2 : (9223372036854775807 < x8_1.size + t403.size) = False := eq_false (Nat.not_lt.2 c11)
      by_cases c12 : (x8_1 ++ t403).size + 1 ≤ 9223372036854775807
      ·rw [if_pos c12] at H
       have c12b0 := eq_true c12
       have c12b1 : decide ((x8_1 ++ t403).size + 1 ≤ 9223372036854775807) = true := decide_eq_true c12
       try have c12b2 : (9223372036854775807 < (x8_1 ++ t403).size + 1) = False := eq_false (Nat.not_lt.2 c12)
       try have c12b8 : (9223372036854775807 < x8_1.size + t403.size + 1) = False := eq_false (by have := c12; simp only [ByteArray.size_append] at this; exact Nat.not_lt.2 this)
       have H' := Aside0.mk H
       clear H
       obtain ⟨Ao13, co13, eo13⟩ := Kd.R_slice HO_6.out
       subst eo13
       obtain ⟨Ao14, co14, eo14⟩ := Kd.R_slice HO_394000.out
       subst eo14
       try go_wp2
       have n0_ := Aside0.mk (Kd.R_drew HO_6.out)
       have n1_ := Aside0.mk (Kd.R_drew HO_394000.out)
       have n2_ := Aside0.mk (blk_drew BK393.out)
       have n3_ := Aside0.mk (blk_drew BK394.out)
       have n4_ := Aside0.mk (Kept.drew HK.out)
       have n5_ := Aside0.mk (below_drew1 HB.out)
       clear HO_6
       clear HO_394000
       clear BK393
       clear BK394
       clear HK
       clear HB
       have HO_6 := n0_
       have HO_394000 := n1_
       have BK393 := n2_
       have BK394 := n3_
       have HK := n4_
       have HB := n5_
       clear n0_ n1_ n2_ n3_ n4_ n5_
       have p399 : 0 ≤ (x9_1 : Int) := of_decide_eq_true Z2
       have q399 : x9_1 < (t395.length : Int) := of_decide_eq_true Z2
       obtain ⟨ad399, e399, hx399_0⟩ := Kd.at_string (Kd.R_reads' HO_6.out).2.2 x9_1 p399 q399
       cases e399
       replace p399 := eq_true p399
       replace q399 := eq_true q399
       refine start_ (n := 12) (S := fun w' => w'.cell? ⟨gb393, 0, none⟩ = some (.slice Ao14 x394000_1.length co14) ∧ w'.cell? (ad399.add (x9_1).toNat) = some (.string (rdOf ByteArray.empty t395 x9_1))) (ds := []) #[false, false, false, false, false, false, false, false, false, false, false, false] (by kernel_rfl) rfl rfl ⟨(blk_cell BK393.out 0).trans rfl, hx399_0⟩ (fun hHeld => ?_); refine with_tabW spec_l3Stream.tab6 spec_l3Stream.bits6 (fun HT_ HW_ => ?_)
       generalize wr.drew = w15 at HO_6 HO_394000 BK393 BK394 HK HB hx399_0 hHeld ⊢
       refine pure_ (i := 1) (N := some 25) (v := ?_) (a' := ?_) #[false, true, false, false, false, false, false, false, false, false, false, false] rfl rfl (any_of HT_.out (by kernel_rfl)) (fun _ _ _ h => h) (Or.inl ⟨by rfl, ?_⟩) ?_ ?_
       rotate_left
       ·intro w'
        go_simp
        with_reducible rfl
       rotate_left
       ·simp only [Act.put, List.setIfInBounds_toArray, List.set_cons_zero, List.set_cons_succ, i64_w, i32_w]
        rfl
       refine pure_ (i := 2) (N := some 26) (v := ?_) (a' := ?_) #[false, true, true, false, false, false, false, false, false, false, false, false] rfl rfl (any_of HT_.out (by kernel_rfl)) (fun _ _ _ h => h) (Or.inl ⟨by rfl, ?_⟩) ?_ ?_
       rotate_left
       ·intro w'
        go_simp
        with_reducible rfl
       rotate_left
       ·simp only [Act.put, List.setIfInBounds_toArray, List.set_cons_zero, List.set_cons_succ, i64_w, i32_w]
        rfl
       refine pure_ (i := 3) (N := some 27) (v := ?_) (a' := ?_) #[false, true, true, true, false, false, false, false, false, false, false, false] rfl rfl (any_of HT_.out (by kernel_rfl)) (fun _ _ _ h => h) (Or.inl ⟨by rfl, ?_⟩) ?_ ?_
       rotate_left
       ·intro w'
        go_simp
        with_reducible rfl
       rotate_left
       ·simp only [Act.put, List.setIfInBounds_toArray, List.set_cons_zero, List.set_cons_succ, i64_w, i32_w]
        rfl
       refine take_ (i := 0) (N := some 24) (v := ?_) (a' := ?_) #[true, true, true, true, false, false, false, false, false, false, false, false] rfl rfl (take_ofW HT_.out HW_.out (by kernel_rfl)) (fun _ _ _ h => h) (Or.inl ⟨by rfl, ?_⟩) hHeld ?_ ?_
       rotate_left
       ·rintro w' ⟨s0, s1⟩
        go_simp
        with_reducible rfl
       rotate_left
       ·simp only [Act.put, List.setIfInBounds_toArray, List.set_cons_zero, List.set_cons_succ, i64_w, i32_w]
        rfl
       refine take_ (i := 4) (N := some 28) (v := ?_) (a' := ?_) #[true, true, true, true, true, false, false, false, false, false, false, false] rfl rfl (take_ofW HT_.out HW_.out (by kernel_rfl)) (fun _ _ _ h => h) (Or.inl ⟨by rfl, ?_⟩) hHeld ?_ ?_
       rotate_left
       ·rintro w' ⟨s0, s1⟩
        go_simp
        with_reducible rfl
       rotate_left
       ·simp only [Act.put, List.setIfInBounds_toArray, List.set_cons_zero, List.set_cons_succ, i64_w, i32_w]
        rfl
       refine join_ (σ := Value × Nat) 2 #[true, true, true, true, true, true, true, true, true, true, false, false] (fun s_ => [(29, .tuple #[.agg #[s_.1], .string t403]), (10, .pointer (some ⟨s_.2, 0, none⟩)), (23, .tuple #[.agg #[s_.1], .string t403]), (30, .agg #[s_.1]), (31, .string t403)]) (fun s_ w' => (w'.cell? ⟨gb393, 0, none⟩ = some (.slice Ao14 x394000_1.length co14) ∧ w'.cell? (ad399.add (x9_1).toNat) = some (.string (rdOf ByteArray.empty t395 x9_1))) ∧ (Kd.R k80 80 w' w0.heap.size (fun k_ => (P0_0_ k_ ∨ w.heap.size ≤ k_)) s_.1 t400) ∧ (Kd.R Kd.string 9 w' w0.heap.size (fun k_ => (P0_0_ k_ ∨ w.heap.size ≤ k_)) (.slice (some ad399) t395.length co13) t395) ∧ (w'.heap[gb393]? = some (.cells #[.slice Ao14 x394000_1.length co14] 61 (0, 0))) ∧ (w'.heap[gb394]? = some (.cells #[.slice none 0 0] 61 (0, 0))) ∧ (w'.heap[s_.2]? = some (.cells #[.slice none 0 0] 61 (0, 0))) ∧ (w.heap.size ≤ s_.2) ∧ (w0.heap.size ≤ s_.2) ∧ (gb393 ≠ s_.2) ∧ (s_.2 ≠ gb393) ∧ (gb394 ≠ s_.2) ∧ (s_.2 ≠ gb394) ∧ (Kept w w' (fun k_ => P0_0_ k_)) ∧ (Below w0.heap.size w0 w')) ?_ ?_
       rotate_left
       ·intro hCont
        refine two_ (i := 5) (j := 9) (Ni := some 29) (Nj := some 10) #[true, true, true, true, true, true, false, false, false, false, false, false] #[true, true, true, true, true, false, false, false, false, true, false, false] rfl rfl rfl rfl (two_of HT_.out (by kernel_rfl)) (by decide) (by decide) (fun K hK => ?_) (fun K hK => ?_)
        ·skip
         refine goes_ Try.func79 (by kernel_rfl) rfl #[.agg #[.slice Ao14 x394000_1.length co14], .string (rdOf ByteArray.empty t395 x9_1)] (by rfl) rfl rfl Z84 ?_
         with_reducible refine (spec_l3Line.calls k1 (fun k_ => some k_ = (.slice Ao14 x394000_1.length co14 : Value).ownBlock) (.slice Ao14 x394000_1.length co14) x394000_1 (rdOf ByteArray.empty t395 x9_1) t400 t403 w0 _ ?side1 ?side2 A10.out).mono ?_
         (case side1 => repeat (first | (with_reducible first | exact HB.out | apply below_alloc | apply pw_below_drewN | apply below_drew1 | refine below_set ?_ GE393.out | refine below_set ?_ GE394.out) | exact HB.out))
         (case side2 => exact Kd.R_tight rfl HO_394000.out)
         rintro e w16 ⟨v401, rfl, ho0, hb, hkp⟩
         have HS1_ := Go.Proofs.YtmahgffkkdggcaaW.PrintWords.cell_kept (hHeld.2) hkp Z184
         refine ⟨_, rfl, ?_⟩
         have n0_ := Aside0.mk (Kd.R_mono (ok' := fun k_ => (P0_0_ k_ ∨ w.heap.size ≤ k_)) (Kd.R_keptB ((Kd.R_apart' HO_6.out (Kd.R_typed HO_394000.out) (by decide))) hkp (fun k_ hk_ hs_ => (hk_.2) hs_)) (fun k_ hk_ => hk_.1.1))
         have n1_ := Aside0.mk (blk_kept Z52 hkp (fun hs_ => (fun e_ => (Kd.R_ne HO_394000.out BK393.out (by decide)) e_) hs_))
         have n2_ := Aside0.mk (blk_kept Z53 hkp (fun hs_ => (fun e_ => (Kd.R_ne HO_394000.out BK394.out (by decide)) e_) hs_))
         have n3_ := Aside0.mk (Kd.R_mono (ok' := fun k_ => (P0_0_ k_ ∨ w.heap.size ≤ k_)) ho0 (fun k_ hk_ => Or.elim hk_ (fun hs_ => (HO_394000.out.1 k_ (hs_).symm)) (fun hn_ => (.inr (Nat.le_trans Z174 hn_)))))
         have n4_ := Aside0.mk (Kept.then_ (S := (fun k_ => P0_0_ k_)) Z145 hkp (fun k_ hs_ => (fun e_ => (HO_394000.out.1 k_ e_.symm)) hs_))
         have n5_ := Aside0.mk (hb)
         clear HO_6
         clear BK393
         clear BK394
         clear HK
         clear HB
         clear HO_394000
         have HO_6 := n0_
         have BK393 := n1_
         have BK394 := n2_
         have HO402 := n3_
         have HK := n4_
         have HB := n5_
         clear n0_ n1_ n2_ n3_ n4_ n5_
         (try clear hb)
         (try clear hkp)
         (try clear ho0)
         refine hK.out _ _ ⟨(blk_cell BK393.out 0).trans rfl, HS1_⟩ (fun hHeld => ?_)
         clear hK K
         refine norm_ (a' := ?_) ?_ ?_
         rotate_left
         ·show Act.put _ (some 29) _ = _
          simp only [Act.put, List.setIfInBounds_toArray, List.set_cons_zero, List.set_cons_succ, i64_w, i32_w]
          rfl
         refine pure_ (i := 6) (N := some 23) (v := ?_) (a' := ?_) #[true, true, true, true, true, true, true, false, false, false, false, false] rfl rfl (any_of HT_.out (by kernel_rfl)) (fun _ _ _ h => h) (Or.inl ⟨by rfl, ?_⟩) ?_ ?_
         rotate_left
         ·intro w'
          go_simp
          with_reducible rfl
         rotate_left
         ·simp only [Act.put, List.setIfInBounds_toArray, List.set_cons_zero, List.set_cons_succ, i64_w, i32_w]
          rfl
         refine pure_ (i := 7) (N := some 30) (v := ?_) (a' := ?_) #[true, true, true, true, true, true, true, true, false, false, false, false] rfl rfl (any_of HT_.out (by kernel_rfl)) (fun _ _ _ h => h) (Or.inl ⟨by rfl, ?_⟩) ?_ ?_
         rotate_left
         ·intro w'
          go_simp
          with_reducible rfl
         rotate_left
         ·simp only [Act.put, List.setIfInBounds_toArray, List.set_cons_zero, List.set_cons_succ, i64_w, i32_w]
          rfl
         refine pure_ (i := 8) (N := some 31) (v := ?_) (a' := ?_) #[true, true, true, true, true, true, true, true, true, false, false, false] rfl rfl (any_of HT_.out (by kernel_rfl)) (fun _ _ _ h => h) (Or.inl ⟨by rfl, ?_⟩) ?_ ?_
         rotate_left
         ·intro w'
          go_simp
          with_reducible rfl
         rotate_left
         ·simp only [Act.put, List.setIfInBounds_toArray, List.set_cons_zero, List.set_cons_succ, i64_w, i32_w]
          rfl
         refine one_ (i := 9) (N := some 10) #[true, true, true, true, true, true, true, true, true, true, false, false] rfl rfl (one_of HT_.out (by kernel_rfl)) (by decide) (fun K hK => ?_)
         refine box_step ?hg (N := 10) ?hd (cs := #[.slice none 0 0]) (t := 61) ?hr ?_; (case hd => rfl); (case hg => rfl); (case hr => first | (go_simp; done) | (go_simp; rfl))
         intro gb404 hg w17 hbox hb
         have HS1_ := (hb.cell (World.block_lt_of_cell? _ _ (hHeld.2))).trans (hHeld.2)
         have n0_ := Aside0.mk (Kd.R_below Z6 hb)
         have n1_ := Aside0.mk (Kd.R_below Z19 hb)
         have n2_ := Aside0.mk (blk_below (g := gb393) (o := .cells #[.slice Ao14 x394000_1.length co14] 61 (0, 0)) Z52 hb)
         have n3_ := Aside0.mk (blk_below (g := gb394) (o := .cells #[.slice none 0 0] 61 (0, 0)) Z53 hb)
         have n4_ := Aside0.mk (Kept.below (S := (fun k_ => P0_0_ k_)) Z145 hb)
         have n5_ := Aside0.mk (below_step Z135 hb)
         have n6_ := Aside0.mk (hbox)
         have n7_ := Aside0.mk ((by rw [hg]; exact Z174 : w.heap.size ≤ gb404))
         have n8_ := Aside0.mk ((by rw [hg]; exact (below_size Z135) : w0.heap.size ≤ gb404))
         have n9_ := Aside0.mk ((Z234 : gb393 ≠ gb404))
         have n10_ := Aside0.mk ((Z235 : gb404 ≠ gb393))
         have n11_ := Aside0.mk ((by rw [hg]; exact Nat.ne_of_lt (blk_lt (g := gb394) (o := .cells #[.slice none 0 0] 61 (0, 0)) Z53) : gb394 ≠ gb404))
         have n12_ := Aside0.mk ((by rw [hg]; exact Nat.ne_of_gt (blk_lt (g := gb394) (o := .cells #[.slice none 0 0] 61 (0, 0)) Z53) : gb404 ≠ gb394))
         clear HO_6
         clear HO402
         clear BK393
         clear BK394
         clear HK
         clear HB
         have HO_6 := n0_
         have HO402 := n1_
         have BK393 := n2_
         have BK394 := n3_
         have HK := n4_
         have HB := n5_
         have BK404 := n6_
         have GW404 := n7_
         have GE404 := n8_
         have NB393_404 := n9_
         have NB404_393 := n10_
         have NB394_404 := n11_
         have NB404_394 := n12_
         clear n0_ n1_ n2_ n3_ n4_ n5_ n6_ n7_ n8_ n9_ n10_ n11_ n12_
         clear hb hbox hg
         refine hK.out _ _ ⟨(blk_cell BK393.out 0).trans rfl, HS1_⟩ (fun hHeld => ?_)
         clear hK K
         refine norm_ (a' := ?_) ?_ ?_
         rotate_left
         ·show Act.put _ (some 10) _ = _
          simp only [Act.put, List.setIfInBounds_toArray, List.set_cons_zero, List.set_cons_succ, i64_w, i32_w]
          rfl
         exact norm_ Z3 (hCont (v401, gb404) _ ⟨hHeld, Z19, Z6, Z52, Z53, Z54, GW404.out, GE404.out, NB393_404.out, NB404_393.out, NB394_404.out, NB404_394.out, Z164, Z154⟩)
        ·skip
         refine box_step ?hg (N := 10) ?hd (cs := #[.slice none 0 0]) (t := 61) ?hr ?_; (case hd => rfl); (case hg => rfl); (case hr => first | (go_simp; done) | (go_simp; rfl))
         intro gb404 hg w16 hbox hb
         have HS1_ := (hb.cell (World.block_lt_of_cell? _ _ (hHeld.2))).trans (hHeld.2)
         have n0_ := Aside0.mk (Kd.R_below Z6 hb)
         have n1_ := Aside0.mk (Kd.R_below (by (with_reducible repeat (first | apply Kd.R_alloc | apply Kd.R_drewN | apply Kd.R_drew)); exact HO_394000.out) hb)
         have n2_ := Aside0.mk (blk_below (g := gb393) (o := .cells #[.slice Ao14 x394000_1.length co14] 61 (0, 0)) Z52 hb)
         have n3_ := Aside0.mk (blk_below (g := gb394) (o := .cells #[.slice none 0 0] 61 (0, 0)) Z53 hb)
         have n4_ := Aside0.mk (Kept.below (S := (fun k_ => P0_0_ k_)) Z145 hb)
         have n5_ := Aside0.mk (below_step Z135 hb)
         have n6_ := Aside0.mk (hbox)
         have n7_ := Aside0.mk ((by rw [hg]; exact Z174 : w.heap.size ≤ gb404))
         have n8_ := Aside0.mk ((by rw [hg]; exact (below_size Z135) : w0.heap.size ≤ gb404))
         have n9_ := Aside0.mk ((Z234 : gb393 ≠ gb404))
         have n10_ := Aside0.mk ((Z235 : gb404 ≠ gb393))
         have n11_ := Aside0.mk ((by rw [hg]; exact Nat.ne_of_lt (blk_lt (g := gb394) (o := .cells #[.slice none 0 0] 61 (0, 0)) Z53) : gb394 ≠ gb404))
         have n12_ := Aside0.mk ((by rw [hg]; exact Nat.ne_of_gt (blk_lt (g := gb394) (o := .cells #[.slice none 0 0] 61 (0, 0)) Z53) : gb404 ≠ gb394))
         clear HO_6
         clear HO_394000
         clear BK393
         clear BK394
         clear HK
         clear HB
         have HO_6 := n0_
         have HO_394000 := n1_
         have BK393 := n2_
         have BK394 := n3_
         have HK := n4_
         have HB := n5_
         have BK404 := n6_
         have GW404 := n7_
         have GE404 := n8_
         have NB393_404 := n9_
         have NB404_393 := n10_
         have NB394_404 := n11_
         have NB404_394 := n12_
         clear n0_ n1_ n2_ n3_ n4_ n5_ n6_ n7_ n8_ n9_ n10_ n11_ n12_
         clear hb hbox hg
         refine hK.out _ _ ⟨(blk_cell BK393.out 0).trans rfl, HS1_⟩ (fun hHeld => ?_)
         clear hK K
         refine norm_ (a' := ?_) ?_ ?_
         rotate_left
         ·show Act.put _ (some 10) _ = _
          simp only [Act.put, List.setIfInBounds_toArray, List.set_cons_zero, List.set_cons_succ, i64_w, i32_w]
          rfl
         refine one_ (i := 5) (N := some 29) #[true, true, true, true, true, true, false, false, false, true, false, false] rfl rfl (one_of HT_.out (by kernel_rfl)) (by decide) (fun K hK => ?_)
         refine goes_ Try.func79 (by kernel_rfl) rfl #[.agg #[.slice Ao14 x394000_1.length co14], .string (rdOf ByteArray.empty t395 x9_1)] (by rfl) rfl rfl Z84 ?_
         with_reducible refine (spec_l3Line.calls k1 (fun k_ => some k_ = (.slice Ao14 x394000_1.length co14 : Value).ownBlock) (.slice Ao14 x394000_1.length co14) x394000_1 (rdOf ByteArray.empty t395 x9_1) t400 t403 w0 _ ?side1 ?side2 A10.out).mono ?_
         (case side1 => repeat (first | (with_reducible first | exact HB.out | apply below_alloc | apply pw_below_drewN | apply below_drew1 | refine below_set ?_ GE393.out | refine below_set ?_ GE394.out | refine below_set ?_ GE404.out) | exact HB.out))
         (case side2 => exact Kd.R_tight rfl HO_394000.out)
         rintro e w17 ⟨v401, rfl, ho0, hb, hkp⟩
         have HS1_ := Go.Proofs.YtmahgffkkdggcaaW.PrintWords.cell_kept (hHeld.2) hkp Z184
         refine ⟨_, rfl, ?_⟩
         have n0_ := Aside0.mk (Kd.R_mono (ok' := fun k_ => (P0_0_ k_ ∨ w.heap.size ≤ k_)) (Kd.R_keptB ((Kd.R_apart' HO_6.out (Kd.R_typed HO_394000.out) (by decide))) hkp (fun k_ hk_ hs_ => (hk_.2) hs_)) (fun k_ hk_ => hk_.1.1))
         have n1_ := Aside0.mk (blk_kept Z52 hkp (fun hs_ => (fun e_ => (Kd.R_ne HO_394000.out BK393.out (by decide)) e_) hs_))
         have n2_ := Aside0.mk (blk_kept Z53 hkp (fun hs_ => (fun e_ => (Kd.R_ne HO_394000.out BK394.out (by decide)) e_) hs_))
         have n3_ := Aside0.mk (blk_kept Z54 hkp (fun hs_ => (fun e_ => (Kd.R_ne HO_394000.out BK404.out (by decide)) e_) hs_))
         have n4_ := Aside0.mk (Kd.R_mono (ok' := fun k_ => (P0_0_ k_ ∨ w.heap.size ≤ k_)) ho0 (fun k_ hk_ => Or.elim hk_ (fun hs_ => (HO_394000.out.1 k_ (hs_).symm)) (fun hn_ => (.inr (Nat.le_trans (by first | exact HK.out.1 | exact (show Kept w _ (fun k_ => P0_0_ k_) from by repeat (first | (with_reducible first | exact HK.out | apply Kept.alloc | apply Kept.drewN | apply Kept.drew | refine Kept.setCell ?_ (.inr GW393.out) _ | refine Kept.setCell ?_ (.inr GW394.out) _ | refine Kept.setCell ?_ (.inr GW404.out) _) | exact HK.out)).1) hn_)))))
         have n5_ := Aside0.mk (Kept.then_ (S := (fun k_ => P0_0_ k_)) Z164 hkp (fun k_ hs_ => (fun e_ => (HO_394000.out.1 k_ e_.symm)) hs_))
         have n6_ := Aside0.mk (hb)
         clear HO_6
         clear BK393
         clear BK394
         clear BK404
         clear HK
         clear HB
         clear HO_394000
         have HO_6 := n0_
         have BK393 := n1_
         have BK394 := n2_
         have BK404 := n3_
         have HO402 := n4_
         have HK := n5_
         have HB := n6_
         clear n0_ n1_ n2_ n3_ n4_ n5_ n6_
         (try clear hb)
         (try clear hkp)
         (try clear ho0)
         refine hK.out _ _ ⟨(blk_cell BK393.out 0).trans rfl, HS1_⟩ (fun hHeld => ?_)
         clear hK K
         refine norm_ (a' := ?_) ?_ ?_
         rotate_left
         ·show Act.put _ (some 29) _ = _
          simp only [Act.put, List.setIfInBounds_toArray, List.set_cons_zero, List.set_cons_succ, i64_w, i32_w]
          rfl
         refine pure_ (i := 6) (N := some 23) (v := ?_) (a' := ?_) #[true, true, true, true, true, true, true, false, false, true, false, false] rfl rfl (any_of HT_.out (by kernel_rfl)) (fun _ _ _ h => h) (Or.inl ⟨by rfl, ?_⟩) ?_ ?_
         rotate_left
         ·intro w'
          go_simp
          with_reducible rfl
         rotate_left
         ·simp only [Act.put, List.setIfInBounds_toArray, List.set_cons_zero, List.set_cons_succ, i64_w, i32_w]
          rfl
         refine pure_ (i := 7) (N := some 30) (v := ?_) (a' := ?_) #[true, true, true, true, true, true, true, true, false, true, false, false] rfl rfl (any_of HT_.out (by kernel_rfl)) (fun _ _ _ h => h) (Or.inl ⟨by rfl, ?_⟩) ?_ ?_
         rotate_left
         ·intro w'
          go_simp
          with_reducible rfl
         rotate_left
         ·simp only [Act.put, List.setIfInBounds_toArray, List.set_cons_zero, List.set_cons_succ, i64_w, i32_w]
          rfl
         refine pure_ (i := 8) (N := some 31) (v := ?_) (a' := ?_) #[true, true, true, true, true, true, true, true, true, true, false, false] rfl rfl (any_of HT_.out (by kernel_rfl)) (fun _ _ _ h => h) (Or.inl ⟨by rfl, ?_⟩) ?_ ?_
         rotate_left
         ·intro w'
          go_simp
          with_reducible rfl
         rotate_left
         ·simp only [Act.put, List.setIfInBounds_toArray, List.set_cons_zero, List.set_cons_succ, i64_w, i32_w]
          rfl
         exact norm_ Z3 (hCont (v401, gb404) _ ⟨hHeld, Z19, Z6, Z52, Z53, Z54, GW404.out, GE404.out, NB393_404.out, NB404_393.out, NB394_404.out, NB404_394.out, Z164, Z154⟩)
       rintro ⟨v401, gb404⟩ w18 ⟨hS_, h0_, h1_, h2_, h3_, h4_, h5_, h6_, h7_, h8_, h9_, h10_, h11_, h12_⟩
       have n0_ : Aside0 (Kd.R k80 80 w18 w0.heap.size (fun k_ => (P0_0_ k_ ∨ w.heap.size ≤ k_)) v401 t400) := ⟨h0_⟩
       have n1_ : Aside0 (Kd.R Kd.string 9 w18 w0.heap.size (fun k_ => (P0_0_ k_ ∨ w.heap.size ≤ k_)) (.slice (some ad399) t395.length co13) t395) := ⟨h1_⟩
       have n2_ : Aside0 (w18.heap[gb393]? = some (.cells #[.slice Ao14 x394000_1.length co14] 61 (0, 0))) := ⟨h2_⟩
       have n3_ : Aside0 (w18.heap[gb394]? = some (.cells #[.slice none 0 0] 61 (0, 0))) := ⟨h3_⟩
       have n4_ : Aside0 (w18.heap[gb404]? = some (.cells #[.slice none 0 0] 61 (0, 0))) := ⟨h4_⟩
       have n5_ : Aside0 (w.heap.size ≤ gb404) := ⟨h5_⟩
       have n6_ : Aside0 (w0.heap.size ≤ gb404) := ⟨h6_⟩
       have n7_ : Aside0 (gb393 ≠ gb404) := ⟨h7_⟩
       have n8_ : Aside0 (gb404 ≠ gb393) := ⟨h8_⟩
       have n9_ : Aside0 (gb394 ≠ gb404) := ⟨h9_⟩
       have n10_ : Aside0 (gb404 ≠ gb394) := ⟨h10_⟩
       have n11_ : Aside0 (Kept w w18 (fun k_ => P0_0_ k_)) := ⟨h11_⟩
       have n12_ : Aside0 (Below w0.heap.size w0 w18) := ⟨h12_⟩
       clear HO_6
       clear HO_394000
       clear BK393
       clear BK394
       clear HK
       clear HB
       clear h0_ h1_ h2_ h3_ h4_ h5_ h6_ h7_ h8_ h9_ h10_ h11_ h12_
       have HO402 := n0_
       have HO_6 := n1_
       have BK393 := n2_
       have BK394 := n3_
       have BK404 := n4_
       have GW404 := n5_
       have GE404 := n6_
       have NB393_404 := n7_
       have NB404_393 := n8_
       have NB394_404 := n9_
       have NB404_394 := n10_
       have HK := n11_
       have HB := n12_
       clear n0_ n1_ n2_ n3_ n4_ n5_ n6_ n7_ n8_ n9_ n10_ n11_ n12_
       have hHeld : w18.cell? ⟨gb393, 0, none⟩ = some (.slice Ao14 x394000_1.length co14) ∧ w18.cell? (ad399.add (x9_1).toNat) = some (.string (rdOf ByteArray.empty t395 x9_1)) := hS_
       obtain ⟨Ao19, co19, eo19⟩ := Kd.R_slice HO402.out
       (first | subst eo19 | (injection eo19 with f1_ f2_ f3_; have f4_ := f1_.symm; have f5_ := f3_.symm; clear f1_ f2_ f3_; subst f4_; subst f5_))
       refine norm_ (a' := ?_) ?_ ?_
       rotate_left
       ·simp only [putAll, Act.put, List.setIfInBounds_toArray, List.set_cons_zero, List.set_cons_succ]
        rfl
       refine one_ (i := 10) (N := none) #[true, true, true, true, true, true, true, true, true, true, true, false] rfl rfl (one_of HT_.out (by kernel_rfl)) (by decide) (fun K hK => ?_)
       have hs20 : w18.cell? ⟨gb404, 0, none⟩ = some (.slice none 0 0) := (blk_cell BK404.out 0).trans rfl
       have hfs20 := blk_frozen BK404.out 0
       have hns20_0 := NB393_404.out
       have hns20_1 := NB394_404.out
       have hms20_0 := NB404_393.out
       have hms20_1 := NB404_394.out
       refine skip_ (w1 := ?_) (by rfl) rfl ?_ ?_
       rotate_left
       ·go_simp
        rfl
       refine hK.out _ _ ⟨((cell_far (p := ⟨gb404, _, none⟩) NB393_404.out _).trans (hHeld.1)), ((cell_far (p := ⟨gb404, _, none⟩) (by first | exact Kd.own_blk (Kd.R_ne HO_6.out BK404.out (by decide)) | (rw [add_block]; exact Kd.own_blk (Kd.R_ne HO_6.out BK404.out (by decide))) | (show (Addr.add _ _).block ≠ _; rw [add_block]; exact Kd.own_blk (Kd.R_ne HO_6.out BK404.out (by decide))) | (dsimp only; exact Kd.own_blk (Kd.R_ne HO_6.out BK404.out (by decide)))) _).trans (hHeld.2))⟩ (fun hHeld => ?_)
       clear hK K
       refine pure_ (i := 11) (N := some 11) (v := ?_) (a' := ?_) #[true, true, true, true, true, true, true, true, true, true, true, true] rfl rfl (any_of HT_.out (by kernel_rfl)) (fun _ _ _ h => h) (Or.inl ⟨by rfl, ?_⟩) ?_ ?_
       rotate_left
       ·intro w'
        go_simp
        with_reducible rfl
       rotate_left
       ·simp only [Act.put, List.setIfInBounds_toArray, List.set_cons_zero, List.set_cons_succ, i64_w, i32_w]
        rfl
       refine done_ (done_of HT_.out (by kernel_rfl)) ?_
       have hnb21 := NB404_393.out
       have hnc21 := NB393_404.out
       have hnb22 := NB404_394.out
       have hnc22 := NB394_404.out
       have hcz23_0 : w18.cell? ⟨gb404, 0, none⟩ = some (.slice none 0 0) := (blk_cell BK404.out 0).trans rfl
       have hfz23_0 := blk_frozen BK404.out 0
       have hnb24 := NB393_394.out
       have hnc24 := NB394_393.out
       have hcz25_0 : w18.cell? ⟨gb393, 0, none⟩ = some (.slice Ao14 x394000_1.length co14) := (blk_cell BK393.out 0).trans rfl
       have hfz25_0 := blk_frozen BK393.out 0
       try go_wp2
       go_roundg k1
       case measure => have := HK1.out; omega
       case rel => exact ⟨((x8_1 ++ t403) ++ (⟨#[59]⟩ : ByteArray)), (wrap64 (x9_1 + 1)), (t400), (.slice Ao19 t400.length co19), Z1, Z1, H', ⟨by have := HK1.out; omega⟩, ⟨by (with_reducible repeat (first | apply Kd.R_alloc | apply Kd.R_drewN | apply Kd.R_drew)); exact Kd.R_mono (Kd.R_far (p := ⟨gb393, 0, none⟩) (Kd.R_far (p := ⟨gb404, 0, none⟩) (Kd.R_types (Kd.R_types HO_6.out BK404.out (by decide)) BK393.out (by decide)) (fun _ hk => hk.1.2) (.slice Ao19 t400.length co19)) (fun _ hk => hk.2) (.slice Ao19 t400.length co19)) (fun _ hk => hk.1.1)⟩, ⟨by (with_reducible repeat (first | apply Kd.R_alloc | apply Kd.R_drewN | apply Kd.R_drew)); exact Kd.R_mono (Kd.R_far (p := ⟨gb393, 0, none⟩) (Kd.R_far (p := ⟨gb404, 0, none⟩) (Kd.R_types (Kd.R_types HO402.out BK404.out (by decide)) BK393.out (by decide)) (fun _ hk => hk.1.2) (.slice Ao19 t400.length co19)) (fun _ hk => hk.2) (.slice Ao19 t400.length co19)) (fun _ hk => hk.1.1)⟩, ⟨by (with_reducible repeat (first | refine blk_drewN ?_ _ | refine blk_drew ?_ | refine blk_alloc ?_ _)); refine blk_put (cs := #[.slice Ao14 x394000_1.length co14]) ?_ 0 _ rfl; (with_reducible repeat (first | refine blk_drewN ?_ _ | refine blk_drew ?_ | refine blk_alloc ?_ _)); refine blk_far ?_ NB393_404.out _; (with_reducible repeat (first | refine blk_drewN ?_ _ | refine blk_drew ?_ | refine blk_alloc ?_ _)); exact BK393.out⟩, ⟨by (with_reducible repeat (first | refine blk_drewN ?_ _ | refine blk_drew ?_ | refine blk_alloc ?_ _)); refine blk_far ?_ NB394_393.out _; (with_reducible repeat (first | refine blk_drewN ?_ _ | refine blk_drew ?_ | refine blk_alloc ?_ _)); refine blk_far ?_ NB394_404.out _; (with_reducible repeat (first | refine blk_drewN ?_ _ | refine blk_drew ?_ | refine blk_alloc ?_ _)); exact BK394.out⟩, ⟨by repeat (first | (with_reducible first | exact HK.out | apply Kept.alloc | apply Kept.drewN | apply Kept.drew | refine Kept.setCell ?_ (.inr GW393.out) _ | refine Kept.setCell ?_ (.inr GW394.out) _ | refine Kept.setCell ?_ (.inr GW404.out) _) | exact HK.out)⟩, ⟨by repeat (first | (with_reducible first | exact HB.out | apply below_alloc | apply pw_below_drewN | apply below_drew1 | refine below_set ?_ GE393.out | refine below_set ?_ GE394.out | refine below_set ?_ GE404.out) | exact HB.out)⟩⟩
      ·rw [if_neg c12] at H
       exact absurd H (by simp)
     ·rw [if_neg c11] at H
      exact absurd H (by simp)
    ·rw [if_neg c9] at H
     exact absurd H (by simp)
   ·rw [if_neg c8] at H
    have c8b0 : decide (x9_1 < (t395.length : Int)) = false := decide_eq_false c8
    clear c8
    simp only [Option.some.injEq, Prod.mk.injEq] at H
    obtain ⟨rfl, rfl⟩ := H
    obtain ⟨Ao26, co26, eo26⟩ := Kd.R_slice HO_6.out
    subst eo26
    have hnb27 := NB393_394.out
    have hnc27 := NB394_393.out
    have hcz28_0 : wr.cell? ⟨gb393, 0, none⟩ = some (u394000) := (blk_cell BK393.out 0).trans rfl
    have hfz28_0 := blk_frozen BK393.out 0
    obtain ⟨Ao29, co29, eo29⟩ := Kd.R_slice HO_394000.out
    subst eo29
    have hcz30_0 : wr.cell? ⟨gb394, 0, none⟩ = some (.slice none 0 0) := (blk_cell BK394.out 0).trans rfl
    have hfz30_0 := blk_frozen BK394.out 0
    go_wp2
    refine bodyPost_ret (results_ct rfl _ _ gb394 61 #[.slice Ao29 x394000_1.length co29] (0, 0) _ rfl (by (with_reducible repeat (first | refine blk_drewN ?_ _ | refine blk_drew ?_ | refine blk_alloc ?_ _)); refine blk_put (cs := #[.slice none 0 0]) ?_ 0 _ rfl; (with_reducible repeat (first | refine blk_drewN ?_ _ | refine blk_drew ?_ | refine blk_alloc ?_ _)); exact BK394.out) Try.underlying61 rfl (by kernel_rfl)) rfl ?_
    exact ⟨_, by first | rfl | (simp [errW_none, errW_some] <;> rfl) | (simp [*, errW_none, errW_some] <;> rfl), by (with_reducible repeat (first | apply Kd.R_alloc | apply Kd.R_drewN | apply Kd.R_drew)); exact Kd.R_mono (Kd.R_far (p := ⟨gb394, 0, none⟩) (Kd.R_types HO_394000.out BK394.out (by decide)) (fun _ hk => hk.2) (.slice Ao29 x394000_1.length co29)) (fun _ hk => hk.1), by repeat (first | (with_reducible first | exact HB.out | apply below_alloc | apply pw_below_drewN | apply below_drew1 | refine below_set ?_ GE393.out | refine below_set ?_ GE394.out) | exact HB.out), by repeat (first | (with_reducible first | exact HK.out | apply Kept.alloc | apply Kept.drewN | apply Kept.drew | refine Kept.setCell ?_ (.inr GW393.out) _ | refine Kept.setCell ?_ (.inr GW394.out) _) | exact HK.out)⟩

/-! ### spec_RwrStream: function 51 -/
def spec_RwrStream.j0 : Nat → ByteArray → Bool → List (S80) → Option ((List (S80)) × ByteArray)
 | 0, _, _, _ => none
 | k + 1, x1, x13, x406000 => if x13 = true then (some (([] : List (S80)), (⟨#[]⟩ : ByteArray))) else ((spec_l3Copy.f x406000).bind fun t409 => ((spec_l3Stream.f k t409 x1).bind fun bt412 => (some (bt412.1, bt412.2))))
def spec_RwrStream.f (k : Nat) (l0_0 : List (S80)) (a1 : ByteArray) : Option ((List (S80)) × ByteArray) := (spec_MapOk.f k l0_0).bind fun t407 => (if t407 = true then ((spec_StrOk.f k a1).bind fun t408 => (spec_RwrStream.j0 k a1 (!t408) l0_0)) else (spec_RwrStream.j0 k a1 true l0_0))
theorem spec_RwrStream.mono_l : ∀ k, (∀ y0 y1 y2, LeO (spec_RwrStream.j0 k y0 y1 y2) (spec_RwrStream.j0 (k + 1) y0 y1 y2))
 | 0 => fun _ _ _ r h => by simp [spec_RwrStream.j0] at h
 | k + 1 => by
  have ih0 := spec_RwrStream.mono_l k
  ·intro y0 y1 y2
   unfold spec_RwrStream.j0
   repeat' first
   | (with_reducible exact ih0 _ _ _)
   | (with_reducible exact spec_MapOk.mono _ _)
   | (with_reducible exact spec_StrOk.mono _ _)
   | (with_reducible exact spec_l3Stream.mono _ _ _)
   | (with_reducible exact LeO.refl _)
   | (with_reducible exact LeO.none _)
   | (with_reducible refine LeO.ite ?_ ?_)
   | (with_reducible refine LeO.bind ?_ (fun _ => ?_))
   | exact ih0 _ _ _
   | exact spec_MapOk.mono _ _
   | exact spec_StrOk.mono _ _
   | exact spec_l3Stream.mono _ _ _
   | exact LeO.none _
   | refine LeO.ite ?_ ?_
   | refine LeO.bind ?_ (fun _ => ?_)
theorem spec_RwrStream.mono : ∀ a0 a1 k, LeO (spec_RwrStream.f k a0 a1) (spec_RwrStream.f (k + 1) a0 a1) := by
 intro a0 a1 k
 have ih0 := spec_RwrStream.mono_l k
 unfold spec_RwrStream.f
 repeat' first
   | (with_reducible exact ih0 _ _ _)
   | (with_reducible exact spec_MapOk.mono _ _)
   | (with_reducible exact spec_StrOk.mono _ _)
   | (with_reducible exact spec_l3Stream.mono _ _ _)
   | (with_reducible exact LeO.refl _)
   | (with_reducible exact LeO.none _)
   | (with_reducible refine LeO.ite ?_ ?_)
   | (with_reducible refine LeO.bind ?_ (fun _ => ?_))
   | exact ih0 _ _ _
   | exact spec_MapOk.mono _ _
   | exact spec_StrOk.mono _ _
   | exact spec_l3Stream.mono _ _ _
   | exact LeO.none _
   | refine LeO.ite ?_ ?_
   | refine LeO.bind ?_ (fun _ => ?_)
set_option maxHeartbeats 8000000 in
set_option maxRecDepth 100000 in
theorem spec_RwrStream.calls (k : Nat) (A0_0 : Option Addr) (c0_0 : Nat) (l0_0 : List (S80)) (a1 : ByteArray) (r1 : List (S80)) (r2 : ByteArray) (w : World) (hr0_0 : Kd.C k80 w A0_0 l0_0.length l0_0) (hc0_0 : l0_0.length ≤ c0_0) (h : spec_RwrStream.f k l0_0 a1 = some (r1, r2)) :
  Calls Try.prog 51 #[.agg #[.slice A0_0 l0_0.length c0_0], .string a1] w fun e w' => ∃ v0_ : Value, e = .returned (.tuple #[.agg #[v0_], .string r2]) ∧ Kd.R k80 80 w' w.heap.size (fun _ => True) v0_ r1 ∧ Below w.heap.size w w' := by
 have hu61 := Try.underlying61
 have HR0_0 := Aside0.mk hr0_0
 have HC0_0 := Aside0.mk hc0_0
 clear hr0_0 hc0_0
 have HB := Aside0.mk (Below.refl w.heap.size w)
 have H : ((spec_MapOk.f k l0_0).bind fun t407 => (if t407 = true then ((spec_StrOk.f k a1).bind fun t408 => (spec_RwrStream.j0 k a1 (!t408) l0_0)) else (spec_RwrStream.j0 k a1 true l0_0))) = some (r1, r2) := h
 clear h
 have HC3 := Aside0.mk H
 clear H
 go_enter Try.func51, Try.ntmps51
 go_upto_region 1 with (first | ((with_reducible refine gate_dst (N := 2) rfl ?_); refine box_event ?hg (N := 2) ?hd (cs := #[.slice A0_0 l0_0.length c0_0]) (t := 61) ?hr ?_; (case hd => rfl); (case hg => rfl); (case hr => first | (go_simp; done) | (go_simp; rfl)); intro gb405 hg w4 hbox hb; have n0_ := Aside0.mk (below_step Z80 hb); have n1_ := Aside0.mk (hbox); have n2_ := Aside0.mk ((Z196 : w.heap.size ≤ gb405)); have n3_ := Aside0.mk ((Z196 : w.heap.size ≤ gb405)); clear HB; have HB := n0_; have BK405 := n1_; have GW405 := n2_; have GE405 := n3_; clear n0_ n1_ n2_ n3_; clear hb hbox hg) | ((with_reducible refine gate_dst (N := 4) rfl ?_); refine box_event ?hg (N := 4) ?hd (cs := #[.slice none 0 0]) (t := 61) ?hr ?_; (case hd => rfl); (case hg => rfl); (case hr => first | (go_simp; done) | (go_simp; rfl)); intro gb406 hg w5 hbox hb; have n0_ := Aside0.mk (blk_below (g := gb405) (o := .cells #[.slice A0_0 l0_0.length c0_0] 61 (0, 0)) Z55 hb); have n1_ := Aside0.mk (below_step Z106 hb); have n2_ := Aside0.mk (hbox); have n3_ := Aside0.mk ((by rw [hg]; exact (below_size Z106) : w.heap.size ≤ gb406)); have n4_ := Aside0.mk ((by rw [hg]; exact (below_size Z106) : w.heap.size ≤ gb406)); have n5_ := Aside0.mk ((by rw [hg]; exact Nat.ne_of_lt (blk_lt (g := gb405) (o := .cells #[.slice A0_0 l0_0.length c0_0] 61 (0, 0)) Z55) : gb405 ≠ gb406)); have n6_ := Aside0.mk ((by rw [hg]; exact Nat.ne_of_gt (blk_lt (g := gb405) (o := .cells #[.slice A0_0 l0_0.length c0_0] 61 (0, 0)) Z55) : gb406 ≠ gb405)); clear BK405; clear HB; have BK405 := n0_; have HB := n1_; have BK406 := n2_; have GW406 := n3_; have GE406 := n4_; have NB405_406 := n5_; have NB406_405 := n6_; clear n0_ n1_ n2_ n3_ n4_ n5_ n6_; clear hb hbox hg))
 (try simp only [Act.put, List.setIfInBounds_toArray, List.set_cons_zero, List.set_cons_succ])
 go_cut [13] (fun v13 wc => ∃ (kq : Nat) (x13_2 : Bool), v13 = .bool x13_2 ∧ Aside0 (spec_RwrStream.j0 kq a1 x13_2 l0_0 = some (r1, r2)) ∧ Aside0 (kq ≤ k) ∧ Aside0 (wc.heap[gb405]? = some (.cells #[(.slice A0_0 l0_0.length c0_0)] 61 (0, 0))) ∧ Aside0 (wc.heap[gb406]? = some (.cells #[(.slice none 0 0)] 61 (0, 0))) ∧ Aside0 (Below w.heap.size w wc))
 case first =>
  have H := HC3.out
  clear HC3
  replace H := Option.bind_eq_some_iff.mp H
  obtain ⟨t407, A60, H⟩ := H
  replace H : (if t407 = true then ((spec_StrOk.f k a1).bind fun t408 => (spec_RwrStream.j0 k a1 (!t408) l0_0)) else (spec_RwrStream.j0 k a1 true l0_0)) = some (r1, r2) := H
  have A6 := Aside0.mk A60
  clear A60
  by_cases c7 : t407 = true
  ·subst c7
   have H1 : ((spec_StrOk.f k a1).bind fun t408 => (spec_RwrStream.j0 k a1 (!t408) l0_0)) = some (r1, r2) := by rw [if_pos rfl] at H; exact H
   clear H
   have H := H1
   clear H1
   replace H := Option.bind_eq_some_iff.mp H
   obtain ⟨t408, A80, H⟩ := H
   replace H : (spec_RwrStream.j0 k a1 (!t408) l0_0) = some (r1, r2) := H
   have A8 := Aside0.mk A80
   clear A80
   have H' := Aside0.mk H
   clear H
   have hnb9 := NB405_406.out
   have hnc9 := NB406_405.out
   have hcz10_0 : w5.cell? ⟨gb405, 0, none⟩ = some (.slice A0_0 l0_0.length c0_0) := (blk_cell BK405.out 0).trans rfl
   have hfz10_0 := blk_frozen BK405.out 0
   go_wp2_with (first | ((with_reducible refine gate_callee (f := 69) rfl ?_); refine goesL_ (some 7) rfl rfl Try.func69 (by kernel_rfl) rfl #[.agg #[.slice A0_0 l0_0.length c0_0]] rfl Z84 ?_; (with_reducible refine (spec_MapOk.calls k _ _ l0_0 true _ ?side1 ?side2 A6.out).mono ?_); (case side1 => exact Z117); (case side2 => exact HC0_0.out); rintro e w11 ⟨rfl, hb⟩; refine ⟨_, rfl, ?_⟩; have n0_ := Aside0.mk (blk_below (g := gb405) (o := .cells #[.slice A0_0 l0_0.length c0_0] 61 (0, 0)) Z55 hb); have n1_ := Aside0.mk (blk_below (g := gb406) (o := .cells #[.slice none 0 0] 61 (0, 0)) Z56 hb); have n2_ := Aside0.mk (below_step Z136 hb); clear BK405; clear BK406; clear HB; have BK405 := n0_; have BK406 := n1_; have HB := n2_; clear n0_ n1_ n2_; (try clear hb)) | (go_at_call 18; (with_reducible refine (spec_StrOk.calls k a1 t408 _ A8.out).mono ?_); rintro e w12 ⟨rfl, hb⟩; have n0_ := Aside0.mk (blk_below (g := gb405) (o := .cells #[.slice A0_0 l0_0.length c0_0] 61 (0, 0)) Z55 hb); have n1_ := Aside0.mk (blk_below (g := gb406) (o := .cells #[.slice none 0 0] 61 (0, 0)) Z56 hb); have n2_ := Aside0.mk (below_step Z136 hb); clear BK405; clear BK406; clear HB; have BK405 := n0_; have BK406 := n1_; have HB := n2_; clear n0_ n1_ n2_; (try clear hb)))
   go_meet
   case rel => exact ⟨_, (!t408), Z1, H', ⟨by first | omega | exact Nat.le_refl _⟩, ⟨by (with_reducible repeat (first | refine blk_drewN ?_ _ | refine blk_drew ?_ | refine blk_alloc ?_ _)); exact BK405.out⟩, ⟨by (with_reducible repeat (first | refine blk_drewN ?_ _ | refine blk_drew ?_ | refine blk_alloc ?_ _)); exact BK406.out⟩, ⟨by repeat (first | (with_reducible first | exact HB.out | apply below_alloc | apply pw_below_drewN | apply below_drew1 | refine below_set ?_ GE405.out | refine below_set ?_ GE406.out) | exact HB.out)⟩⟩
  ·replace c7 := Bool.eq_false_iff.mpr c7
   subst c7
   have H1 : (spec_RwrStream.j0 k a1 true l0_0) = some (r1, r2) := by rw [if_neg (show ¬ (false = true) by decide)] at H; exact H
   clear H
   have H := H1
   clear H1
   have H' := Aside0.mk H
   clear H
   have hnb13 := NB405_406.out
   have hnc13 := NB406_405.out
   have hcz14_0 : w5.cell? ⟨gb405, 0, none⟩ = some (.slice A0_0 l0_0.length c0_0) := (blk_cell BK405.out 0).trans rfl
   have hfz14_0 := blk_frozen BK405.out 0
   go_wp2_with (first | ((with_reducible refine gate_callee (f := 69) rfl ?_); refine goesL_ (some 7) rfl rfl Try.func69 (by kernel_rfl) rfl #[.agg #[.slice A0_0 l0_0.length c0_0]] rfl Z84 ?_; (with_reducible refine (spec_MapOk.calls k _ _ l0_0 false _ ?side1 ?side2 A6.out).mono ?_); (case side1 => exact Z117); (case side2 => exact HC0_0.out); rintro e w15 ⟨rfl, hb⟩; refine ⟨_, rfl, ?_⟩; have n0_ := Aside0.mk (blk_below (g := gb405) (o := .cells #[.slice A0_0 l0_0.length c0_0] 61 (0, 0)) Z55 hb); have n1_ := Aside0.mk (blk_below (g := gb406) (o := .cells #[.slice none 0 0] 61 (0, 0)) Z56 hb); have n2_ := Aside0.mk (below_step Z136 hb); clear BK405; clear BK406; clear HB; have BK405 := n0_; have BK406 := n1_; have HB := n2_; clear n0_ n1_ n2_; (try clear hb)))
   go_meet
   case rel => exact ⟨_, (true), Z1, H', ⟨by first | omega | exact Nat.le_refl _⟩, ⟨by (with_reducible repeat (first | refine blk_drewN ?_ _ | refine blk_drew ?_ | refine blk_alloc ?_ _)); exact BK405.out⟩, ⟨by (with_reducible repeat (first | refine blk_drewN ?_ _ | refine blk_drew ?_ | refine blk_alloc ?_ _)); exact BK406.out⟩, ⟨by repeat (first | (with_reducible first | exact HB.out | apply below_alloc | apply pw_below_drewN | apply below_drew1 | refine below_set ?_ GE405.out | refine below_set ?_ GE406.out) | exact HB.out)⟩⟩
 case rest =>
  clear HC3
  try clear c1
  try clear p2
  try clear c5
  try clear c6
  try clear c7
  try clear c9
  try clear c13
  try clear hcz10_0
  try clear hcz14_0
  try clear hfz10_0
  try clear hfz14_0
  obtain ⟨kq, x13_2, rfl, HA, HJ2, BK405, BK406, HB⟩ := hcut
  cases kq with
  | zero => exact absurd HA.out (by simp [spec_RwrStream.j0])
  | succ kj2 =>
   have H := HA.out
   clear HA
   simp only [spec_RwrStream.j0] at H
   by_cases c16 : x13_2 = true
   ·subst c16
    have H1 : (some (([] : List (S80)), (⟨#[]⟩ : ByteArray))) = some (r1, r2) := by rw [if_pos rfl] at H; exact H
    clear H
    have H := H1
    clear H1
    simp only [Option.some.injEq, Prod.mk.injEq] at H
    obtain ⟨rfl, rfl⟩ := H
    have hnb17 := NB406_405.out
    have hnc17 := NB405_406.out
    have hcz18_0 : wc.cell? ⟨gb406, 0, none⟩ = some (.slice none 0 0) := (blk_cell BK406.out 0).trans rfl
    have hfz18_0 := blk_frozen BK406.out 0
    go_wp2
    refine bodyPost_ret (results_ct rfl _ _ gb406 61 #[.slice none 0 0] (0, 0) _ rfl Z170 Try.underlying61 rfl (by kernel_rfl)) rfl ?_
    exact ⟨_, by first | rfl | (simp [errW_none, errW_some] <;> rfl) | (simp [*, errW_none, errW_some] <;> rfl), by first | exact Kd.R_nil _ _ _ _ _ | exact Kd.N_nil _ _ _ _ _ | exact Kd.V_nil _ _ _ _ _ | exact Kd.Q_nil _ _ _ _ _ | exact Kd.S_nil _ _ _ _ _, by repeat (first | (with_reducible first | exact HB.out | apply below_alloc | apply pw_below_drewN | apply below_drew1 | refine below_set ?_ GE405.out | refine below_set ?_ GE406.out) | exact HB.out)⟩
   ·replace c16 := Bool.eq_false_iff.mpr c16
    subst c16
    have H1 : ((spec_l3Copy.f l0_0).bind fun t409 => ((spec_l3Stream.f kj2 t409 a1).bind fun bt412 => (some (bt412.1, bt412.2)))) = some (r1, r2) := by rw [if_neg (show ¬ (false = true) by decide)] at H; exact H
    clear H
    have H := H1
    clear H1
    replace H := Option.bind_eq_some_iff.mp H
    obtain ⟨t409, A190, H⟩ := H
    replace H : ((spec_l3Stream.f kj2 t409 a1).bind fun bt412 => (some (bt412.1, bt412.2))) = some (r1, r2) := H
    have A19 := Aside0.mk A190
    clear A190
    replace H := Option.bind_eq_some_iff.mp H
    obtain ⟨⟨t412, t415⟩, A200, H⟩ := H
    replace H : (some (t412, t415)) = some (r1, r2) := H
    have A20 := Aside0.mk A200
    clear A200
    simp only [Option.some.injEq, Prod.mk.injEq] at H
    obtain ⟨rfl, rfl⟩ := H
    have hnb21 := NB405_406.out
    have hnc21 := NB406_405.out
    have hcz22_0 : wc.cell? ⟨gb405, 0, none⟩ = some (.slice A0_0 l0_0.length c0_0) := (blk_cell BK405.out 0).trans rfl
    have hfz22_0 := blk_frozen BK405.out 0
    go_wp2_with (first | ((with_reducible refine gate_callee (f := 71) rfl ?_); refine goesL_ (some 16) rfl rfl Try.func71 (by kernel_rfl) rfl #[.agg #[.slice A0_0 l0_0.length c0_0]] rfl Z84 ?_; (with_reducible refine (spec_l3Copy.calls _ _ l0_0 t409 _ ?side1 ?side2 A19.out).mono ?_); (case side1 => exact Z117); (case side2 => exact HC0_0.out); rintro e w23 ⟨v410, rfl, ho0, hb⟩; refine ⟨_, rfl, ?_⟩; have n0_ := Aside0.mk (Kd.R_lower ho0 (below_size Z136)); have n1_ := Aside0.mk (blk_below (g := gb405) (o := .cells #[.slice A0_0 l0_0.length c0_0] 61 (0, 0)) Z55 hb); have n2_ := Aside0.mk (blk_below (g := gb406) (o := .cells #[.slice none 0 0] 61 (0, 0)) Z56 hb); have n3_ := Aside0.mk (below_step Z136 hb); clear BK405; clear BK406; clear HB; have HO411 := n0_; have BK405 := n1_; have BK406 := n2_; have HB := n3_; clear n0_ n1_ n2_ n3_; (try clear hb); (try clear ho0); obtain ⟨Ao24, co24, eo24⟩ := Kd.R_slice HO411.out; subst eo24) | ((with_reducible refine gate_callee (f := 70) rfl ?_); refine goesL_ (some 18) rfl rfl Try.func70 (by kernel_rfl) rfl #[.agg #[.slice Ao24 t409.length co24], .string a1] rfl Z84 ?_; (with_reducible refine (spec_l3Stream.calls kj2 (fun k_ => some k_ = (.slice Ao24 t409.length co24 : Value).ownBlock) (.slice Ao24 t409.length co24) t409 a1 t412 t415 w _ ?side1 ?side2 A20.out).mono ?_); (case side1 => repeat (first | (with_reducible first | exact HB.out | apply below_alloc | apply pw_below_drewN | apply below_drew1 | refine below_set ?_ GE405.out | refine below_set ?_ GE406.out) | exact HB.out)); (case side2 => exact Kd.R_tight rfl HO411.out); rintro e w25 ⟨v413, rfl, ho0, hb, hkp⟩; refine ⟨_, rfl, ?_⟩; have n0_ := Aside0.mk (blk_kept Z55 hkp (fun hs_ => (fun e_ => (Kd.R_ne HO411.out BK405.out (by decide)) e_) hs_)); have n1_ := Aside0.mk (blk_kept Z56 hkp (fun hs_ => (fun e_ => (Kd.R_ne HO411.out BK406.out (by decide)) e_) hs_)); have n2_ := Aside0.mk (Kd.R_mono (ok' := fun k_ => True) ho0 (fun k_ hk_ => trivial)); have n3_ := Aside0.mk (hb); clear BK405; clear BK406; clear HB; clear HO411; have BK405 := n0_; have BK406 := n1_; have HO414 := n2_; have HB := n3_; clear n0_ n1_ n2_ n3_; (try clear hb); (try clear hkp); (try clear ho0); obtain ⟨Ao26, co26, eo26⟩ := Kd.R_slice HO414.out; subst eo26; have hcz27_0 : w25.cell? ⟨gb406, 0, none⟩ = some (.slice none 0 0) := (blk_cell BK406.out 0).trans rfl; have hfz27_0 := blk_frozen BK406.out 0))
    refine bodyPost_ret (results_ct rfl _ _ gb406 61 #[.slice Ao26 t412.length co26] (0, 0) _ rfl Z170 Try.underlying61 rfl (by kernel_rfl)) rfl ?_
    exact ⟨_, by first | rfl | (simp [errW_none, errW_some] <;> rfl) | (simp [*, errW_none, errW_some] <;> rfl), by (with_reducible repeat (first | apply Kd.R_alloc | apply Kd.R_drewN | apply Kd.R_drew)); exact Kd.R_mono (Kd.R_far (p := ⟨gb406, 0, none⟩) (Kd.R_types HO414.out BK406.out (by decide)) (fun _ hk => hk.2) (.slice Ao26 t412.length co26)) (fun _ hk => trivial), by repeat (first | (with_reducible first | exact HB.out | apply below_alloc | apply pw_below_drewN | apply below_drew1 | refine below_set ?_ GE405.out | refine below_set ?_ GE406.out) | exact HB.out)⟩

/-! ### spec_DrawPosPairs: function 32 -/
def spec_DrawPosPairs.f (k : Nat) (l0 : List Int) : Option (ByteArray × ByteArray) := (spec_l20Open.f l0).bind fun bt416 => ((spec_l20Table.f k bt416.1 bt416.2 99999).bind fun bt419 => ((spec_l20StreamOr.f k bt416.1 bt419.2 9).bind fun bt424 => ((spec_l20Rd_pick.f k bt416.1 bt424.2 3).bind fun bt426 => (if bt426.1 = 0 then ((spec_l20Stream.f k bt416.1 bt426.2).bind fun bt428 => (some (bt424.1, bt428.1))) else ((spec_RwrStream.f k bt419.1 bt424.1).bind fun bt430 => (some (bt424.1, bt430.2)))))))
theorem spec_DrawPosPairs.mono : ∀ a0 k, LeO (spec_DrawPosPairs.f k a0) (spec_DrawPosPairs.f (k + 1) a0) := by
 intro a0 k
 unfold spec_DrawPosPairs.f
 repeat' first
   | (with_reducible exact spec_RwrStream.mono _ _ _)
   | (with_reducible exact spec_l20Rd_pick.mono _ _ _ _)
   | (with_reducible exact spec_l20Stream.mono _ _ _)
   | (with_reducible exact spec_l20StreamOr.mono _ _ _ _)
   | (with_reducible exact spec_l20Table.mono _ _ _ _)
   | (with_reducible exact LeO.refl _)
   | (with_reducible exact LeO.none _)
   | (with_reducible refine LeO.ite ?_ ?_)
   | (with_reducible refine LeO.bind ?_ (fun _ => ?_))
   | exact spec_RwrStream.mono _ _ _
   | exact spec_l20Rd_pick.mono _ _ _ _
   | exact spec_l20Stream.mono _ _ _
   | exact spec_l20StreamOr.mono _ _ _ _
   | exact spec_l20Table.mono _ _ _ _
   | exact LeO.none _
   | refine LeO.ite ?_ ?_
   | refine LeO.bind ?_ (fun _ => ?_)
set_option maxHeartbeats 8000000 in
set_option maxRecDepth 100000 in
theorem spec_DrawPosPairs.calls (k : Nat) (A0 : Option Addr) (c0 : Nat) (l0 : List Int) (r1 : ByteArray) (r2 : ByteArray) (w : World) (hr0 : Kd.C (Kd.int .u8) w A0 l0.length l0) (hc0 : l0.length ≤ c0) (h : spec_DrawPosPairs.f k l0 = some (r1, r2)) :
  Calls Try.prog 32 #[.slice A0 l0.length c0] w fun e w' => e = .returned (.tuple #[.string r1, .string r2]) ∧ Below w.heap.size w w' := by
 have hu61 := Try.underlying61
 have HR0 := Aside0.mk hr0
 have HC0 := Aside0.mk hc0
 clear hr0 hc0
 have HB := Aside0.mk (Below.refl w.heap.size w)
 have H : ((spec_l20Open.f l0).bind fun bt416 => ((spec_l20Table.f k bt416.1 bt416.2 99999).bind fun bt419 => ((spec_l20StreamOr.f k bt416.1 bt419.2 9).bind fun bt424 => ((spec_l20Rd_pick.f k bt416.1 bt424.2 3).bind fun bt426 => (if bt426.1 = 0 then ((spec_l20Stream.f k bt416.1 bt426.2).bind fun bt428 => (some (bt424.1, bt428.1))) else ((spec_RwrStream.f k bt419.1 bt424.1).bind fun bt430 => (some (bt424.1, bt430.2)))))))) = some (r1, r2) := h
 clear h
 replace H := Option.bind_eq_some_iff.mp H
 obtain ⟨⟨t416, t417⟩, A20, H⟩ := H
 replace H : ((spec_l20Table.f k t416 t417 99999).bind fun bt419 => ((spec_l20StreamOr.f k t416 bt419.2 9).bind fun bt424 => ((spec_l20Rd_pick.f k t416 bt424.2 3).bind fun bt426 => (if bt426.1 = 0 then ((spec_l20Stream.f k t416 bt426.2).bind fun bt428 => (some (bt424.1, bt428.1))) else ((spec_RwrStream.f k bt419.1 bt424.1).bind fun bt430 => (some (bt424.1, bt430.2))))))) = some (r1, r2) := H
 have A2 := Aside0.mk A20
 clear A20
 replace H := Option.bind_eq_some_iff.mp H
 obtain ⟨⟨t419, t422⟩, A30, H⟩ := H
 replace H : ((spec_l20StreamOr.f k t416 t422 9).bind fun bt424 => ((spec_l20Rd_pick.f k t416 bt424.2 3).bind fun bt426 => (if bt426.1 = 0 then ((spec_l20Stream.f k t416 bt426.2).bind fun bt428 => (some (bt424.1, bt428.1))) else ((spec_RwrStream.f k t419 bt424.1).bind fun bt430 => (some (bt424.1, bt430.2)))))) = some (r1, r2) := H
 have A3 := Aside0.mk A30
 clear A30
 replace H := Option.bind_eq_some_iff.mp H
 obtain ⟨⟨t424, t425⟩, A40, H⟩ := H
 replace H : ((spec_l20Rd_pick.f k t416 t425 3).bind fun bt426 => (if bt426.1 = 0 then ((spec_l20Stream.f k t416 bt426.2).bind fun bt428 => (some (t424, bt428.1))) else ((spec_RwrStream.f k t419 t424).bind fun bt430 => (some (t424, bt430.2))))) = some (r1, r2) := H
 have A4 := Aside0.mk A40
 clear A40
 replace H := Option.bind_eq_some_iff.mp H
 obtain ⟨⟨t426, t427⟩, A50, H⟩ := H
 replace H : (if t426 = 0 then ((spec_l20Stream.f k t416 t427).bind fun bt428 => (some (t424, bt428.1))) else ((spec_RwrStream.f k t419 t424).bind fun bt430 => (some (t424, bt430.2)))) = some (r1, r2) := H
 have A5 := Aside0.mk A50
 clear A50
 by_cases c6 : t426 = 0
 ·rw [if_pos c6] at H
  have c6b0 : (t426 == 0) = true := beq_iff_eq.mpr c6
  have c6b1 : (t426 != 0) = false := bne_eq_false_iff_eq.mpr c6
  clear c6
  replace H := Option.bind_eq_some_iff.mp H
  obtain ⟨⟨t428, t429⟩, A70, H⟩ := H
  replace H : (some (t424, t428)) = some (r1, r2) := H
  have A7 := Aside0.mk A70
  clear A70
  simp only [Option.some.injEq, Prod.mk.injEq] at H
  obtain ⟨rfl, rfl⟩ := H
  go_enter Try.func32, Try.ntmps32
  go_wp2_with (first | ((with_reducible refine gate_callee (f := 46) rfl ?_); refine goesL_ (some 10) rfl rfl Try.func46 (by kernel_rfl) rfl #[.slice A0 l0.length c0] rfl Z84 ?_; (with_reducible refine (spec_l20Open.calls _ _ l0 t416 t417 w _ ?side1 ?side2 ?side3 A2.out).mono ?_); (case side1 => exact Z79); (case side2 => exact HR0.out); (case side3 => exact HC0.out); rintro e w8 ⟨g418, rfl, hi, hb, hb2⟩; refine ⟨_, rfl, ?_⟩; have n0_ := Aside0.mk (hb); have n1_ := Aside0.mk (hi); clear HB; have HB := n0_; have HI418 := n1_; clear n0_ n1_; (try clear hb); (try clear hb2); (try clear hi)) | ((with_reducible refine gate_callee (f := 48) rfl ?_); refine goesL_ (some 12) rfl rfl Try.func48 (by kernel_rfl) rfl #[.pointer (some ⟨g418, 0, none⟩), .int .i64 99999] rfl Z84 ?_; (with_reducible refine (spec_l20Table.calls k g418 t416 t417 99999 t419 t422 w _ ?side1 ?side2 A3.out).mono ?_); (case side1 => exact Z90); (case side2 => exact Z118); rintro e w9 ⟨v420, rfl, ho0, hi, hb, hk⟩; refine ⟨_, rfl, ?_⟩; have n0_ := Aside0.mk (Kd.R_lower ho0 (below_size Z119)); have n1_ := Aside0.mk (hb); have n2_ := Aside0.mk (hi); clear HB; clear HI418; have HO421 := n0_; have HB := n1_; have HI418 := n2_; clear n0_ n1_ n2_; (try clear hb); (try clear hk); (try clear hi); (try clear ho0)) | ((with_reducible refine gate_dst (N := 5) rfl ?_); refine box_event ?hg (N := 5) ?hd (cs := #[.slice none 0 0]) (t := 61) ?hr ?_; (case hd => rfl); (case hg => rfl); (case hr => first | (go_simp; done) | (go_simp; rfl)); intro gb423 hg w10 hbox hb; have n0_ := Aside0.mk (Kd.R_below Z20 hb); have n1_ := Aside0.mk (IsS76.below Z91 hb); have n2_ := Aside0.mk (below_step Z119 hb); have n3_ := Aside0.mk (hbox); have n4_ := Aside0.mk ((by rw [hg]; exact (below_size Z119) : w.heap.size ≤ gb423)); have n5_ := Aside0.mk ((by rw [hg]; exact (below_size Z119) : w.heap.size ≤ gb423)); have n6_ := Aside0.mk ((Z155 : g418 ≠ gb423)); have n7_ := Aside0.mk ((Z156 : gb423 ≠ g418)); clear HO421; clear HI418; clear HB; have HO421 := n0_; have HI418 := n1_; have HB := n2_; have BK423 := n3_; have GW423 := n4_; have GE423 := n5_; have NB418_423 := n6_; have NB423_418 := n7_; clear n0_ n1_ n2_ n3_ n4_ n5_ n6_ n7_; clear hb hbox hg; obtain ⟨Ao11, co11, eo11⟩ := Kd.R_slice HO421.out; subst eo11; have hnb12 := NB423_418.out; have hnc12 := NB418_423.out; have hcz13_0 : w10.cell? ⟨gb423, 0, none⟩ = some (.slice none 0 0) := (blk_cell BK423.out 0).trans rfl; have hfz13_0 := blk_frozen BK423.out 0) | ((with_reducible refine gate_callee (f := 45) rfl ?_); refine goesL_ (some 14) rfl rfl Try.func45 (by kernel_rfl) rfl #[.pointer (some ⟨g418, 0, none⟩), .int .i64 9] rfl Z84 ?_; (with_reducible refine (spec_l20StreamOr.calls k g418 t416 t422 9 t424 t425 w _ ?side1 ?side2 A4.out).mono ?_); (case side1 => exact Z126); (case side2 => exact Z140); rintro e w14 ⟨rfl, hi, hb, hk⟩; refine ⟨_, rfl, ?_⟩; have n0_ := Aside0.mk (Kd.R_mono (Kd.R_keep (IsS76.apart (show IsS76 w _ g418 t416 t422 from by repeat (first | (with_reducible first | exact HI418.out | apply IsS76.alloc | apply IsS76.drewN | apply IsS76.drew | apply IsS76.set_1 | refine IsS76.far ?_ NB418_423.out _) | exact HI418.out)) (by (with_reducible repeat (first | apply Kd.R_alloc | apply Kd.R_drewN | apply Kd.R_drew)); exact (Kd.R_mono (Kd.R_far (p := ⟨gb423, 0, none⟩) (Kd.R_types HO421.out BK423.out (by decide)) (fun _ hk => hk.2) (.slice Ao11 t419.length co11)) (fun _ h_ => h_.1))) (by decide)) hk (fun _ h => h.2)) (fun _ h => h.1)); have n1_ := Aside0.mk (KeepBut.blk hk (g' := gb423) (o := .cells #[.slice Ao11 t419.length co11] 61 (0, 0)) Z171 NB423_418.out (by simp)); have n2_ := Aside0.mk (hb); have n3_ := Aside0.mk (hi); clear HO421; clear BK423; clear HB; clear HI418; have HO421 := n0_; have BK423 := n1_; have HB := n2_; have HI418 := n3_; clear n0_ n1_ n2_ n3_; (try clear hb); (try clear hk); (try clear hi)) | ((with_reducible refine gate_callee (f := 49) rfl ?_); refine goesL_ (some 16) rfl rfl Try.func49 (by kernel_rfl) rfl #[.pointer (some ⟨g418, 0, none⟩), .int .i64 3] rfl Z84 ?_; (with_reducible refine (spec_l20Rd_pick.calls k g418 t416 t425 3 t426 t427 w _ ?side1 ?side2 A5.out).mono ?_); (case side1 => exact Z126); (case side2 => exact Z140); rintro e w15 ⟨rfl, hi, hb, hk⟩; refine ⟨_, rfl, ?_⟩; have n0_ := Aside0.mk (Kd.R_mono (Kd.R_keep (IsS76.apart (show IsS76 w _ g418 t416 t425 from by repeat (first | (with_reducible first | exact HI418.out | apply IsS76.alloc | apply IsS76.drewN | apply IsS76.drew | apply IsS76.set_1 | refine IsS76.far ?_ NB418_423.out _) | exact HI418.out)) Z20 (by decide)) hk (fun _ h => h.2)) (fun _ h => h.1)); have n1_ := Aside0.mk (KeepBut.blk hk (g' := gb423) (o := .cells #[.slice Ao11 t419.length co11] 61 (0, 0)) Z57 NB423_418.out (by simp)); have n2_ := Aside0.mk (hb); have n3_ := Aside0.mk (hi); clear HO421; clear BK423; clear HB; clear HI418; have HO421 := n0_; have BK423 := n1_; have HB := n2_; have HI418 := n3_; clear n0_ n1_ n2_ n3_; (try clear hb); (try clear hk); (try clear hi)) | ((with_reducible refine gate_callee (f := 50) rfl ?_); refine goesL_ (some 20) rfl rfl Try.func50 (by kernel_rfl) rfl #[.pointer (some ⟨g418, 0, none⟩)] rfl Z84 ?_; (with_reducible refine (spec_l20Stream.calls k g418 t416 t427 t428 t429 w _ ?side1 ?side2 A7.out).mono ?_); (case side1 => exact Z126); (case side2 => exact Z140); rintro e w16 ⟨rfl, hi, hb, hk⟩; refine ⟨_, rfl, ?_⟩; have n0_ := Aside0.mk (Kd.R_mono (Kd.R_keep (IsS76.apart (show IsS76 w _ g418 t416 t427 from by repeat (first | (with_reducible first | exact HI418.out | apply IsS76.alloc | apply IsS76.drewN | apply IsS76.drew | apply IsS76.set_1 | refine IsS76.far ?_ NB418_423.out _) | exact HI418.out)) Z20 (by decide)) hk (fun _ h => h.2)) (fun _ h => h.1)); have n1_ := Aside0.mk (KeepBut.blk hk (g' := gb423) (o := .cells #[.slice Ao11 t419.length co11] 61 (0, 0)) Z57 NB423_418.out (by simp)); have n2_ := Aside0.mk (hb); have n3_ := Aside0.mk (hi); clear HO421; clear BK423; clear HB; clear HI418; have HO421 := n0_; have BK423 := n1_; have HB := n2_; have HI418 := n3_; clear n0_ n1_ n2_ n3_; (try clear hb); (try clear hk); (try clear hi)))
  go_ret2
  exact ⟨by first | rfl | (simp [errW_none, errW_some] <;> rfl) | (simp [*, errW_none, errW_some] <;> rfl), by repeat (first | (with_reducible first | exact HB.out | apply below_alloc | apply pw_below_drewN | apply below_drew1 | refine below_set ?_ (IsS76.ge HI418.out) | refine below_set ?_ GE423.out) | exact HB.out)⟩
 ·rw [if_neg c6] at H
  have c6b0 : (t426 == 0) = false := beq_eq_false_iff_ne.mpr c6
  have c6b1 : (t426 != 0) = true := bne_iff_ne.mpr c6
  replace H := Option.bind_eq_some_iff.mp H
  obtain ⟨⟨t430, t433⟩, A170, H⟩ := H
  replace H : (some (t424, t433)) = some (r1, r2) := H
  have A17 := Aside0.mk A170
  clear A170
  simp only [Option.some.injEq, Prod.mk.injEq] at H
  obtain ⟨rfl, rfl⟩ := H
  go_enter Try.func32, Try.ntmps32
  go_wp2_with (first | ((with_reducible refine gate_callee (f := 46) rfl ?_); refine goesL_ (some 10) rfl rfl Try.func46 (by kernel_rfl) rfl #[.slice A0 l0.length c0] rfl Z84 ?_; (with_reducible refine (spec_l20Open.calls _ _ l0 t416 t417 w _ ?side1 ?side2 ?side3 A2.out).mono ?_); (case side1 => exact Z79); (case side2 => exact HR0.out); (case side3 => exact HC0.out); rintro e w18 ⟨g418, rfl, hi, hb, hb2⟩; refine ⟨_, rfl, ?_⟩; have n0_ := Aside0.mk (hb); have n1_ := Aside0.mk (hi); clear HB; have HB := n0_; have HI418 := n1_; clear n0_ n1_; (try clear hb); (try clear hb2); (try clear hi)) | ((with_reducible refine gate_callee (f := 48) rfl ?_); refine goesL_ (some 12) rfl rfl Try.func48 (by kernel_rfl) rfl #[.pointer (some ⟨g418, 0, none⟩), .int .i64 99999] rfl Z84 ?_; (with_reducible refine (spec_l20Table.calls k g418 t416 t417 99999 t419 t422 w _ ?side1 ?side2 A3.out).mono ?_); (case side1 => exact Z90); (case side2 => exact Z118); rintro e w19 ⟨v420, rfl, ho0, hi, hb, hk⟩; refine ⟨_, rfl, ?_⟩; have n0_ := Aside0.mk (Kd.R_lower ho0 (below_size Z119)); have n1_ := Aside0.mk (hb); have n2_ := Aside0.mk (hi); clear HB; clear HI418; have HO421 := n0_; have HB := n1_; have HI418 := n2_; clear n0_ n1_ n2_; (try clear hb); (try clear hk); (try clear hi); (try clear ho0)) | ((with_reducible refine gate_dst (N := 5) rfl ?_); refine box_event ?hg (N := 5) ?hd (cs := #[.slice none 0 0]) (t := 61) ?hr ?_; (case hd => rfl); (case hg => rfl); (case hr => first | (go_simp; done) | (go_simp; rfl)); intro gb423 hg w20 hbox hb; have n0_ := Aside0.mk (Kd.R_below Z20 hb); have n1_ := Aside0.mk (IsS76.below Z91 hb); have n2_ := Aside0.mk (below_step Z119 hb); have n3_ := Aside0.mk (hbox); have n4_ := Aside0.mk ((by rw [hg]; exact (below_size Z119) : w.heap.size ≤ gb423)); have n5_ := Aside0.mk ((by rw [hg]; exact (below_size Z119) : w.heap.size ≤ gb423)); have n6_ := Aside0.mk ((Z155 : g418 ≠ gb423)); have n7_ := Aside0.mk ((Z156 : gb423 ≠ g418)); clear HO421; clear HI418; clear HB; have HO421 := n0_; have HI418 := n1_; have HB := n2_; have BK423 := n3_; have GW423 := n4_; have GE423 := n5_; have NB418_423 := n6_; have NB423_418 := n7_; clear n0_ n1_ n2_ n3_ n4_ n5_ n6_ n7_; clear hb hbox hg; obtain ⟨Ao21, co21, eo21⟩ := Kd.R_slice HO421.out; subst eo21; have hnb22 := NB423_418.out; have hnc22 := NB418_423.out; have hcz23_0 : w20.cell? ⟨gb423, 0, none⟩ = some (.slice none 0 0) := (blk_cell BK423.out 0).trans rfl; have hfz23_0 := blk_frozen BK423.out 0) | ((with_reducible refine gate_callee (f := 45) rfl ?_); refine goesL_ (some 14) rfl rfl Try.func45 (by kernel_rfl) rfl #[.pointer (some ⟨g418, 0, none⟩), .int .i64 9] rfl Z84 ?_; (with_reducible refine (spec_l20StreamOr.calls k g418 t416 t422 9 t424 t425 w _ ?side1 ?side2 A4.out).mono ?_); (case side1 => exact Z126); (case side2 => exact Z140); rintro e w24 ⟨rfl, hi, hb, hk⟩; refine ⟨_, rfl, ?_⟩; have n0_ := Aside0.mk (Kd.R_mono (Kd.R_keep (IsS76.apart (show IsS76 w _ g418 t416 t422 from by repeat (first | (with_reducible first | exact HI418.out | apply IsS76.alloc | apply IsS76.drewN | apply IsS76.drew | apply IsS76.set_1 | refine IsS76.far ?_ NB418_423.out _) | exact HI418.out)) (by (with_reducible repeat (first | apply Kd.R_alloc | apply Kd.R_drewN | apply Kd.R_drew)); exact (Kd.R_mono (Kd.R_far (p := ⟨gb423, 0, none⟩) (Kd.R_types HO421.out BK423.out (by decide)) (fun _ hk => hk.2) (.slice Ao21 t419.length co21)) (fun _ h_ => h_.1))) (by decide)) hk (fun _ h => h.2)) (fun _ h => h.1)); have n1_ := Aside0.mk (KeepBut.blk hk (g' := gb423) (o := .cells #[.slice Ao21 t419.length co21] 61 (0, 0)) Z171 NB423_418.out (by simp)); have n2_ := Aside0.mk (hb); have n3_ := Aside0.mk (hi); clear HO421; clear BK423; clear HB; clear HI418; have HO421 := n0_; have BK423 := n1_; have HB := n2_; have HI418 := n3_; clear n0_ n1_ n2_ n3_; (try clear hb); (try clear hk); (try clear hi)) | ((with_reducible refine gate_callee (f := 49) rfl ?_); refine goesL_ (some 16) rfl rfl Try.func49 (by kernel_rfl) rfl #[.pointer (some ⟨g418, 0, none⟩), .int .i64 3] rfl Z84 ?_; (with_reducible refine (spec_l20Rd_pick.calls k g418 t416 t425 3 t426 t427 w _ ?side1 ?side2 A5.out).mono ?_); (case side1 => exact Z126); (case side2 => exact Z140); rintro e w25 ⟨rfl, hi, hb, hk⟩; refine ⟨_, rfl, ?_⟩; have n0_ := Aside0.mk (Kd.R_mono (Kd.R_keep (IsS76.apart (show IsS76 w _ g418 t416 t425 from by repeat (first | (with_reducible first | exact HI418.out | apply IsS76.alloc | apply IsS76.drewN | apply IsS76.drew | apply IsS76.set_1 | refine IsS76.far ?_ NB418_423.out _) | exact HI418.out)) Z20 (by decide)) hk (fun _ h => h.2)) (fun _ h => h.1)); have n1_ := Aside0.mk (KeepBut.blk hk (g' := gb423) (o := .cells #[.slice Ao21 t419.length co21] 61 (0, 0)) Z57 NB423_418.out (by simp)); have n2_ := Aside0.mk (hb); have n3_ := Aside0.mk (hi); clear HO421; clear BK423; clear HB; clear HI418; have HO421 := n0_; have BK423 := n1_; have HB := n2_; have HI418 := n3_; clear n0_ n1_ n2_ n3_; (try clear hb); (try clear hk); (try clear hi); have hcz26_0 : w25.cell? ⟨gb423, 0, none⟩ = some (.slice Ao21 t419.length co21) := (blk_cell BK423.out 0).trans rfl; have hfz26_0 := blk_frozen BK423.out 0) | ((with_reducible refine gate_callee (f := 51) rfl ?_); refine goesL_ (some 24) rfl rfl Try.func51 (by kernel_rfl) rfl #[.agg #[.slice Ao21 t419.length co21], .string t424] rfl Z84 ?_; (with_reducible refine (spec_RwrStream.calls k _ _ t419 t424 t430 t433 _ ?side1 ?side2 A17.out).mono ?_); (case side1 => repeat (first | exact (Kd.R_reads' HO421.out).2.2 | (with_reducible refine Kd.C_alloc ?_ _) | (with_reducible refine Kd.C_drewN ?_ _) | (with_reducible refine Kd.C_drew ?_))); (case side2 => exact (Kd.R_reads' HO421.out).2.1); rintro e w27 ⟨v431, rfl, ho0, hb⟩; refine ⟨_, rfl, ?_⟩; have n0_ := Aside0.mk (Kd.R_elder' Z20 (Kd.R_base ho0) hb); have n1_ := Aside0.mk (Kd.R_lower (Kd.R_new' ho0 (Kd.R_lt Z20)) (below_size Z141)); have n2_ := Aside0.mk (IsS76.below Z127 hb); have n3_ := Aside0.mk (blk_below (g := gb423) (o := .cells #[.slice Ao21 t419.length co21] 61 (0, 0)) Z57 hb); have n4_ := Aside0.mk (below_step Z141 hb); clear HO421; clear HI418; clear BK423; clear HB; have HO421 := n0_; have HO432 := n1_; have HI418 := n2_; have BK423 := n3_; have HB := n4_; clear n0_ n1_ n2_ n3_ n4_; (try clear hb); (try clear ho0)) | ((with_reducible refine gate_dst (N := 7) rfl ?_); refine box_event ?hg (N := 7) ?hd (cs := #[.slice none 0 0]) (t := 61) ?hr ?_; (case hd => rfl); (case hg => rfl); (case hr => first | (go_simp; done) | (go_simp; rfl)); intro gb434 hg w28 hbox hb; have n0_ := Aside0.mk (Kd.R_below Z20 hb); have n1_ := Aside0.mk (Kd.R_below (by (with_reducible repeat (first | apply Kd.R_alloc | apply Kd.R_drewN | apply Kd.R_drew)); exact HO432.out) hb); have n2_ := Aside0.mk (IsS76.below Z127 hb); have n3_ := Aside0.mk (blk_below (g := gb423) (o := .cells #[.slice Ao21 t419.length co21] 61 (0, 0)) Z57 hb); have n4_ := Aside0.mk (below_step Z141 hb); have n5_ := Aside0.mk (hbox); have n6_ := Aside0.mk ((by rw [hg]; exact (below_size Z141) : w.heap.size ≤ gb434)); have n7_ := Aside0.mk ((by rw [hg]; exact (below_size Z141) : w.heap.size ≤ gb434)); have n8_ := Aside0.mk ((by rw [hg]; exact Nat.ne_of_lt (blk_lt (g := gb423) (o := .cells #[.slice Ao21 t419.length co21] 61 (0, 0)) Z57) : gb423 ≠ gb434)); have n9_ := Aside0.mk ((by rw [hg]; exact Nat.ne_of_gt (blk_lt (g := gb423) (o := .cells #[.slice Ao21 t419.length co21] 61 (0, 0)) Z57) : gb434 ≠ gb423)); have n10_ := Aside0.mk ((by rw [hg]; exact Nat.ne_of_lt (IsS76.lt (show IsS76 w _ g418 t416 t427 from by repeat (first | (with_reducible first | exact HI418.out | apply IsS76.alloc | apply IsS76.drewN | apply IsS76.drew | apply IsS76.set_1 | refine IsS76.far ?_ NB418_423.out _) | exact HI418.out))) : g418 ≠ gb434)); have n11_ := Aside0.mk ((by rw [hg]; exact Nat.ne_of_gt (IsS76.lt (show IsS76 w _ g418 t416 t427 from by repeat (first | (with_reducible first | exact HI418.out | apply IsS76.alloc | apply IsS76.drewN | apply IsS76.drew | apply IsS76.set_1 | refine IsS76.far ?_ NB418_423.out _) | exact HI418.out))) : gb434 ≠ g418)); clear HO421; clear HO432; clear HI418; clear BK423; clear HB; have HO421 := n0_; have HO432 := n1_; have HI418 := n2_; have BK423 := n3_; have HB := n4_; have BK434 := n5_; have GW434 := n6_; have GE434 := n7_; have NB423_434 := n8_; have NB434_423 := n9_; have NB418_434 := n10_; have NB434_418 := n11_; clear n0_ n1_ n2_ n3_ n4_ n5_ n6_ n7_ n8_ n9_ n10_ n11_; clear hb hbox hg; obtain ⟨Ao29, co29, eo29⟩ := Kd.R_slice HO432.out; subst eo29; have hnb30 := NB434_423.out; have hnc30 := NB423_434.out; have hnb31 := NB434_418.out; have hnc31 := NB418_434.out; have hcz32_0 : w28.cell? ⟨gb434, 0, none⟩ = some (.slice none 0 0) := (blk_cell BK434.out 0).trans rfl; have hfz32_0 := blk_frozen BK434.out 0))
  go_ret2
  exact ⟨by first | rfl | (simp [errW_none, errW_some] <;> rfl) | (simp [*, errW_none, errW_some] <;> rfl), by repeat (first | (with_reducible first | exact HB.out | apply below_alloc | apply pw_below_drewN | apply below_drew1 | refine below_set ?_ (IsS76.ge HI418.out) | refine below_set ?_ GE423.out | refine below_set ?_ GE434.out) | exact HB.out)⟩

end Go.Proofs.Ytmahgffkkdggcaa.QFnPosPairs
