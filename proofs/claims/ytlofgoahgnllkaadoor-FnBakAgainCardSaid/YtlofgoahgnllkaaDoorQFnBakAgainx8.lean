-- Laid by a program of this repo (wip/tools/sprint.py): print.py's functions and walks; the contracts named 'BY HAND' are proved by hand.
import Derived.Test.YtlofgoahgnllkaaDoorQFnBakAgainx6
import Derived.Test.YtlofgoahgnllkaaDoorQFnBakAgainx5
import Derived.Test.YtlofgoahgnllkaaDoorQFnBakAgainx3
import Derived.Test.YtlofgoahgnllkaaDoorQFnBakAgainx2
import Derived.Test.YtlofgoahgnllkaaDoorQFnBakAgainx1
import Derived.Test.YtlofgoahgnllkaaDoorQFnBakAgainx0
import Derived.Test.YtlofgoahgnllkaaDoorQFnBakAgainx4
import Derived.Test.YtlofgoahgnllkaaDoorQFnBakAgainx7
namespace Go.Proofs.YtlofgoahgnllkaaDoor.QFnBakAgain
open Go.RowKit Go.Proofs.YtlofgoahgnllkaaDoorW.PrintWords Go.Proofs.YtlofgoahgnllkaaDoorW.PrintLast Go.Proofs.YtlofgoahgnllkaaDoorW.PrintMore
attribute [local go_sem] max2_int min2_int max_two min_two max_three min_three max_four min_four   -- for this text's walks alone
set_option linter.unusedVariables false
set_option linter.unusedSimpArgs false

/-! ### impl_MapOk: function 51 -/
def impl_MapOk.l0 : Nat → List (S43) → Int → Int → List (S43) → Option (Bool)
 | 0, _, _, _, _ => none
 | k + 1, x6, x7, x8, x191000 => if x8 < x7 then (if 0 ≤ x8 then (if x8 < (x6.length : Int) then ((impl_EndInside.f ((rd_T43 x6 x8).f0) ((rd_T43 x6 x8).f1)).bind fun t193 => (if t193 = true then (if x8 ≤ (x191000.length : Int) then ((impl_EndPoint_76.f k (x191000.take (x8 : Int).toNat) ((rd_T43 x6 x8).f0) ((rd_T43 x6 x8).f1)).bind fun t198 => (if t198 = true then (some false) else (impl_MapOk.l0 k x6 x7 (wrap64 (x8 + 1)) x191000))) else (none)) else (some false))) else (none)) else (none)) else (some (decide ((x191000.length : Int) ≤ 6)))
def impl_MapOk.f (k : Nat) (l0_0 : List (S43)) : Option (Bool) := impl_MapOk.l0 k l0_0 (l0_0.length : Int) 0 l0_0
theorem impl_MapOk.mono_l : ∀ k, (∀ y0 y1 y2 y3, LeO (impl_MapOk.l0 k y0 y1 y2 y3) (impl_MapOk.l0 (k + 1) y0 y1 y2 y3))
 | 0 => fun _ _ _ _ r h => by simp [impl_MapOk.l0] at h
 | k + 1 => by
  have ih0 := impl_MapOk.mono_l k
  ·intro y0 y1 y2 y3
   unfold impl_MapOk.l0
   repeat' first
   | (with_reducible exact ih0 _ _ _ _)
   | (with_reducible exact impl_EndPoint_76.mono _ _ _ _)
   | (with_reducible exact LeO.refl _)
   | (with_reducible exact LeO.none _)
   | (with_reducible refine LeO.ite ?_ ?_)
   | (with_reducible refine LeO.bind ?_ (fun _ => ?_))
   | exact ih0 _ _ _ _
   | exact impl_EndPoint_76.mono _ _ _ _
   | exact LeO.none _
   | refine LeO.ite ?_ ?_
   | refine LeO.bind ?_ (fun _ => ?_)
theorem impl_MapOk.mono : ∀ a0 k, LeO (impl_MapOk.f k a0) (impl_MapOk.f (k + 1) a0) := by
 intro a0 k
 have ih0 := impl_MapOk.mono_l k
 unfold impl_MapOk.f
 repeat' first
   | (with_reducible exact ih0 _ _ _ _)
   | (with_reducible exact impl_EndPoint_76.mono _ _ _ _)
   | (with_reducible exact LeO.refl _)
   | (with_reducible exact LeO.none _)
   | (with_reducible refine LeO.ite ?_ ?_)
   | (with_reducible refine LeO.bind ?_ (fun _ => ?_))
   | exact ih0 _ _ _ _
   | exact impl_EndPoint_76.mono _ _ _ _
   | exact LeO.none _
   | refine LeO.ite ?_ ?_
   | refine LeO.bind ?_ (fun _ => ?_)
def impl_MapOk.T4 : Bool × List (List Nat × List Nat) := (true, [([], []), ([0], [0]), ([1], [1]), ([2, 1], [2]), ([3], [3]), ([4, 3], [3, 4]), ([3], [3]), ([5, 6, 3], [3, 5, 6]), ([3], [3]), ([7, 8, 3, 3], [3, 7, 8]), ([3, 9], [3, 9])])
def impl_MapOk.B4 : List Nat := [0, 1, 3, 7, 15, 31, 15, 127, 15, 511, 1023]
theorem impl_MapOk.tab4 : rtab .any (opsOf Tryd.f51 4) = impl_MapOk.T4 := by kernel_rfl
theorem impl_MapOk.bits4 : waitsOk impl_MapOk.T4.2 impl_MapOk.B4 = true := by kernel_rfl
set_option maxHeartbeats 8000000 in
set_option maxRecDepth 100000 in
theorem impl_MapOk.calls (k : Nat) (A0_0 : Option Addr) (c0_0 : Nat) (l0_0 : List (S43)) (r : Bool) (w : World) (hr0_0 : Kd.C k43 w A0_0 l0_0.length l0_0) (hc0_0 : l0_0.length ≤ c0_0) (h : impl_MapOk.f k l0_0 = some r) :
  Calls Tryd.prog 51 #[.agg #[.slice A0_0 l0_0.length c0_0]] w fun e w' => e = .returned (.bool r) ∧ Below w.heap.size w w' := by
 have hu29 := Tryd.underlying29
 have hu43 := Tryd.underlying43
 have HR0_0 := Aside0.mk hr0_0
 have HC0_0 := Aside0.mk hc0_0
 clear hr0_0 hc0_0
 have HB := Aside0.mk (Below.refl w.heap.size w)
 have H : (impl_MapOk.l0 k l0_0 (l0_0.length : Int) 0 l0_0) = some r := h
 clear h
 have H' := Aside0.mk H
 clear H
 go_enter Tryd.func51, Tryd.ntmps51
 go_wp2_with (first | ((with_reducible refine gate_dst (N := 1) rfl ?_); refine box_event ?hg (N := 1) ?hd (cs := #[.slice A0_0 l0_0.length c0_0]) (t := 29) ?hr ?_; (case hd => rfl); (case hg => rfl); (case hr => first | (go_simp; done) | (go_simp; rfl)); intro gb190 hg w2 hbox hb; have n0_ := Aside0.mk (below_step Z52 hb); have n1_ := Aside0.mk (hbox); have n2_ := Aside0.mk ((Z161 : w.heap.size ≤ gb190)); have n3_ := Aside0.mk ((Z161 : w.heap.size ≤ gb190)); clear HB; have HB := n0_; have BK190 := n1_; have GW190 := n2_; have GE190 := n3_; clear n0_ n1_ n2_ n3_; clear hb hbox hg; have hcz3_0 : w2.cell? ⟨gb190, 0, none⟩ = some (.slice A0_0 l0_0.length c0_0) := (blk_cell BK190.out 0).trans rfl; have hfz3_0 := blk_frozen BK190.out 0))
 go_loopg [8] k (fun kq v8 w' => ∃ (x8_1 : Int), v8 = .int .i64 x8_1 ∧ Aside0 (impl_MapOk.l0 kq l0_0 (l0_0.length : Int) x8_1 l0_0 = some r) ∧ Aside0 (kq ≤ k) ∧ Aside0 (w'.heap[gb190]? = some (.cells #[(.slice A0_0 l0_0.length c0_0)] 29 (0, 0))) ∧ Aside0 (Below w.heap.size w w'))
 case atStart => exact ⟨(0), Z0, H', ⟨Nat.le_refl _⟩, ⟨by (with_reducible repeat (first | refine blk_drewN ?_ _ | refine blk_drew ?_ | refine blk_alloc ?_ _)); exact BK190.out⟩, ⟨by repeat (first | (with_reducible first | exact HB.out | apply below_alloc | apply pw_below_drewN | apply below_drew1 | refine below_set ?_ GE190.out) | exact HB.out)⟩⟩
 case round =>
  clear H'
  try clear p2
  try clear hcz3_0
  try clear hfz3_0
  obtain ⟨x8_1, rfl, HA, HK1, BK190, HB⟩ := hrel
  cases gk with
  | zero => exact absurd HA.out (by simp [impl_MapOk.l0])
  | succ k1 =>
   have H := HA.out
   clear HA
   simp only [impl_MapOk.l0] at H
   by_cases c4 : x8_1 < (l0_0.length : Int)
   ·rw [if_pos c4] at H
    have c4b0 : decide (x8_1 < (l0_0.length : Int)) = true := decide_eq_true c4
    clear c4
    by_cases c5 : 0 ≤ x8_1
    ·rw [if_pos c5] at H
     have c5b0 : decide (0 ≤ x8_1) = true := decide_eq_true c5
     clear c5
     by_cases c6 : x8_1 < (l0_0.length : Int)
     ·rw [if_pos c6] at H
      have c6b0 : decide (x8_1 < (l0_0.length : Int)) = true := decide_eq_true c6
      clear c6
      replace H := Option.bind_eq_some_iff.mp H
      obtain ⟨t193, A70, H⟩ := H
      replace H : (if t193 = true then (if x8_1 ≤ (l0_0.length : Int) then ((impl_EndPoint_76.f k1 (l0_0.take (x8_1 : Int).toNat) ((rd_T43 l0_0 x8_1).f0) ((rd_T43 l0_0 x8_1).f1)).bind fun t198 => (if t198 = true then (some false) else (impl_MapOk.l0 k1 l0_0 (l0_0.length : Int) (wrap64 (x8_1 + 1)) l0_0))) else (none)) else (some false)) = some r := H
      have A7 := Aside0.mk A70
      clear A70
      by_cases c8 : t193 = true
      ·subst c8
       have H1 : (if x8_1 ≤ (l0_0.length : Int) then ((impl_EndPoint_76.f k1 (l0_0.take (x8_1 : Int).toNat) ((rd_T43 l0_0 x8_1).f0) ((rd_T43 l0_0 x8_1).f1)).bind fun t198 => (if t198 = true then (some false) else (impl_MapOk.l0 k1 l0_0 (l0_0.length : Int) (wrap64 (x8_1 + 1)) l0_0))) else (none)) = some r := by rw [if_pos rfl] at H; exact H
       clear H
       have H := H1
       clear H1
       have c9b0 := eq_true (of_decide_eq_true Z1 : 0 ≤ x8_1)
       by_cases c10 : x8_1 ≤ (l0_0.length : Int)
       ·rw [if_pos c10] at H
        have c10b0 := eq_true c10
        have c10b1 : decide (x8_1 ≤ (l0_0.length : Int)) = true := decide_eq_true c10
        clear c10
        obtain ⟨y194, hy194⟩ : ∃ y_ : List (S43), y_ = (l0_0.take (x8_1 : Int).toNat) := ⟨_, rfl⟩
        replace H : ((impl_EndPoint_76.f k1 y194 ((rd_T43 l0_0 x8_1).f0) ((rd_T43 l0_0 x8_1).f1)).bind fun t198 => (if t198 = true then (some false) else (impl_MapOk.l0 k1 l0_0 (l0_0.length : Int) (wrap64 (x8_1 + 1)) l0_0))) = some r := by first | (rw [hy194]; with_reducible exact H) | (have H2_ := (Option.bind_some _ _).symm.trans H; rw [hy194]; with_reducible exact H2_) | (have H2_ := (Option.bind_some _ _).symm.trans H; with_reducible exact H2_) | with_reducible exact H | (rw [hy194]; exact H) | exact H
        have Ny194 := Aside0.mk hy194
        clear hy194
        replace H := Option.bind_eq_some_iff.mp H
        obtain ⟨t198, A110, H⟩ := H
        replace H : (if t198 = true then (some false) else (impl_MapOk.l0 k1 l0_0 (l0_0.length : Int) (wrap64 (x8_1 + 1)) l0_0)) = some r := H
        have A11 := Aside0.mk A110
        clear A110
        by_cases c12 : t198 = true
        ·subst c12
         have H1 : (some false) = some r := by rw [if_pos rfl] at H; exact H
         clear H
         have H := H1
         clear H1
         obtain rfl := Option.some.inj H
         have p191 : 0 ≤ (x8_1 : Int) := of_decide_eq_true Z1
         have q191 : x8_1 < (l0_0.length : Int) := of_decide_eq_true Z1
         obtain ⟨ad191, e191, hx191_0, hx191_1⟩ := at_T43 HR0_0.out x8_1 p191 q191
         cases e191
         replace hx191_0 := (HB.out.cell (World.block_lt_of_cell? w _ hx191_0)).trans hx191_0
         replace hx191_1 := (HB.out.cell (World.block_lt_of_cell? w _ hx191_1)).trans hx191_1
         replace p191 := eq_true p191
         replace q191 := eq_true q191
         try go_wp2_with (first | ((with_reducible refine gate_dst (N := 4) rfl ?_); refine box_event ?hg (N := 4) ?hd (cs := #[.int .i64 0, .int .i64 0]) (t := 43) ?hr ?_; (case hd => rfl); (case hg => rfl); (case hr => first | (go_simp; done) | (go_simp; rfl)); intro gb192 hg w13 hbox hb; have n0_ := Aside0.mk (blk_below (g := gb190) (o := .cells #[.slice (some ad191) l0_0.length c0_0] 29 (0, 0)) Z27 hb); have n1_ := Aside0.mk (below_step Z71 hb); have n2_ := Aside0.mk (hbox); have n3_ := Aside0.mk ((Z164 : w.heap.size ≤ gb192)); have n4_ := Aside0.mk ((Z164 : w.heap.size ≤ gb192)); have n5_ := Aside0.mk ((Z193 : gb190 ≠ gb192)); have n6_ := Aside0.mk ((Z194 : gb192 ≠ gb190)); clear BK190; clear HB; have BK190 := n0_; have HB := n1_; have BK192 := n2_; have GW192 := n3_; have GE192 := n4_; have NB190_192 := n5_; have NB192_190 := n6_; clear n0_ n1_ n2_ n3_ n4_ n5_ n6_; clear hb hbox hg; have hnb14 := NB192_190.out; have hnc14 := NB190_192.out; have hcz15_0 : w13.cell? ⟨gb192, 0, none⟩ = some (.int .i64 0) := (blk_cell BK192.out 0).trans rfl; have hcz15_1 : w13.cell? ⟨gb192, 1, none⟩ = some (.int .i64 0) := (blk_cell BK192.out 1).trans rfl; have hfz15_0 := blk_frozen BK192.out 0; have hfz15_1 := blk_frozen BK192.out 1))
         have n0_ : Aside0 (((w13.setCell ⟨gb192, 0, none⟩ (.int .i64 ((rd_T43 l0_0 x8_1).f0))).setCell ⟨gb192, 1, none⟩ (.int .i64 ((rd_T43 l0_0 x8_1).f1))).heap[gb190]? = some (.cells #[.slice (some ad191) l0_0.length c0_0] 29 (0, 0))) := ⟨by (with_reducible repeat (first | refine blk_drewN ?_ _ | refine blk_drew ?_ | refine blk_alloc ?_ _)); refine blk_far ?_ NB190_192.out _; (with_reducible repeat (first | refine blk_drewN ?_ _ | refine blk_drew ?_ | refine blk_alloc ?_ _)); refine blk_far ?_ NB190_192.out _; (with_reducible repeat (first | refine blk_drewN ?_ _ | refine blk_drew ?_ | refine blk_alloc ?_ _)); exact BK190.out⟩
         have n1_ : Aside0 (((w13.setCell ⟨gb192, 0, none⟩ (.int .i64 ((rd_T43 l0_0 x8_1).f0))).setCell ⟨gb192, 1, none⟩ (.int .i64 ((rd_T43 l0_0 x8_1).f1))).heap[gb192]? = some (.cells #[.int .i64 ((rd_T43 l0_0 x8_1).f0), .int .i64 ((rd_T43 l0_0 x8_1).f1)] 43 (0, 0))) := ⟨by (with_reducible repeat (first | refine blk_drewN ?_ _ | refine blk_drew ?_ | refine blk_alloc ?_ _)); refine blk_put (cs := #[.int .i64 ((rd_T43 l0_0 x8_1).f0), .int .i64 0]) ?_ 1 _ rfl; (with_reducible repeat (first | refine blk_drewN ?_ _ | refine blk_drew ?_ | refine blk_alloc ?_ _)); refine blk_put (cs := #[.int .i64 0, .int .i64 0]) ?_ 0 _ rfl; (with_reducible repeat (first | refine blk_drewN ?_ _ | refine blk_drew ?_ | refine blk_alloc ?_ _)); exact BK192.out⟩
         have n2_ : Aside0 (Below w.heap.size w ((w13.setCell ⟨gb192, 0, none⟩ (.int .i64 ((rd_T43 l0_0 x8_1).f0))).setCell ⟨gb192, 1, none⟩ (.int .i64 ((rd_T43 l0_0 x8_1).f1)))) := ⟨by repeat (first | (with_reducible first | exact HB.out | apply below_alloc | apply pw_below_drewN | apply below_drew1 | refine below_set ?_ GE190.out | refine below_set ?_ GE192.out) | exact HB.out)⟩
         (try clear BK190)
         (try clear BK192)
         (try clear HB)
         generalize ((w13.setCell ⟨gb192, 0, none⟩ (.int .i64 ((rd_T43 l0_0 x8_1).f0))).setCell ⟨gb192, 1, none⟩ (.int .i64 ((rd_T43 l0_0 x8_1).f1))) = w16 at n0_ n1_ n2_ ⊢
         have BK190 := n0_
         have BK192 := n1_
         have HB := n2_
         clear n0_ n1_ n2_
         have n0_ := Aside0.mk (blk_drew BK190.out)
         have n1_ := Aside0.mk (blk_drew BK192.out)
         have n2_ := Aside0.mk (below_drew1 HB.out)
         clear BK190
         clear BK192
         clear HB
         have BK190 := n0_
         have BK192 := n1_
         have HB := n2_
         clear n0_ n1_ n2_
         refine start_ (n := 11) (S := fun w' => w'.cell? ⟨gb192, 0, none⟩ = some (.int .i64 ((rd_T43 l0_0 x8_1).f0)) ∧ w'.cell? ⟨gb192, 1, none⟩ = some (.int .i64 ((rd_T43 l0_0 x8_1).f1)) ∧ w'.cell? ⟨gb190, 0, none⟩ = some (.slice (some ad191) l0_0.length c0_0)) (ds := []) #[false, false, false, false, false, false, false, false, false, false, false] (by kernel_rfl) rfl rfl ⟨(blk_cell BK192.out 0).trans rfl, (blk_cell BK192.out 1).trans rfl, (blk_cell BK190.out 0).trans rfl⟩ (fun hHeld => ?_); refine with_tabW impl_MapOk.tab4 impl_MapOk.bits4 (fun HT_ HW_ => ?_)
         generalize w16.drew = w17 at BK190 BK192 HB hHeld ⊢
         refine take_ (i := 0) (N := some 13) (v := ?_) (a' := ?_) #[true, false, false, false, false, false, false, false, false, false, false] rfl rfl (take_ofW HT_.out HW_.out (by kernel_rfl)) (fun _ _ _ h => h) (Or.inl ⟨by rfl, ?_⟩) hHeld ?_ ?_
         rotate_left
         ·rintro w' ⟨s0, s1, s2⟩
          go_simp
          with_reducible rfl
         rotate_left
         ·simp only [Act.put, List.setIfInBounds_toArray, List.set_cons_zero, List.set_cons_succ, i64_w, i32_w]
          rfl
         refine one_ (i := 1) (N := some 14) #[true, true, false, false, false, false, false, false, false, false, false] rfl rfl (one_of HT_.out (by kernel_rfl)) (by decide) (fun K hK => ?_)
         refine goes_ Tryd.func47 (by kernel_rfl) rfl #[.agg #[.int .i64 ((rd_T43 l0_0 x8_1).f0), .int .i64 ((rd_T43 l0_0 x8_1).f1)]] (by rfl) rfl rfl Z56 ?_
         with_reducible refine (impl_EndInside.calls ((rd_T43 l0_0 x8_1).f0) ((rd_T43 l0_0 x8_1).f1) true _ A7.out).mono ?_
         rintro e w18 ⟨rfl, hb⟩
         refine ⟨_, rfl, ?_⟩
         have n0_ := Aside0.mk (blk_below (g := gb190) (o := .cells #[.slice (some ad191) l0_0.length c0_0] 29 (0, 0)) Z27 hb)
         have n1_ := Aside0.mk (blk_below (g := gb192) (o := .cells #[.int .i64 ((rd_T43 l0_0 x8_1).f0), .int .i64 ((rd_T43 l0_0 x8_1).f1)] 43 (0, 0)) Z28 hb)
         have n2_ := Aside0.mk (below_step Z105 hb)
         clear BK190
         clear BK192
         clear HB
         have BK190 := n0_
         have BK192 := n1_
         have HB := n2_
         clear n0_ n1_ n2_
         (try clear hb)
         (try clear hb2)
         (try clear hk)
         (try clear hi)
         have q19 : (x8_1 : Int) ≤ ((l0_0.length : Int) : Int) := of_decide_eq_true Z1
         obtain ⟨i019, hi019, _, hsz19, _⟩ := info_parts info43
         have hroom19 : l0_0.length ≤ c0_0 := HC0_0.out
         have hC19 : Kd.C k43 _ (some ad191) l0_0.length l0_0 := HR0_0.out
         have hcut19 := cut_to (P := Tryd.prog) 27 43 .i64 Tryd.underlying27 hi019 (some ad191) l0_0.length c0_0 x8_1 (of_decide_eq_true Z1) q19 hroom19
         have hr19 := Kd.C_take (m := (x8_1 : Int).toNat) hC19 (by omega)
         have hy19 : y194.length = (x8_1 : Int).toNat := (by rw [Ny194.out, List.length_take]; omega)
         rw [← Ny194.out] at hr19
         rw [← hy19] at hcut19
         have HR197 := Aside0.mk hr19
         have HC197 := Aside0.mk (show y194.length ≤ c0_0 from by omega)
         clear hr19 hC19 hroom19 hi019 hsz19
         have KY19 := Aside0.mk hy19
         clear hy19
         replace q19 := eq_true q19
         refine hK.out _ _ ⟨(blk_cell BK192.out 0).trans rfl, (blk_cell BK192.out 1).trans rfl, (blk_cell BK190.out 0).trans rfl⟩ (fun hHeld => ?_)
         clear hK K
         refine norm_ (a' := ?_) ?_ ?_
         rotate_left
         ·show Act.put _ (some 14) _ = _
          simp only [Act.put, List.setIfInBounds_toArray, List.set_cons_zero, List.set_cons_succ, i64_w, i32_w]
          rfl
         refine pure_ (i := 2) (N := some 15) (v := ?_) (a' := ?_) #[true, true, true, false, false, false, false, false, false, false, false] rfl rfl (any_of HT_.out (by kernel_rfl)) (fun _ _ _ h => h) (Or.inl ⟨by rfl, ?_⟩) ?_ ?_
         rotate_left
         ·intro w'
          go_simp
          with_reducible rfl
         rotate_left
         ·simp only [Act.put, List.setIfInBounds_toArray, List.set_cons_zero, List.set_cons_succ, i64_w, i32_w]
          rfl
         refine pure_ (i := 3) (N := some 16) (v := ?_) (a' := ?_) #[true, true, true, true, false, false, false, false, false, false, false] rfl rfl (any_of HT_.out (by kernel_rfl)) (fun _ _ _ h => h) (Or.inl ⟨by rfl, ?_⟩) ?_ ?_
         rotate_left
         ·intro w'
          go_simp
          with_reducible rfl
         rotate_left
         ·simp only [Act.put, List.setIfInBounds_toArray, List.set_cons_zero, List.set_cons_succ, i64_w, i32_w]
          rfl
         refine pure_ (i := 4) (N := some 17) (v := ?_) (a' := ?_) #[true, true, true, true, true, false, false, false, false, false, false] rfl rfl (any_of HT_.out (by kernel_rfl)) (fun _ _ _ h => h) (Or.inl ⟨by rfl, ?_⟩) ?_ ?_
         rotate_left
         ·intro w'
          go_simp
          with_reducible rfl
         rotate_left
         ·simp only [Act.put, List.setIfInBounds_toArray, List.set_cons_zero, List.set_cons_succ, i64_w, i32_w]
          rfl
         refine pure_ (i := 6) (N := some 19) (v := ?_) (a' := ?_) #[true, true, true, true, true, false, true, false, false, false, false] rfl rfl (any_of HT_.out (by kernel_rfl)) (fun _ _ _ h => h) (Or.inl ⟨by rfl, ?_⟩) ?_ ?_
         rotate_left
         ·intro w'
          go_simp
          with_reducible rfl
         rotate_left
         ·simp only [Act.put, List.setIfInBounds_toArray, List.set_cons_zero, List.set_cons_succ, i64_w, i32_w]
          rfl
         refine take_ (i := 5) (N := some 18) (v := ?_) (a' := ?_) #[true, true, true, true, true, true, true, false, false, false, false] rfl rfl (take_ofW HT_.out HW_.out (by kernel_rfl)) (fun _ _ _ h => h) (Or.inl ⟨by rfl, ?_⟩) hHeld ?_ ?_
         rotate_left
         ·rintro w' ⟨s0, s1, s2⟩
          go_simp
          with_reducible rfl
         rotate_left
         ·simp only [Act.put, List.setIfInBounds_toArray, List.set_cons_zero, List.set_cons_succ, i64_w, i32_w]
          rfl
         refine pure_ (i := 7) (N := some 20) (v := ?_) (a' := ?_) #[true, true, true, true, true, true, true, true, false, false, false] rfl rfl (any_of HT_.out (by kernel_rfl)) (fun _ _ _ h => h) (Or.inl ⟨by rfl, ?_⟩) ?_ ?_
         rotate_left
         ·intro w'
          go_simp
          with_reducible rfl
         rotate_left
         ·simp only [Act.put, List.setIfInBounds_toArray, List.set_cons_zero, List.set_cons_succ, i64_w, i32_w]
          rfl
         refine take_ (i := 8) (N := some 21) (v := ?_) (a' := ?_) #[true, true, true, true, true, true, true, true, true, false, false] rfl rfl (take_ofW HT_.out HW_.out (by kernel_rfl)) (fun _ _ _ h => h) (Or.inl ⟨by rfl, ?_⟩) hHeld ?_ ?_
         rotate_left
         ·rintro w' ⟨s0, s1, s2⟩
          go_simp
          with_reducible rfl
         rotate_left
         ·simp only [Act.put, List.setIfInBounds_toArray, List.set_cons_zero, List.set_cons_succ, i64_w, i32_w]
          rfl
         refine one_ (i := 9) (N := some 22) #[true, true, true, true, true, true, true, true, true, true, false] rfl rfl (one_of HT_.out (by kernel_rfl)) (by decide) (fun K hK => ?_)
         refine goes_ Tryd.func76 (by kernel_rfl) rfl #[.slice (some ad191) y194.length c0_0, .agg #[.int .i64 ((rd_T43 l0_0 x8_1).f0), .int .i64 ((rd_T43 l0_0 x8_1).f1)]] (by rfl) rfl rfl Z56 ?_
         with_reducible refine (impl_EndPoint_76.calls k1 _ _ y194 ((rd_T43 l0_0 x8_1).f0) ((rd_T43 l0_0 x8_1).f1) true _ ?side1 ?side2 A11.out).mono ?_
         (case side1 => exact Z90)
         (case side2 => exact HC197.out)
         rintro e w20 ⟨rfl, hb⟩
         refine ⟨_, rfl, ?_⟩
         have n0_ := Aside0.mk (blk_below (g := gb190) (o := .cells #[.slice (some ad191) l0_0.length c0_0] 29 (0, 0)) Z27 hb)
         have n1_ := Aside0.mk (blk_below (g := gb192) (o := .cells #[.int .i64 ((rd_T43 l0_0 x8_1).f0), .int .i64 ((rd_T43 l0_0 x8_1).f1)] 43 (0, 0)) Z28 hb)
         have n2_ := Aside0.mk (below_step Z105 hb)
         clear BK190
         clear BK192
         clear HB
         have BK190 := n0_
         have BK192 := n1_
         have HB := n2_
         clear n0_ n1_ n2_
         (try clear hb)
         (try clear hb2)
         (try clear hk)
         (try clear hi)
         refine hK.out _ _ ⟨(blk_cell BK192.out 0).trans rfl, (blk_cell BK192.out 1).trans rfl, (blk_cell BK190.out 0).trans rfl⟩ (fun hHeld => ?_)
         clear hK K
         refine norm_ (a' := ?_) ?_ ?_
         rotate_left
         ·show Act.put _ (some 22) _ = _
          simp only [Act.put, List.setIfInBounds_toArray, List.set_cons_zero, List.set_cons_succ, i64_w, i32_w]
          rfl
         refine pure_ (i := 10) (N := some 23) (v := ?_) (a' := ?_) #[true, true, true, true, true, true, true, true, true, true, true] rfl rfl (any_of HT_.out (by kernel_rfl)) (fun _ _ _ h => h) (Or.inl ⟨by rfl, ?_⟩) ?_ ?_
         rotate_left
         ·intro w'
          go_simp
          with_reducible rfl
         rotate_left
         ·simp only [Act.put, List.setIfInBounds_toArray, List.set_cons_zero, List.set_cons_succ, i64_w, i32_w]
          rfl
         refine done_ (done_of HT_.out (by kernel_rfl)) ?_
         try go_wp2
         go_ret
         exact ⟨by first | rfl | (simp [errW_none, errW_some] <;> rfl) | (simp [*, errW_none, errW_some] <;> rfl), by repeat (first | (with_reducible first | exact HB.out | apply below_alloc | apply pw_below_drewN | apply below_drew1 | refine below_set ?_ GE190.out | refine below_set ?_ GE192.out) | exact HB.out)⟩
        ·replace c12 := Bool.eq_false_iff.mpr c12
         subst c12
         have H1 : (impl_MapOk.l0 k1 l0_0 (l0_0.length : Int) (wrap64 (x8_1 + 1)) l0_0) = some r := by rw [if_neg (show ¬ (false = true) by decide)] at H; exact H
         clear H
         have H := H1
         clear H1
         have H' := Aside0.mk H
         clear H
         have p191 : 0 ≤ (x8_1 : Int) := of_decide_eq_true Z1
         have q191 : x8_1 < (l0_0.length : Int) := of_decide_eq_true Z1
         obtain ⟨ad191, e191, hx191_0, hx191_1⟩ := at_T43 HR0_0.out x8_1 p191 q191
         cases e191
         replace hx191_0 := (HB.out.cell (World.block_lt_of_cell? w _ hx191_0)).trans hx191_0
         replace hx191_1 := (HB.out.cell (World.block_lt_of_cell? w _ hx191_1)).trans hx191_1
         replace p191 := eq_true p191
         replace q191 := eq_true q191
         try go_wp2_with (first | ((with_reducible refine gate_dst (N := 4) rfl ?_); refine box_event ?hg (N := 4) ?hd (cs := #[.int .i64 0, .int .i64 0]) (t := 43) ?hr ?_; (case hd => rfl); (case hg => rfl); (case hr => first | (go_simp; done) | (go_simp; rfl)); intro gb192 hg w21 hbox hb; have n0_ := Aside0.mk (blk_below (g := gb190) (o := .cells #[.slice (some ad191) l0_0.length c0_0] 29 (0, 0)) Z27 hb); have n1_ := Aside0.mk (below_step Z71 hb); have n2_ := Aside0.mk (hbox); have n3_ := Aside0.mk ((Z164 : w.heap.size ≤ gb192)); have n4_ := Aside0.mk ((Z164 : w.heap.size ≤ gb192)); have n5_ := Aside0.mk ((Z193 : gb190 ≠ gb192)); have n6_ := Aside0.mk ((Z194 : gb192 ≠ gb190)); clear BK190; clear HB; have BK190 := n0_; have HB := n1_; have BK192 := n2_; have GW192 := n3_; have GE192 := n4_; have NB190_192 := n5_; have NB192_190 := n6_; clear n0_ n1_ n2_ n3_ n4_ n5_ n6_; clear hb hbox hg; have hnb22 := NB192_190.out; have hnc22 := NB190_192.out; have hcz23_0 : w21.cell? ⟨gb192, 0, none⟩ = some (.int .i64 0) := (blk_cell BK192.out 0).trans rfl; have hcz23_1 : w21.cell? ⟨gb192, 1, none⟩ = some (.int .i64 0) := (blk_cell BK192.out 1).trans rfl; have hfz23_0 := blk_frozen BK192.out 0; have hfz23_1 := blk_frozen BK192.out 1))
         have n0_ : Aside0 (((w21.setCell ⟨gb192, 0, none⟩ (.int .i64 ((rd_T43 l0_0 x8_1).f0))).setCell ⟨gb192, 1, none⟩ (.int .i64 ((rd_T43 l0_0 x8_1).f1))).heap[gb190]? = some (.cells #[.slice (some ad191) l0_0.length c0_0] 29 (0, 0))) := ⟨by (with_reducible repeat (first | refine blk_drewN ?_ _ | refine blk_drew ?_ | refine blk_alloc ?_ _)); refine blk_far ?_ NB190_192.out _; (with_reducible repeat (first | refine blk_drewN ?_ _ | refine blk_drew ?_ | refine blk_alloc ?_ _)); refine blk_far ?_ NB190_192.out _; (with_reducible repeat (first | refine blk_drewN ?_ _ | refine blk_drew ?_ | refine blk_alloc ?_ _)); exact BK190.out⟩
         have n1_ : Aside0 (((w21.setCell ⟨gb192, 0, none⟩ (.int .i64 ((rd_T43 l0_0 x8_1).f0))).setCell ⟨gb192, 1, none⟩ (.int .i64 ((rd_T43 l0_0 x8_1).f1))).heap[gb192]? = some (.cells #[.int .i64 ((rd_T43 l0_0 x8_1).f0), .int .i64 ((rd_T43 l0_0 x8_1).f1)] 43 (0, 0))) := ⟨by (with_reducible repeat (first | refine blk_drewN ?_ _ | refine blk_drew ?_ | refine blk_alloc ?_ _)); refine blk_put (cs := #[.int .i64 ((rd_T43 l0_0 x8_1).f0), .int .i64 0]) ?_ 1 _ rfl; (with_reducible repeat (first | refine blk_drewN ?_ _ | refine blk_drew ?_ | refine blk_alloc ?_ _)); refine blk_put (cs := #[.int .i64 0, .int .i64 0]) ?_ 0 _ rfl; (with_reducible repeat (first | refine blk_drewN ?_ _ | refine blk_drew ?_ | refine blk_alloc ?_ _)); exact BK192.out⟩
         have n2_ : Aside0 (Below w.heap.size w ((w21.setCell ⟨gb192, 0, none⟩ (.int .i64 ((rd_T43 l0_0 x8_1).f0))).setCell ⟨gb192, 1, none⟩ (.int .i64 ((rd_T43 l0_0 x8_1).f1)))) := ⟨by repeat (first | (with_reducible first | exact HB.out | apply below_alloc | apply pw_below_drewN | apply below_drew1 | refine below_set ?_ GE190.out | refine below_set ?_ GE192.out) | exact HB.out)⟩
         (try clear BK190)
         (try clear BK192)
         (try clear HB)
         generalize ((w21.setCell ⟨gb192, 0, none⟩ (.int .i64 ((rd_T43 l0_0 x8_1).f0))).setCell ⟨gb192, 1, none⟩ (.int .i64 ((rd_T43 l0_0 x8_1).f1))) = w24 at n0_ n1_ n2_ ⊢
         have BK190 := n0_
         have BK192 := n1_
         have HB := n2_
         clear n0_ n1_ n2_
         have n0_ := Aside0.mk (blk_drew BK190.out)
         have n1_ := Aside0.mk (blk_drew BK192.out)
         have n2_ := Aside0.mk (below_drew1 HB.out)
         clear BK190
         clear BK192
         clear HB
         have BK190 := n0_
         have BK192 := n1_
         have HB := n2_
         clear n0_ n1_ n2_
         refine start_ (n := 11) (S := fun w' => w'.cell? ⟨gb192, 0, none⟩ = some (.int .i64 ((rd_T43 l0_0 x8_1).f0)) ∧ w'.cell? ⟨gb192, 1, none⟩ = some (.int .i64 ((rd_T43 l0_0 x8_1).f1)) ∧ w'.cell? ⟨gb190, 0, none⟩ = some (.slice (some ad191) l0_0.length c0_0)) (ds := []) #[false, false, false, false, false, false, false, false, false, false, false] (by kernel_rfl) rfl rfl ⟨(blk_cell BK192.out 0).trans rfl, (blk_cell BK192.out 1).trans rfl, (blk_cell BK190.out 0).trans rfl⟩ (fun hHeld => ?_); refine with_tabW impl_MapOk.tab4 impl_MapOk.bits4 (fun HT_ HW_ => ?_)
         generalize w24.drew = w25 at BK190 BK192 HB hHeld ⊢
         refine take_ (i := 0) (N := some 13) (v := ?_) (a' := ?_) #[true, false, false, false, false, false, false, false, false, false, false] rfl rfl (take_ofW HT_.out HW_.out (by kernel_rfl)) (fun _ _ _ h => h) (Or.inl ⟨by rfl, ?_⟩) hHeld ?_ ?_
         rotate_left
         ·rintro w' ⟨s0, s1, s2⟩
          go_simp
          with_reducible rfl
         rotate_left
         ·simp only [Act.put, List.setIfInBounds_toArray, List.set_cons_zero, List.set_cons_succ, i64_w, i32_w]
          rfl
         refine one_ (i := 1) (N := some 14) #[true, true, false, false, false, false, false, false, false, false, false] rfl rfl (one_of HT_.out (by kernel_rfl)) (by decide) (fun K hK => ?_)
         refine goes_ Tryd.func47 (by kernel_rfl) rfl #[.agg #[.int .i64 ((rd_T43 l0_0 x8_1).f0), .int .i64 ((rd_T43 l0_0 x8_1).f1)]] (by rfl) rfl rfl Z56 ?_
         with_reducible refine (impl_EndInside.calls ((rd_T43 l0_0 x8_1).f0) ((rd_T43 l0_0 x8_1).f1) true _ A7.out).mono ?_
         rintro e w26 ⟨rfl, hb⟩
         refine ⟨_, rfl, ?_⟩
         have n0_ := Aside0.mk (blk_below (g := gb190) (o := .cells #[.slice (some ad191) l0_0.length c0_0] 29 (0, 0)) Z27 hb)
         have n1_ := Aside0.mk (blk_below (g := gb192) (o := .cells #[.int .i64 ((rd_T43 l0_0 x8_1).f0), .int .i64 ((rd_T43 l0_0 x8_1).f1)] 43 (0, 0)) Z28 hb)
         have n2_ := Aside0.mk (below_step Z105 hb)
         clear BK190
         clear BK192
         clear HB
         have BK190 := n0_
         have BK192 := n1_
         have HB := n2_
         clear n0_ n1_ n2_
         (try clear hb)
         (try clear hb2)
         (try clear hk)
         (try clear hi)
         have q27 : (x8_1 : Int) ≤ ((l0_0.length : Int) : Int) := of_decide_eq_true Z1
         obtain ⟨i027, hi027, _, hsz27, _⟩ := info_parts info43
         have hroom27 : l0_0.length ≤ c0_0 := HC0_0.out
         have hC27 : Kd.C k43 _ (some ad191) l0_0.length l0_0 := HR0_0.out
         have hcut27 := cut_to (P := Tryd.prog) 27 43 .i64 Tryd.underlying27 hi027 (some ad191) l0_0.length c0_0 x8_1 (of_decide_eq_true Z1) q27 hroom27
         have hr27 := Kd.C_take (m := (x8_1 : Int).toNat) hC27 (by omega)
         have hy27 : y194.length = (x8_1 : Int).toNat := (by rw [Ny194.out, List.length_take]; omega)
         rw [← Ny194.out] at hr27
         rw [← hy27] at hcut27
         have HR197 := Aside0.mk hr27
         have HC197 := Aside0.mk (show y194.length ≤ c0_0 from by omega)
         clear hr27 hC27 hroom27 hi027 hsz27
         have KY27 := Aside0.mk hy27
         clear hy27
         replace q27 := eq_true q27
         refine hK.out _ _ ⟨(blk_cell BK192.out 0).trans rfl, (blk_cell BK192.out 1).trans rfl, (blk_cell BK190.out 0).trans rfl⟩ (fun hHeld => ?_)
         clear hK K
         refine norm_ (a' := ?_) ?_ ?_
         rotate_left
         ·show Act.put _ (some 14) _ = _
          simp only [Act.put, List.setIfInBounds_toArray, List.set_cons_zero, List.set_cons_succ, i64_w, i32_w]
          rfl
         refine pure_ (i := 2) (N := some 15) (v := ?_) (a' := ?_) #[true, true, true, false, false, false, false, false, false, false, false] rfl rfl (any_of HT_.out (by kernel_rfl)) (fun _ _ _ h => h) (Or.inl ⟨by rfl, ?_⟩) ?_ ?_
         rotate_left
         ·intro w'
          go_simp
          with_reducible rfl
         rotate_left
         ·simp only [Act.put, List.setIfInBounds_toArray, List.set_cons_zero, List.set_cons_succ, i64_w, i32_w]
          rfl
         refine pure_ (i := 3) (N := some 16) (v := ?_) (a' := ?_) #[true, true, true, true, false, false, false, false, false, false, false] rfl rfl (any_of HT_.out (by kernel_rfl)) (fun _ _ _ h => h) (Or.inl ⟨by rfl, ?_⟩) ?_ ?_
         rotate_left
         ·intro w'
          go_simp
          with_reducible rfl
         rotate_left
         ·simp only [Act.put, List.setIfInBounds_toArray, List.set_cons_zero, List.set_cons_succ, i64_w, i32_w]
          rfl
         refine pure_ (i := 4) (N := some 17) (v := ?_) (a' := ?_) #[true, true, true, true, true, false, false, false, false, false, false] rfl rfl (any_of HT_.out (by kernel_rfl)) (fun _ _ _ h => h) (Or.inl ⟨by rfl, ?_⟩) ?_ ?_
         rotate_left
         ·intro w'
          go_simp
          with_reducible rfl
         rotate_left
         ·simp only [Act.put, List.setIfInBounds_toArray, List.set_cons_zero, List.set_cons_succ, i64_w, i32_w]
          rfl
         refine pure_ (i := 6) (N := some 19) (v := ?_) (a' := ?_) #[true, true, true, true, true, false, true, false, false, false, false] rfl rfl (any_of HT_.out (by kernel_rfl)) (fun _ _ _ h => h) (Or.inl ⟨by rfl, ?_⟩) ?_ ?_
         rotate_left
         ·intro w'
          go_simp
          with_reducible rfl
         rotate_left
         ·simp only [Act.put, List.setIfInBounds_toArray, List.set_cons_zero, List.set_cons_succ, i64_w, i32_w]
          rfl
         refine take_ (i := 5) (N := some 18) (v := ?_) (a' := ?_) #[true, true, true, true, true, true, true, false, false, false, false] rfl rfl (take_ofW HT_.out HW_.out (by kernel_rfl)) (fun _ _ _ h => h) (Or.inl ⟨by rfl, ?_⟩) hHeld ?_ ?_
         rotate_left
         ·rintro w' ⟨s0, s1, s2⟩
          go_simp
          with_reducible rfl
         rotate_left
         ·simp only [Act.put, List.setIfInBounds_toArray, List.set_cons_zero, List.set_cons_succ, i64_w, i32_w]
          rfl
         refine pure_ (i := 7) (N := some 20) (v := ?_) (a' := ?_) #[true, true, true, true, true, true, true, true, false, false, false] rfl rfl (any_of HT_.out (by kernel_rfl)) (fun _ _ _ h => h) (Or.inl ⟨by rfl, ?_⟩) ?_ ?_
         rotate_left
         ·intro w'
          go_simp
          with_reducible rfl
         rotate_left
         ·simp only [Act.put, List.setIfInBounds_toArray, List.set_cons_zero, List.set_cons_succ, i64_w, i32_w]
          rfl
         refine take_ (i := 8) (N := some 21) (v := ?_) (a' := ?_) #[true, true, true, true, true, true, true, true, true, false, false] rfl rfl (take_ofW HT_.out HW_.out (by kernel_rfl)) (fun _ _ _ h => h) (Or.inl ⟨by rfl, ?_⟩) hHeld ?_ ?_
         rotate_left
         ·rintro w' ⟨s0, s1, s2⟩
          go_simp
          with_reducible rfl
         rotate_left
         ·simp only [Act.put, List.setIfInBounds_toArray, List.set_cons_zero, List.set_cons_succ, i64_w, i32_w]
          rfl
         refine one_ (i := 9) (N := some 22) #[true, true, true, true, true, true, true, true, true, true, false] rfl rfl (one_of HT_.out (by kernel_rfl)) (by decide) (fun K hK => ?_)
         refine goes_ Tryd.func76 (by kernel_rfl) rfl #[.slice (some ad191) y194.length c0_0, .agg #[.int .i64 ((rd_T43 l0_0 x8_1).f0), .int .i64 ((rd_T43 l0_0 x8_1).f1)]] (by rfl) rfl rfl Z56 ?_
         with_reducible refine (impl_EndPoint_76.calls k1 _ _ y194 ((rd_T43 l0_0 x8_1).f0) ((rd_T43 l0_0 x8_1).f1) false _ ?side1 ?side2 A11.out).mono ?_
         (case side1 => exact Z90)
         (case side2 => exact HC197.out)
         rintro e w28 ⟨rfl, hb⟩
         refine ⟨_, rfl, ?_⟩
         have n0_ := Aside0.mk (blk_below (g := gb190) (o := .cells #[.slice (some ad191) l0_0.length c0_0] 29 (0, 0)) Z27 hb)
         have n1_ := Aside0.mk (blk_below (g := gb192) (o := .cells #[.int .i64 ((rd_T43 l0_0 x8_1).f0), .int .i64 ((rd_T43 l0_0 x8_1).f1)] 43 (0, 0)) Z28 hb)
         have n2_ := Aside0.mk (below_step Z105 hb)
         clear BK190
         clear BK192
         clear HB
         have BK190 := n0_
         have BK192 := n1_
         have HB := n2_
         clear n0_ n1_ n2_
         (try clear hb)
         (try clear hb2)
         (try clear hk)
         (try clear hi)
         refine hK.out _ _ ⟨(blk_cell BK192.out 0).trans rfl, (blk_cell BK192.out 1).trans rfl, (blk_cell BK190.out 0).trans rfl⟩ (fun hHeld => ?_)
         clear hK K
         refine norm_ (a' := ?_) ?_ ?_
         rotate_left
         ·show Act.put _ (some 22) _ = _
          simp only [Act.put, List.setIfInBounds_toArray, List.set_cons_zero, List.set_cons_succ, i64_w, i32_w]
          rfl
         refine pure_ (i := 10) (N := some 23) (v := ?_) (a' := ?_) #[true, true, true, true, true, true, true, true, true, true, true] rfl rfl (any_of HT_.out (by kernel_rfl)) (fun _ _ _ h => h) (Or.inl ⟨by rfl, ?_⟩) ?_ ?_
         rotate_left
         ·intro w'
          go_simp
          with_reducible rfl
         rotate_left
         ·simp only [Act.put, List.setIfInBounds_toArray, List.set_cons_zero, List.set_cons_succ, i64_w, i32_w]
          rfl
         refine done_ (done_of HT_.out (by kernel_rfl)) ?_
         try go_wp2
         go_roundg k1
         case measure => have := HK1.out; omega
         case rel => exact ⟨(wrap64 (x8_1 + 1)), Z0, H', ⟨by have := HK1.out; omega⟩, ⟨by (with_reducible repeat (first | refine blk_drewN ?_ _ | refine blk_drew ?_ | refine blk_alloc ?_ _)); exact BK190.out⟩, ⟨by repeat (first | (with_reducible first | exact HB.out | apply below_alloc | apply pw_below_drewN | apply below_drew1 | refine below_set ?_ GE190.out | refine below_set ?_ GE192.out) | exact HB.out)⟩⟩
       ·rw [if_neg c10] at H
        exact absurd H (by simp)
      ·replace c8 := Bool.eq_false_iff.mpr c8
       subst c8
       have H1 : (some false) = some r := by rw [if_neg (show ¬ (false = true) by decide)] at H; exact H
       clear H
       have H := H1
       clear H1
       obtain rfl := Option.some.inj H
       have p191 : 0 ≤ (x8_1 : Int) := of_decide_eq_true Z1
       have q191 : x8_1 < (l0_0.length : Int) := of_decide_eq_true Z1
       obtain ⟨ad191, e191, hx191_0, hx191_1⟩ := at_T43 HR0_0.out x8_1 p191 q191
       cases e191
       replace hx191_0 := (HB.out.cell (World.block_lt_of_cell? w _ hx191_0)).trans hx191_0
       replace hx191_1 := (HB.out.cell (World.block_lt_of_cell? w _ hx191_1)).trans hx191_1
       replace p191 := eq_true p191
       replace q191 := eq_true q191
       try go_wp2_with (first | ((with_reducible refine gate_dst (N := 4) rfl ?_); refine box_event ?hg (N := 4) ?hd (cs := #[.int .i64 0, .int .i64 0]) (t := 43) ?hr ?_; (case hd => rfl); (case hg => rfl); (case hr => first | (go_simp; done) | (go_simp; rfl)); intro gb192 hg w29 hbox hb; have n0_ := Aside0.mk (blk_below (g := gb190) (o := .cells #[.slice (some ad191) l0_0.length c0_0] 29 (0, 0)) Z27 hb); have n1_ := Aside0.mk (below_step Z71 hb); have n2_ := Aside0.mk (hbox); have n3_ := Aside0.mk ((Z164 : w.heap.size ≤ gb192)); have n4_ := Aside0.mk ((Z164 : w.heap.size ≤ gb192)); have n5_ := Aside0.mk ((Z193 : gb190 ≠ gb192)); have n6_ := Aside0.mk ((Z194 : gb192 ≠ gb190)); clear BK190; clear HB; have BK190 := n0_; have HB := n1_; have BK192 := n2_; have GW192 := n3_; have GE192 := n4_; have NB190_192 := n5_; have NB192_190 := n6_; clear n0_ n1_ n2_ n3_ n4_ n5_ n6_; clear hb hbox hg; have hnb30 := NB192_190.out; have hnc30 := NB190_192.out; have hcz31_0 : w29.cell? ⟨gb192, 0, none⟩ = some (.int .i64 0) := (blk_cell BK192.out 0).trans rfl; have hcz31_1 : w29.cell? ⟨gb192, 1, none⟩ = some (.int .i64 0) := (blk_cell BK192.out 1).trans rfl; have hfz31_0 := blk_frozen BK192.out 0; have hfz31_1 := blk_frozen BK192.out 1))
       have n0_ : Aside0 (((w29.setCell ⟨gb192, 0, none⟩ (.int .i64 ((rd_T43 l0_0 x8_1).f0))).setCell ⟨gb192, 1, none⟩ (.int .i64 ((rd_T43 l0_0 x8_1).f1))).heap[gb190]? = some (.cells #[.slice (some ad191) l0_0.length c0_0] 29 (0, 0))) := ⟨by (with_reducible repeat (first | refine blk_drewN ?_ _ | refine blk_drew ?_ | refine blk_alloc ?_ _)); refine blk_far ?_ NB190_192.out _; (with_reducible repeat (first | refine blk_drewN ?_ _ | refine blk_drew ?_ | refine blk_alloc ?_ _)); refine blk_far ?_ NB190_192.out _; (with_reducible repeat (first | refine blk_drewN ?_ _ | refine blk_drew ?_ | refine blk_alloc ?_ _)); exact BK190.out⟩
       have n1_ : Aside0 (((w29.setCell ⟨gb192, 0, none⟩ (.int .i64 ((rd_T43 l0_0 x8_1).f0))).setCell ⟨gb192, 1, none⟩ (.int .i64 ((rd_T43 l0_0 x8_1).f1))).heap[gb192]? = some (.cells #[.int .i64 ((rd_T43 l0_0 x8_1).f0), .int .i64 ((rd_T43 l0_0 x8_1).f1)] 43 (0, 0))) := ⟨by (with_reducible repeat (first | refine blk_drewN ?_ _ | refine blk_drew ?_ | refine blk_alloc ?_ _)); refine blk_put (cs := #[.int .i64 ((rd_T43 l0_0 x8_1).f0), .int .i64 0]) ?_ 1 _ rfl; (with_reducible repeat (first | refine blk_drewN ?_ _ | refine blk_drew ?_ | refine blk_alloc ?_ _)); refine blk_put (cs := #[.int .i64 0, .int .i64 0]) ?_ 0 _ rfl; (with_reducible repeat (first | refine blk_drewN ?_ _ | refine blk_drew ?_ | refine blk_alloc ?_ _)); exact BK192.out⟩
       have n2_ : Aside0 (Below w.heap.size w ((w29.setCell ⟨gb192, 0, none⟩ (.int .i64 ((rd_T43 l0_0 x8_1).f0))).setCell ⟨gb192, 1, none⟩ (.int .i64 ((rd_T43 l0_0 x8_1).f1)))) := ⟨by repeat (first | (with_reducible first | exact HB.out | apply below_alloc | apply pw_below_drewN | apply below_drew1 | refine below_set ?_ GE190.out | refine below_set ?_ GE192.out) | exact HB.out)⟩
       (try clear BK190)
       (try clear BK192)
       (try clear HB)
       generalize ((w29.setCell ⟨gb192, 0, none⟩ (.int .i64 ((rd_T43 l0_0 x8_1).f0))).setCell ⟨gb192, 1, none⟩ (.int .i64 ((rd_T43 l0_0 x8_1).f1))) = w32 at n0_ n1_ n2_ ⊢
       have BK190 := n0_
       have BK192 := n1_
       have HB := n2_
       clear n0_ n1_ n2_
       have n0_ := Aside0.mk (blk_drew BK190.out)
       have n1_ := Aside0.mk (blk_drew BK192.out)
       have n2_ := Aside0.mk (below_drew1 HB.out)
       clear BK190
       clear BK192
       clear HB
       have BK190 := n0_
       have BK192 := n1_
       have HB := n2_
       clear n0_ n1_ n2_
       refine start_ (n := 11) (S := fun w' => w'.cell? ⟨gb192, 0, none⟩ = some (.int .i64 ((rd_T43 l0_0 x8_1).f0)) ∧ w'.cell? ⟨gb192, 1, none⟩ = some (.int .i64 ((rd_T43 l0_0 x8_1).f1))) (ds := []) #[false, false, false, false, false, false, false, false, false, false, false] (by kernel_rfl) rfl rfl ⟨(blk_cell BK192.out 0).trans rfl, (blk_cell BK192.out 1).trans rfl⟩ (fun hHeld => ?_); refine with_tabW impl_MapOk.tab4 impl_MapOk.bits4 (fun HT_ HW_ => ?_)
       generalize w32.drew = w33 at BK190 BK192 HB hHeld ⊢
       refine take_ (i := 0) (N := some 13) (v := ?_) (a' := ?_) #[true, false, false, false, false, false, false, false, false, false, false] rfl rfl (take_ofW HT_.out HW_.out (by kernel_rfl)) (fun _ _ _ h => h) (Or.inl ⟨by rfl, ?_⟩) hHeld ?_ ?_
       rotate_left
       ·rintro w' ⟨s0, s1⟩
        go_simp
        with_reducible rfl
       rotate_left
       ·simp only [Act.put, List.setIfInBounds_toArray, List.set_cons_zero, List.set_cons_succ, i64_w, i32_w]
        rfl
       refine one_ (i := 1) (N := some 14) #[true, true, false, false, false, false, false, false, false, false, false] rfl rfl (one_of HT_.out (by kernel_rfl)) (by decide) (fun K hK => ?_)
       refine goes_ Tryd.func47 (by kernel_rfl) rfl #[.agg #[.int .i64 ((rd_T43 l0_0 x8_1).f0), .int .i64 ((rd_T43 l0_0 x8_1).f1)]] (by rfl) rfl rfl Z56 ?_
       with_reducible refine (impl_EndInside.calls ((rd_T43 l0_0 x8_1).f0) ((rd_T43 l0_0 x8_1).f1) false _ A7.out).mono ?_
       rintro e w34 ⟨rfl, hb⟩
       refine ⟨_, rfl, ?_⟩
       have n0_ := Aside0.mk (blk_below (g := gb190) (o := .cells #[.slice (some ad191) l0_0.length c0_0] 29 (0, 0)) Z27 hb)
       have n1_ := Aside0.mk (blk_below (g := gb192) (o := .cells #[.int .i64 ((rd_T43 l0_0 x8_1).f0), .int .i64 ((rd_T43 l0_0 x8_1).f1)] 43 (0, 0)) Z28 hb)
       have n2_ := Aside0.mk (below_step Z105 hb)
       clear BK190
       clear BK192
       clear HB
       have BK190 := n0_
       have BK192 := n1_
       have HB := n2_
       clear n0_ n1_ n2_
       (try clear hb)
       (try clear hb2)
       (try clear hk)
       (try clear hi)
       refine hK.out _ _ ⟨(blk_cell BK192.out 0).trans rfl, (blk_cell BK192.out 1).trans rfl⟩ (fun hHeld => ?_)
       clear hK K
       refine norm_ (a' := ?_) ?_ ?_
       rotate_left
       ·show Act.put _ (some 14) _ = _
        simp only [Act.put, List.setIfInBounds_toArray, List.set_cons_zero, List.set_cons_succ, i64_w, i32_w]
        rfl
       refine pure_ (i := 2) (N := some 15) (v := ?_) (a' := ?_) #[true, true, true, false, false, false, false, false, false, false, false] rfl rfl (any_of HT_.out (by kernel_rfl)) (fun _ _ _ h => h) (Or.inl ⟨by rfl, ?_⟩) ?_ ?_
       rotate_left
       ·intro w'
        go_simp
        with_reducible rfl
       rotate_left
       ·simp only [Act.put, List.setIfInBounds_toArray, List.set_cons_zero, List.set_cons_succ, i64_w, i32_w]
        rfl
       refine pure_ (i := 3) (N := some 16) (v := ?_) (a' := ?_) #[true, true, true, true, false, false, false, false, false, false, false] rfl rfl (any_of HT_.out (by kernel_rfl)) (fun _ _ _ h => h) (Or.inl ⟨by rfl, ?_⟩) ?_ ?_
       rotate_left
       ·intro w'
        go_simp
        with_reducible rfl
       rotate_left
       ·simp only [Act.put, List.setIfInBounds_toArray, List.set_cons_zero, List.set_cons_succ, i64_w, i32_w]
        rfl
       refine pure_ (i := 4) (N := some 17) (v := undef) (a' := ?_) #[true, true, true, true, true, false, false, false, false, false, false] rfl rfl (any_of HT_.out (by kernel_rfl)) (fun _ _ _ h => h) (Or.inr ⟨by rfl, rfl⟩) ?_ ?_
       rotate_left
       ·simp only [Act.put, List.setIfInBounds_toArray, List.set_cons_zero, List.set_cons_succ, i64_w, i32_w]
        rfl
       refine pure_ (i := 5) (N := some 18) (v := undef) (a' := ?_) #[true, true, true, true, true, true, false, false, false, false, false] rfl rfl (any_of HT_.out (by kernel_rfl)) (fun _ _ _ h => h) (Or.inr ⟨by rfl, rfl⟩) ?_ ?_
       rotate_left
       ·simp only [Act.put, List.setIfInBounds_toArray, List.set_cons_zero, List.set_cons_succ, i64_w, i32_w]
        rfl
       refine pure_ (i := 6) (N := some 19) (v := undef) (a' := ?_) #[true, true, true, true, true, true, true, false, false, false, false] rfl rfl (any_of HT_.out (by kernel_rfl)) (fun _ _ _ h => h) (Or.inr ⟨by rfl, rfl⟩) ?_ ?_
       rotate_left
       ·simp only [Act.put, List.setIfInBounds_toArray, List.set_cons_zero, List.set_cons_succ, i64_w, i32_w]
        rfl
       refine pure_ (i := 7) (N := some 20) (v := undef) (a' := ?_) #[true, true, true, true, true, true, true, true, false, false, false] rfl rfl (any_of HT_.out (by kernel_rfl)) (fun _ _ _ h => h) (Or.inr ⟨by rfl, rfl⟩) ?_ ?_
       rotate_left
       ·simp only [Act.put, List.setIfInBounds_toArray, List.set_cons_zero, List.set_cons_succ, i64_w, i32_w]
        rfl
       refine pure_ (i := 8) (N := some 21) (v := undef) (a' := ?_) #[true, true, true, true, true, true, true, true, true, false, false] rfl rfl (any_of HT_.out (by kernel_rfl)) (fun _ _ _ h => h) (Or.inr ⟨by rfl, rfl⟩) ?_ ?_
       rotate_left
       ·simp only [Act.put, List.setIfInBounds_toArray, List.set_cons_zero, List.set_cons_succ, i64_w, i32_w]
        rfl
       refine pure_ (i := 9) (N := some 22) (v := undef) (a' := ?_) #[true, true, true, true, true, true, true, true, true, true, false] rfl rfl (any_of HT_.out (by kernel_rfl)) (fun _ _ _ h => h) (Or.inr ⟨by rfl, rfl⟩) ?_ ?_
       rotate_left
       ·simp only [Act.put, List.setIfInBounds_toArray, List.set_cons_zero, List.set_cons_succ, i64_w, i32_w]
        rfl
       refine pure_ (i := 10) (N := some 23) (v := ?_) (a' := ?_) #[true, true, true, true, true, true, true, true, true, true, true] rfl rfl (any_of HT_.out (by kernel_rfl)) (fun _ _ _ h => h) (Or.inl ⟨by rfl, ?_⟩) ?_ ?_
       rotate_left
       ·intro w'
        go_simp
        with_reducible rfl
       rotate_left
       ·simp only [Act.put, List.setIfInBounds_toArray, List.set_cons_zero, List.set_cons_succ, i64_w, i32_w]
        rfl
       refine done_ (done_of HT_.out (by kernel_rfl)) ?_
       try go_wp2
       go_ret
       exact ⟨by first | rfl | (simp [errW_none, errW_some] <;> rfl) | (simp [*, errW_none, errW_some] <;> rfl), by repeat (first | (with_reducible first | exact HB.out | apply below_alloc | apply pw_below_drewN | apply below_drew1 | refine below_set ?_ GE190.out | refine below_set ?_ GE192.out) | exact HB.out)⟩
     ·rw [if_neg c6] at H
      exact absurd H (by simp)
    ·rw [if_neg c5] at H
     exact absurd H (by simp)
   ·rw [if_neg c4] at H
    have c4b0 : decide (x8_1 < (l0_0.length : Int)) = false := decide_eq_false c4
    clear c4
    obtain rfl := Option.some.inj H
    have hcz35_0 : wr.cell? ⟨gb190, 0, none⟩ = some (.slice A0_0 l0_0.length c0_0) := (blk_cell BK190.out 0).trans rfl
    have hfz35_0 := blk_frozen BK190.out 0
    go_wp2
    go_ret
    exact ⟨by first | rfl | (simp [errW_none, errW_some] <;> rfl) | (simp [*, errW_none, errW_some] <;> rfl), by repeat (first | (with_reducible first | exact HB.out | apply below_alloc | apply pw_below_drewN | apply below_drew1 | refine below_set ?_ GE190.out) | exact HB.out)⟩

/-! ### impl_outside: function 73 -/
def impl_outside.f (a0 : Int) : Option (Bool) := (impl_within.f a0 100 109).bind fun t199 => (some t199)
set_option maxHeartbeats 8000000 in
set_option maxRecDepth 100000 in
theorem impl_outside.calls (a0 : Int) (r : Bool) (w : World) (h : impl_outside.f a0 = some r) :
  Calls Tryd.prog 73 #[.int .i64 a0] w fun e w' => e = .returned (.bool r) ∧ Drawn0 w w' := by
 have H : ((impl_within.f a0 100 109).bind fun t199 => (some t199)) = some r := h
 clear h
 replace H := Option.bind_eq_some_iff.mp H
 obtain ⟨t199, A20, H⟩ := H
 replace H : (some t199) = some r := H
 have A2 := Aside0.mk A20
 clear A20
 obtain rfl := Option.some.inj H
 go_enter Tryd.func73, Tryd.ntmps73
 go_wp2_with (first | ((with_reducible refine gate_callee (f := 87) rfl ?_); refine goesL_ (some 4) rfl rfl Tryd.func87 (by kernel_rfl) rfl #[.int .i64 a0, .int .i64 100, .int .i64 109] rfl Z56 ?_; (with_reducible refine (impl_within.calls a0 100 109 t199 _ A2.out).mono ?_); rintro e w' ⟨rfl, ⟨nd, rfl⟩⟩; refine ⟨_, rfl, ?_⟩))
 go_ret
 exact ⟨by first | rfl | (simp; done) | (simp [*]; done), by repeat (first | exact Drawn0.refl _ | apply Drawn0.step)⟩

/-! ### impl_EndOk: function 44 -/
def impl_EndOk.f (a0_0 : Int) (a0_1 : Int) : Option (Bool) := (impl_inside.f a0_0).bind fun t201 => (if t201 = true then ((impl_portOk.f a0_1).bind fun t202 => (some t202)) else ((impl_outside.f a0_0).bind fun t203 => (if t203 = true then ((impl_portOk.f a0_1).bind fun t204 => (some t204)) else (if a0_0 = 50 then ((impl_portOk.f a0_1).bind fun t205 => (some t205)) else (some false)))))
set_option maxHeartbeats 8000000 in
set_option maxRecDepth 100000 in
theorem impl_EndOk.calls (a0_0 : Int) (a0_1 : Int) (r : Bool) (w : World) (h : impl_EndOk.f a0_0 a0_1 = some r) :
  Calls Tryd.prog 44 #[.agg #[.int .i64 a0_0, .int .i64 a0_1]] w fun e w' => e = .returned (.bool r) ∧ Below w.heap.size w w' := by
 have hu43 := Tryd.underlying43
 have HB := Aside0.mk (Below.refl w.heap.size w)
 have H : ((impl_inside.f a0_0).bind fun t201 => (if t201 = true then ((impl_portOk.f a0_1).bind fun t202 => (some t202)) else ((impl_outside.f a0_0).bind fun t203 => (if t203 = true then ((impl_portOk.f a0_1).bind fun t204 => (some t204)) else (if a0_0 = 50 then ((impl_portOk.f a0_1).bind fun t205 => (some t205)) else (some false)))))) = some r := h
 clear h
 replace H := Option.bind_eq_some_iff.mp H
 obtain ⟨t201, A20, H⟩ := H
 replace H : (if t201 = true then ((impl_portOk.f a0_1).bind fun t202 => (some t202)) else ((impl_outside.f a0_0).bind fun t203 => (if t203 = true then ((impl_portOk.f a0_1).bind fun t204 => (some t204)) else (if a0_0 = 50 then ((impl_portOk.f a0_1).bind fun t205 => (some t205)) else (some false))))) = some r := H
 have A2 := Aside0.mk A20
 clear A20
 by_cases c3 : t201 = true
 ·subst c3
  have H1 : ((impl_portOk.f a0_1).bind fun t202 => (some t202)) = some r := by rw [if_pos rfl] at H; exact H
  clear H
  have H := H1
  clear H1
  replace H := Option.bind_eq_some_iff.mp H
  obtain ⟨t202, A40, H⟩ := H
  replace H : (some t202) = some r := H
  have A4 := Aside0.mk A40
  clear A40
  obtain rfl := Option.some.inj H
  go_enter Tryd.func44, Tryd.ntmps44
  go_wp2_with (first | ((with_reducible refine gate_dst (N := 1) rfl ?_); refine box_event ?hg (N := 1) ?hd (cs := #[.int .i64 a0_0, .int .i64 a0_1]) (t := 43) ?hr ?_; (case hd => rfl); (case hg => rfl); (case hr => first | (go_simp; done) | (go_simp; rfl)); intro gb200 hg w5 hbox hb; have n0_ := Aside0.mk (below_step Z52 hb); have n1_ := Aside0.mk (hbox); have n2_ := Aside0.mk ((Z161 : w.heap.size ≤ gb200)); have n3_ := Aside0.mk ((Z161 : w.heap.size ≤ gb200)); clear HB; have HB := n0_; have BK200 := n1_; have GW200 := n2_; have GE200 := n3_; clear n0_ n1_ n2_ n3_; clear hb hbox hg; have hcz6_0 : w5.cell? ⟨gb200, 0, none⟩ = some (.int .i64 a0_0) := (blk_cell BK200.out 0).trans rfl; have hcz6_1 : w5.cell? ⟨gb200, 1, none⟩ = some (.int .i64 a0_1) := (blk_cell BK200.out 1).trans rfl; have hfz6_0 := blk_frozen BK200.out 0; have hfz6_1 := blk_frozen BK200.out 1) | ((with_reducible refine gate_callee (f := 72) rfl ?_); refine goesL_ (some 5) rfl rfl Tryd.func72 (by kernel_rfl) rfl #[.int .i64 a0_0] rfl Z56 ?_; (with_reducible refine (impl_inside.calls a0_0 true _ A2.out).mono ?_); rintro e w' ⟨rfl, ⟨nd, rfl⟩⟩; refine ⟨_, rfl, ?_⟩) | (go_at_call 74; (with_reducible refine (impl_portOk.calls a0_1 t202 _ A4.out).mono ?_); rintro e w' ⟨rfl, ⟨nd, rfl⟩⟩))
  go_ret
  exact ⟨by first | rfl | (simp [errW_none, errW_some] <;> rfl) | (simp [*, errW_none, errW_some] <;> rfl), by repeat (first | (with_reducible first | exact HB.out | apply below_alloc | apply pw_below_drewN | apply below_drew1 | refine below_set ?_ GE200.out) | exact HB.out)⟩
 ·replace c3 := Bool.eq_false_iff.mpr c3
  subst c3
  have H1 : ((impl_outside.f a0_0).bind fun t203 => (if t203 = true then ((impl_portOk.f a0_1).bind fun t204 => (some t204)) else (if a0_0 = 50 then ((impl_portOk.f a0_1).bind fun t205 => (some t205)) else (some false)))) = some r := by rw [if_neg (show ¬ (false = true) by decide)] at H; exact H
  clear H
  have H := H1
  clear H1
  replace H := Option.bind_eq_some_iff.mp H
  obtain ⟨t203, A70, H⟩ := H
  replace H : (if t203 = true then ((impl_portOk.f a0_1).bind fun t204 => (some t204)) else (if a0_0 = 50 then ((impl_portOk.f a0_1).bind fun t205 => (some t205)) else (some false))) = some r := H
  have A7 := Aside0.mk A70
  clear A70
  by_cases c8 : t203 = true
  ·subst c8
   have H1 : ((impl_portOk.f a0_1).bind fun t204 => (some t204)) = some r := by rw [if_pos rfl] at H; exact H
   clear H
   have H := H1
   clear H1
   replace H := Option.bind_eq_some_iff.mp H
   obtain ⟨t204, A90, H⟩ := H
   replace H : (some t204) = some r := H
   have A9 := Aside0.mk A90
   clear A90
   obtain rfl := Option.some.inj H
   go_enter Tryd.func44, Tryd.ntmps44
   go_wp2_with (first | ((with_reducible refine gate_dst (N := 1) rfl ?_); refine box_event ?hg (N := 1) ?hd (cs := #[.int .i64 a0_0, .int .i64 a0_1]) (t := 43) ?hr ?_; (case hd => rfl); (case hg => rfl); (case hr => first | (go_simp; done) | (go_simp; rfl)); intro gb200 hg w10 hbox hb; have n0_ := Aside0.mk (below_step Z52 hb); have n1_ := Aside0.mk (hbox); have n2_ := Aside0.mk ((Z161 : w.heap.size ≤ gb200)); have n3_ := Aside0.mk ((Z161 : w.heap.size ≤ gb200)); clear HB; have HB := n0_; have BK200 := n1_; have GW200 := n2_; have GE200 := n3_; clear n0_ n1_ n2_ n3_; clear hb hbox hg; have hcz11_0 : w10.cell? ⟨gb200, 0, none⟩ = some (.int .i64 a0_0) := (blk_cell BK200.out 0).trans rfl; have hcz11_1 : w10.cell? ⟨gb200, 1, none⟩ = some (.int .i64 a0_1) := (blk_cell BK200.out 1).trans rfl; have hfz11_0 := blk_frozen BK200.out 0; have hfz11_1 := blk_frozen BK200.out 1) | ((with_reducible refine gate_callee (f := 72) rfl ?_); refine goesL_ (some 5) rfl rfl Tryd.func72 (by kernel_rfl) rfl #[.int .i64 a0_0] rfl Z56 ?_; (with_reducible refine (impl_inside.calls a0_0 false _ A2.out).mono ?_); rintro e w' ⟨rfl, ⟨nd, rfl⟩⟩; refine ⟨_, rfl, ?_⟩) | (go_at_call 73; (with_reducible refine (impl_outside.calls a0_0 true _ A7.out).mono ?_); rintro e w' ⟨rfl, ⟨nd, rfl⟩⟩) | (go_at_call 74; (with_reducible refine (impl_portOk.calls a0_1 t204 _ A9.out).mono ?_); rintro e w' ⟨rfl, ⟨nd, rfl⟩⟩))
   go_ret
   exact ⟨by first | rfl | (simp [errW_none, errW_some] <;> rfl) | (simp [*, errW_none, errW_some] <;> rfl), by repeat (first | (with_reducible first | exact HB.out | apply below_alloc | apply pw_below_drewN | apply below_drew1 | refine below_set ?_ GE200.out) | exact HB.out)⟩
  ·replace c8 := Bool.eq_false_iff.mpr c8
   subst c8
   have H1 : (if a0_0 = 50 then ((impl_portOk.f a0_1).bind fun t205 => (some t205)) else (some false)) = some r := by rw [if_neg (show ¬ (false = true) by decide)] at H; exact H
   clear H
   have H := H1
   clear H1
   by_cases c12 : a0_0 = 50
   ·rw [if_pos c12] at H
    have c12b0 : (a0_0 == 50) = true := beq_iff_eq.mpr c12
    have c12b1 : (a0_0 != 50) = false := bne_eq_false_iff_eq.mpr c12
    clear c12
    replace H := Option.bind_eq_some_iff.mp H
    obtain ⟨t205, A130, H⟩ := H
    replace H : (some t205) = some r := H
    have A13 := Aside0.mk A130
    clear A130
    obtain rfl := Option.some.inj H
    go_enter Tryd.func44, Tryd.ntmps44
    go_wp2_with (first | ((with_reducible refine gate_dst (N := 1) rfl ?_); refine box_event ?hg (N := 1) ?hd (cs := #[.int .i64 a0_0, .int .i64 a0_1]) (t := 43) ?hr ?_; (case hd => rfl); (case hg => rfl); (case hr => first | (go_simp; done) | (go_simp; rfl)); intro gb200 hg w14 hbox hb; have n0_ := Aside0.mk (below_step Z52 hb); have n1_ := Aside0.mk (hbox); have n2_ := Aside0.mk ((Z161 : w.heap.size ≤ gb200)); have n3_ := Aside0.mk ((Z161 : w.heap.size ≤ gb200)); clear HB; have HB := n0_; have BK200 := n1_; have GW200 := n2_; have GE200 := n3_; clear n0_ n1_ n2_ n3_; clear hb hbox hg; have hcz15_0 : w14.cell? ⟨gb200, 0, none⟩ = some (.int .i64 a0_0) := (blk_cell BK200.out 0).trans rfl; have hcz15_1 : w14.cell? ⟨gb200, 1, none⟩ = some (.int .i64 a0_1) := (blk_cell BK200.out 1).trans rfl; have hfz15_0 := blk_frozen BK200.out 0; have hfz15_1 := blk_frozen BK200.out 1) | ((with_reducible refine gate_callee (f := 72) rfl ?_); refine goesL_ (some 5) rfl rfl Tryd.func72 (by kernel_rfl) rfl #[.int .i64 a0_0] rfl Z56 ?_; (with_reducible refine (impl_inside.calls a0_0 false _ A2.out).mono ?_); rintro e w' ⟨rfl, ⟨nd, rfl⟩⟩; refine ⟨_, rfl, ?_⟩) | (go_at_call 73; (with_reducible refine (impl_outside.calls a0_0 false _ A7.out).mono ?_); rintro e w' ⟨rfl, ⟨nd, rfl⟩⟩) | (go_at_call 74; (with_reducible refine (impl_portOk.calls a0_1 t205 _ A13.out).mono ?_); rintro e w' ⟨rfl, ⟨nd, rfl⟩⟩))
    go_ret
    exact ⟨by first | rfl | (simp [errW_none, errW_some] <;> rfl) | (simp [*, errW_none, errW_some] <;> rfl), by repeat (first | (with_reducible first | exact HB.out | apply below_alloc | apply pw_below_drewN | apply below_drew1 | refine below_set ?_ GE200.out) | exact HB.out)⟩
   ·rw [if_neg c12] at H
    have c12b0 : (a0_0 == 50) = false := beq_eq_false_iff_ne.mpr c12
    have c12b1 : (a0_0 != 50) = true := bne_iff_ne.mpr c12
    obtain rfl := Option.some.inj H
    go_enter Tryd.func44, Tryd.ntmps44
    go_wp2_with (first | ((with_reducible refine gate_dst (N := 1) rfl ?_); refine box_event ?hg (N := 1) ?hd (cs := #[.int .i64 a0_0, .int .i64 a0_1]) (t := 43) ?hr ?_; (case hd => rfl); (case hg => rfl); (case hr => first | (go_simp; done) | (go_simp; rfl)); intro gb200 hg w16 hbox hb; have n0_ := Aside0.mk (below_step Z52 hb); have n1_ := Aside0.mk (hbox); have n2_ := Aside0.mk ((Z161 : w.heap.size ≤ gb200)); have n3_ := Aside0.mk ((Z161 : w.heap.size ≤ gb200)); clear HB; have HB := n0_; have BK200 := n1_; have GW200 := n2_; have GE200 := n3_; clear n0_ n1_ n2_ n3_; clear hb hbox hg; have hcz17_0 : w16.cell? ⟨gb200, 0, none⟩ = some (.int .i64 a0_0) := (blk_cell BK200.out 0).trans rfl; have hcz17_1 : w16.cell? ⟨gb200, 1, none⟩ = some (.int .i64 a0_1) := (blk_cell BK200.out 1).trans rfl; have hfz17_0 := blk_frozen BK200.out 0; have hfz17_1 := blk_frozen BK200.out 1) | ((with_reducible refine gate_callee (f := 72) rfl ?_); refine goesL_ (some 5) rfl rfl Tryd.func72 (by kernel_rfl) rfl #[.int .i64 a0_0] rfl Z56 ?_; (with_reducible refine (impl_inside.calls a0_0 false _ A2.out).mono ?_); rintro e w' ⟨rfl, ⟨nd, rfl⟩⟩; refine ⟨_, rfl, ?_⟩) | (go_at_call 73; (with_reducible refine (impl_outside.calls a0_0 false _ A7.out).mono ?_); rintro e w' ⟨rfl, ⟨nd, rfl⟩⟩))
    go_ret
    exact ⟨by first | rfl | (simp [errW_none, errW_some] <;> rfl) | (simp [*, errW_none, errW_some] <;> rfl), by repeat (first | (with_reducible first | exact HB.out | apply below_alloc | apply pw_below_drewN | apply below_drew1 | refine below_set ?_ GE200.out) | exact HB.out)⟩

/-! ### impl_LinBox: function 25 -/
def impl_LinBox.f (k : Nat) (a0 : ByteArray) : Option (Int × Bool) := if 0 ≤ (a0.size : Int) then (if ((a0.size : Int) : Int).toNat ≤ 281474976710656 then ((spec_LinBox.f k a0).bind fun bt209 => (some (bt209.1, bt209.2))) else (none)) else (none)
theorem impl_LinBox.mono : ∀ a0 k, LeO (impl_LinBox.f k a0) (impl_LinBox.f (k + 1) a0) := by
 intro a0 k
 unfold impl_LinBox.f
 repeat' first
   | (with_reducible exact spec_LinBox.mono _ _)
   | (with_reducible exact LeO.refl _)
   | (with_reducible exact LeO.none _)
   | (with_reducible refine LeO.ite ?_ ?_)
   | (with_reducible refine LeO.bind ?_ (fun _ => ?_))
   | exact spec_LinBox.mono _ _
   | exact LeO.none _
   | refine LeO.ite ?_ ?_
   | refine LeO.bind ?_ (fun _ => ?_)
-- BY HAND
open Go.Proofs.YtlofgoahgnllkaaDoor.Ends
theorem nums1 (x : Int) (h0 : 0 ≤ x) (h1 : x ≤ 9) : strOfNums [wrap64 (48 + x) % 256] = ⟨#[dig x]⟩ := by
 rw [Lib.wrap_id (by omega) (by omega), show (48 + x) % 256 = 48 + x by omega]; rfl
theorem plain_last (k : Nat) (n : Int) (t : ByteArray) (h0 : 0 ≤ n) (h1 : n ≤ 9) (ht : t.size ≤ 1000000) : spec_l1Plain.l0 (k + 1) n t = some ((⟨#[dig n]⟩ : ByteArray) ++ t) := by
 rw [spec_l1Plain.l0, if_neg (by omega)]
 simp only [Option.bind_some]
 rw [nums1 n h0 h1, if_pos (by show 1 + t.size ≤ _; omega)]
theorem plain_step (k : Nat) (n : Int) (t : ByteArray) (h0 : 9 < n) (h1 : n ≤ 1000000) (ht : t.size ≤ 1000000) : spec_l1Plain.l0 (k + 1) n t = spec_l1Plain.l0 k (n / 10) ((⟨#[dig (n % 10)]⟩ : ByteArray) ++ t) := by
 rw [spec_l1Plain.l0, if_pos (by omega)]
 simp only [Option.bind_some]
 have e : Int.tmod n 10 = n % 10 := Int.tmod_eq_emod_of_nonneg (by omega)
 have e2 : Int.tdiv n 10 = n / 10 := Int.tdiv_eq_ediv_of_nonneg (by omega)
 rw [e, e2, nums1 (n % 10) (by omega) (by omega), if_pos (by show 1 + t.size ≤ _; omega), Lib.wrap_id (by omega) (by omega)]
theorem app1 (a : UInt8) (l : List UInt8) : (⟨#[a]⟩ : ByteArray) ++ (⟨l.toArray⟩ : ByteArray) = ⟨(a :: l).toArray⟩ := by
 apply ByteArray.ext
 simp [ByteArray.data_append]
theorem plain_3 (n : Int) (h0 : 0 ≤ n) (h1 : n ≤ 999) : spec_l1Plain.f 3 n = some (dec3 n) := by
 have z : (⟨#[]⟩ : ByteArray) = ⟨([] : List UInt8).toArray⟩ := rfl
 unfold spec_l1Plain.f dec3
 by_cases c : n > 99
 ·rw [if_pos c, plain_step 2 n _ (by omega) (by omega) (by show 0 ≤ 1000000; omega), plain_step 1 (n / 10) _ (by omega) (by omega) (by show 1 ≤ 1000000; omega), plain_last 0 (n / 10 / 10) _ (by omega) (by omega) (by show 2 ≤ 1000000; omega), z, app1, app1, app1, show n / 10 / 10 = n / 100 by omega]
 ·rw [if_neg c]
  by_cases c2 : n > 9
  ·rw [if_pos c2, plain_step 2 n _ (by omega) (by omega) (by show 0 ≤ 1000000; omega), plain_last 1 (n / 10) _ (by omega) (by omega) (by show 1 ≤ 1000000; omega), z, app1, app1]
  ·rw [if_neg c2, plain_last 2 n _ (by omega) (by omega) (by show 0 ≤ 1000000; omega), z, app1]
theorem plain_ev (n : Int) (h0 : 0 ≤ n) (h1 : n ≤ 999) : Ev (fun k => spec_l1Plain.f k n) (dec3 n) := Ev.of (k := 3) (spec_l1Plain.mono n) (plain_3 n h0 h1)
theorem spec_end (a p : Int) : spec_EndOk.f a p = some (decide (endOkP a p)) := by
 simp only [spec_EndOk.f, spec_EndInside.f, spec_EndOutside.f, spec_l1In.f, endOkP]
 by_cases h1 : a ≥ 1 <;> by_cases h2 : a ≤ 9 <;> by_cases h3 : p ≥ 1 <;> by_cases h4 : p ≤ 999 <;> by_cases h5 : a ≥ 100 <;> by_cases h6 : a ≤ 109 <;> by_cases h7 : a = 50 <;> simp [h1, h2, h3, h4, h5, h6, h7] <;> omega
theorem impl_end (a p : Int) : impl_EndOk.f a p = some (decide (endOkP a p)) := by
 simp only [impl_EndOk.f, impl_inside.f, impl_outside.f, impl_portOk.f, impl_within.f, endOkP]
 by_cases h1 : a ≥ 1 <;> by_cases h2 : a ≤ 9 <;> by_cases h3 : p ≥ 1 <;> by_cases h4 : p ≤ 999 <;> by_cases h5 : a ≥ 100 <;> by_cases h6 : a ≤ 109 <;> by_cases h7 : a = 50 <;> simp [h1, h2, h3, h4, h5, h6, h7] <;> omega
theorem okC : Ends.OkC := fun a p W => impl_EndOk.calls a p (decide (endOkP a p)) W (impl_end a p)
/-- More rounds give the same answer: what comes at some rounds is what comes in the end. -/
theorem ev_one {α : Type} {g : Nat → Option α} (hm : ∀ k, LeO (g k) (g (k + 1))) {v r : α} (he : Ev g v) {k : Nat} (h : g k = some r) : r = v := by
 obtain ⟨K, hK⟩ := he
 have h1 := at_rounds hm (Nat.le_max_left k K) h
 have h2 := hK (max k K) (Nat.le_max_right k K)
 rw [h1] at h2
 exact Option.some.inj h2
open Go.Proofs.YtlofgoahgnllkaaDoor.Ends
theorem w_upR (n : Nat) (h : n ≤ 4611686018427387904) : wrap64 ((n : Int) + 1) = ((n + 1 : Nat) : Int) := by
 rw [Lib.wrap_id (by omega) (by omega)]; omega
/-- The words of a text from the place i on, n bytes; x: what the first of them has so far. -/
def wds (s : ByteArray) : Nat → ByteArray → Nat → List ByteArray
 | 0, x, _ => [x]
 | n + 1, x, i => if bt s (i : Int) = 32 then x :: wds s n ⟨#[]⟩ (i + 1) else wds s n (x ++ s.extract i (i + 1)) (i + 1)
theorem words_part (s : ByteArray) (hs : s.size ≤ 4611686018427387904) : ∀ (k n i : Nat) (L : List ByteArray) (x : ByteArray) (r : List ByteArray), i + n = s.size → spec_l1Words.l0 k s L x (i : Int) = some r → r = L ++ wds s n x i := by
 intro k
 induction k with
 | zero => intro n i L x r _ h; rw [spec_l1Words.l0] at h; cases h
 | succ k ih =>
  intro n i L x r hn h
  rw [spec_l1Words.l0] at h
  cases n with
  | zero =>
   rw [if_neg (by omega)] at h
   by_cases c : L.length < 8796093022208
   ·rw [if_pos c] at h; exact (Option.some.inj h).symm
   ·rw [if_neg c] at h; cases h
  | succ n =>
   rw [if_pos (by omega), if_pos (by omega), w_upR i (by omega)] at h
   rw [wds]
   by_cases hb : bt s (i : Int) = 32
   ·rw [if_pos hb] at h
    by_cases c : L.length < 8796093022208
    ·rw [if_pos c] at h
     rw [ih n (i + 1) _ _ r (by omega) h, if_pos hb, List.append_assoc]; rfl
    ·rw [if_neg c] at h; cases h
   ·rw [if_neg hb, if_pos (by omega), if_pos (by omega), Int.toNat_natCast, Int.toNat_natCast] at h
    by_cases c : x.size + (s.extract i (i + 1)).size ≤ 9223372036854775807
    ·rw [if_pos c] at h
     rw [ih n (i + 1) _ _ r (by omega) h, if_neg hb]
    ·rw [if_neg c] at h; cases h
theorem words_all (s : ByteArray) (hs : s.size ≤ 1048576) : ∀ (n i k : Nat) (L : List ByteArray) (x : ByteArray), i + n = s.size → L.length ≤ i → x.size ≤ i → n + 1 ≤ k → spec_l1Words.l0 k s L x (i : Int) = some (L ++ wds s n x i) := by
 intro n
 induction n with
 | zero =>
  intro i k L x hi hL hx hk
  obtain ⟨k, rfl⟩ : ∃ m, k = m + 1 := ⟨k - 1, by omega⟩
  rw [spec_l1Words.l0, if_neg (by omega), if_pos (by omega)]; rfl
 | succ n ih =>
  intro i k L x hi hL hx hk
  obtain ⟨k, rfl⟩ : ∃ m, k = m + 1 := ⟨k - 1, by omega⟩
  rw [spec_l1Words.l0, if_pos (by omega), if_pos (by omega), w_upR i (by omega), wds]
  by_cases hb : bt s (i : Int) = 32
  ·rw [if_pos hb, if_pos hb, if_pos (by omega), ih (i + 1) k _ _ (by omega) (by simp; omega) (by show 0 ≤ _; omega) (by omega), List.append_assoc]; rfl
  ·rw [if_neg hb, if_neg hb, if_pos (by omega), if_pos (by omega), Int.toNat_natCast, Int.toNat_natCast]
   have hz : (s.extract i (i + 1)).size = 1 := by rw [ByteArray.size_extract]; omega
   rw [if_pos (by omega), ih (i + 1) k _ _ (by omega) (by omega) (by rw [ByteArray.size_append]; omega) (by omega)]
theorem ext_join (s : ByteArray) (i j l : Nat) (h1 : i ≤ j) (h2 : j ≤ l) (h3 : l ≤ s.size) : s.extract i j ++ s.extract j l = s.extract i l := by
 apply ByteArray.ext
 rw [ByteArray.data_append, ByteArray.data_extract, ByteArray.data_extract, ByteArray.data_extract, Array.extract_append_extract, Nat.min_eq_left h1, Nat.max_eq_right h2]
theorem ext_same (s : ByteArray) (i : Nat) : s.extract i i = ⟨#[]⟩ := by
 apply ByteArray.ext
 rw [ByteArray.data_extract]
 simp
 omega
theorem app_nil (x : ByteArray) : x ++ (⟨#[]⟩ : ByteArray) = x := by
 apply ByteArray.ext; simp [ByteArray.data_append]
theorem nil_app (x : ByteArray) : (⟨#[]⟩ : ByteArray) ++ x = x := by
 apply ByteArray.ext; simp [ByteArray.data_append]
theorem wds_ne (s : ByteArray) : ∀ (n i : Nat) (x : ByteArray), ∃ y R, wds s n x i = y :: R
 | 0, i, x => ⟨x, [], rfl⟩
 | n + 1, i, x => by
  rw [wds]
  by_cases hb : bt s (i : Int) = 32
  ·rw [if_pos hb]; exact ⟨_, _, rfl⟩
  ·rw [if_neg hb]; exact wds_ne s n (i + 1) _
theorem wds_one (s : ByteArray) : ∀ (n i : Nat) (x y : ByteArray), i + n = s.size → wds s n x i = [y] → y = x ++ s.extract i s.size ∧ ∀ t, i ≤ t → t < s.size → bt s (t : Int) ≠ 32 := by
 intro n
 induction n with
 | zero =>
  intro i x y hi h
  simp only [wds, List.cons.injEq, and_true] at h
  have e : i = s.size := by omega
  subst e
  exact ⟨by rw [ext_same, app_nil]; exact h.symm, fun t h1 h2 => by omega⟩
 | succ n ih =>
  intro i x y hi h
  rw [wds] at h
  by_cases hb : bt s (i : Int) = 32
  ·rw [if_pos hb] at h
   obtain ⟨z, R, e⟩ := wds_ne s n (i + 1) ⟨#[]⟩
   rw [e] at h; simp at h
  ·rw [if_neg hb] at h
   obtain ⟨h1, h2⟩ := ih (i + 1) _ y (by omega) h
   refine ⟨?_, fun t h3 h4 => ?_⟩
   ·rw [h1, ByteArray.append_assoc, ext_join s i (i + 1) s.size (by omega) (by omega) (Nat.le_refl _)]
   ·by_cases e : t = i
    ·subst e; exact hb
    ·exact h2 t (by omega) h4
theorem wds_two (s : ByteArray) : ∀ (n i : Nat) (x y z : ByteArray), i + n = s.size → wds s n x i = [y, z] → ∃ j, i ≤ j ∧ j < s.size ∧ bt s (j : Int) = 32 ∧ y = x ++ s.extract i j ∧ z = s.extract (j + 1) s.size := by
 intro n
 induction n with
 | zero => intro i x y z hi h; simp [wds] at h
 | succ n ih =>
  intro i x y z hi h
  rw [wds] at h
  by_cases hb : bt s (i : Int) = 32
  ·rw [if_pos hb] at h
   simp only [List.cons.injEq] at h
   obtain ⟨rfl, h⟩ := h
   obtain ⟨h1, _⟩ := wds_one s n (i + 1) _ z (by omega) h
   exact ⟨i, Nat.le_refl _, by omega, hb, by rw [ext_same, app_nil], by rw [h1, nil_app]⟩
  ·rw [if_neg hb] at h
   obtain ⟨j, h1, h2, h3, h4, h5⟩ := ih (i + 1) _ y z (by omega) h
   exact ⟨j, by omega, h2, h3, by rw [h4, ByteArray.append_assoc, ext_join s i (i + 1) j (by omega) h1 (by omega)], h5⟩
theorem wds_none (s : ByteArray) : ∀ (n i : Nat) (x : ByteArray), i + n = s.size → (∀ t, i ≤ t → t < s.size → bt s (t : Int) ≠ 32) → wds s n x i = [x ++ s.extract i s.size] := by
 intro n
 induction n with
 | zero =>
  intro i x hi h
  have e : i = s.size := by omega
  subst e
  rw [wds, ext_same, app_nil]
 | succ n ih =>
  intro i x hi h
  rw [wds, if_neg (h i (Nat.le_refl _) (by omega)), ih (i + 1) _ (by omega) (fun t h1 h2 => h t (by omega) h2), ByteArray.append_assoc, ext_join s i (i + 1) s.size (by omega) (by omega) (Nat.le_refl _)]
theorem wds_at (s : ByteArray) (j : Nat) (hj : j < s.size) (h32 : bt s (j : Int) = 32) (hb : ∀ t, j < t → t < s.size → bt s (t : Int) ≠ 32) : ∀ (n i : Nat) (x : ByteArray), i + n = s.size → i ≤ j → (∀ t, i ≤ t → t < j → bt s (t : Int) ≠ 32) → wds s n x i = [x ++ s.extract i j, s.extract (j + 1) s.size] := by
 intro n
 induction n with
 | zero => intro i x hi hij h; omega
 | succ n ih =>
  intro i x hi hij h
  rw [wds]
  by_cases e : i = j
  ·subst e
   rw [if_pos h32, wds_none s n (i + 1) _ (by omega) (fun t h1 h2 => hb t (by omega) h2), nil_app, ext_same, app_nil]
  ·rw [if_neg (h i (Nat.le_refl _) (by omega)), ih (i + 1) _ (by omega) (by omega) (fun t h1 h2 => h t (by omega) h2), ByteArray.append_assoc, ext_join s i (i + 1) j (by omega) (by omega) (by omega)]
/-! the words of an end's text -/
theorem dig_nat (d : Int) (h0 : 0 ≤ d) (h1 : d ≤ 9) : ((dig d).toNat : Int) = 48 + d := by
 obtain ⟨n, rfl⟩ := Int.eq_ofNat_of_zero_le h0
 unfold dig
 rw [show (48 + (n : Int)).toNat = 48 + n by omega, UInt8.toNat_ofNat']
 omega
theorem bt_lit (l : List UInt8) (i : Nat) (h : i < l.length) : bt (⟨l.toArray⟩ : ByteArray) (i : Int) = (l[i].toNat : Int) := by
 rw [Lib.bt_eq _ _ (by simpa [ByteArray.size] using h)]; rfl
theorem bt_mem (s : ByteArray) (i : Nat) (h : i < s.size) : ∃ b ∈ s.data.toList, bt s (i : Int) = (b.toNat : Int) :=
 ⟨s[i], by rw [ByteArray.getElem_eq_getElem_data]; exact Array.mem_toList_iff.2 (Array.getElem_mem _), Lib.bt_eq s i h⟩
theorem dec3_no32 (a : Int) (h0 : 0 ≤ a) (h1 : a ≤ 999) (i : Nat) (h : i < (dec3 a).size) : bt (dec3 a) (i : Int) ≠ 32 := by
 obtain ⟨b, hb, e⟩ := bt_mem _ i h
 have := dec3_bytes a h0 h1 b hb
 intro e2
 rw [e2] at e
 exact this (UInt8.toNat_inj.1 (by rw [show (32 : UInt8).toNat = 32 from rfl]; omega))
theorem wds_end (a p : Int) (h : endOkP a p) : wds (endT a p) (endT a p).size ⟨#[]⟩ 0 = [dec3 a, dec3 p] := by
 obtain ⟨a0, a1, p0, p1⟩ := endOk_range h
 obtain ⟨_, c2, c3⟩ := cut_endT a p h
 have h1 : (⟨#[32]⟩ : ByteArray).size = 1 := rfl
 have hz : (endT a p).size = (dec3 a).size + 1 + (dec3 p).size := by
  unfold endT
  rw [ByteArray.size_append, ByteArray.size_append]; rfl
 have hl : ∀ t, t < (dec3 a).size → bt (endT a p) (t : Int) = bt (dec3 a) (t : Int) := fun t ht => by
  unfold endT
  rw [Lib.bt_left _ _ _ (by rw [ByteArray.size_append]; omega), Lib.bt_left _ _ _ ht]
 have hm : bt (endT a p) ((dec3 a).size : Int) = 32 := by
  unfold endT
  rw [Lib.bt_left _ _ _ (by rw [ByteArray.size_append, h1]; omega)]
  have := Lib.bt_right (dec3 a) ⟨#[32]⟩ 0 (by omega)
  rw [Nat.add_zero] at this
  rw [this]; rfl
 have hr : ∀ t, (dec3 a).size < t → t < (endT a p).size → bt (endT a p) (t : Int) ≠ 32 := fun t h2 h3 => by
  unfold endT
  have := Lib.bt_right (dec3 a ++ ⟨#[32]⟩) (dec3 p) (t - ((dec3 a).size + 1)) (by omega)
  rw [ByteArray.size_append, h1, show (dec3 a).size + 1 + (t - ((dec3 a).size + 1)) = t by omega] at this
  rw [this]
  exact dec3_no32 p (by omega) (by omega) _ (by omega)
 have := wds_at (endT a p) (dec3 a).size (by omega) hm hr (endT a p).size 0 ⟨#[]⟩ (Nat.zero_add _) (Nat.zero_le _) (fun t _ h2 => by rw [hl t h2]; exact dec3_no32 a (by omega) (by omega) t h2)
 rw [this, nil_app, c2, c3]
/-! numbers -/
theorem num_l (w : ByteArray) : ∀ (k : Nat) (n i v : Int), spec_l1Num.l0 k w n i = some v → v = -1 ∨ ∃ k' t, spec_l1Plain.f k' v = some t ∧ t = w := by
 intro k
 induction k with
 | zero => intro n i v h; rw [spec_l1Num.l0] at h; cases h
 | succ k ih =>
  intro n i v h
  rw [spec_l1Num.l0] at h
  by_cases c0 : i < (w.size : Int)
  ·rw [if_pos c0] at h
   by_cases c1 : 0 ≤ i
   ·rw [if_pos c1] at h
    by_cases c2 : bt w i < 48
    ·rw [if_pos c2] at h; exact .inl (Option.some.inj h).symm
    ·rw [if_neg c2] at h
     by_cases c3 : bt w i > 57
     ·rw [if_pos c3] at h; exact .inl (Option.some.inj h).symm
     ·rw [if_neg c3] at h; exact ih _ _ v h
   ·rw [if_neg c1] at h; cases h
  ·rw [if_neg c0] at h
   obtain ⟨t, h1, h2⟩ := Option.bind_eq_some_iff.mp h
   by_cases c1 : t.toList = w.toList
   ·rw [if_pos c1] at h2
    obtain rfl := Option.some.inj h2
    refine .inr ⟨k, t, h1, ?_⟩
    rw [ByteArray.toList_eq, ByteArray.toList_eq] at c1
    exact ByteArray.ext (Array.toList_inj.1 c1)
   ·rw [if_neg c1] at h2; exact .inl (Option.some.inj h2).symm
theorem num_part (w : ByteArray) (k : Nat) (v : Int) (h : spec_l1Num.f k w = some v) (h0 : 0 ≤ v) (h1 : v ≤ 999) : w = dec3 v := by
 have j0 : ∀ b, spec_l1Num.j0 k w b = some v → w = dec3 v := fun b hj => by
  cases k with
  | zero => rw [spec_l1Num.j0] at hj; cases hj
  | succ k =>
   rw [spec_l1Num.j0] at hj
   cases b with
   | true => rw [if_pos rfl] at hj; have := Option.some.inj hj; omega
   | false =>
    rw [if_neg (by decide)] at hj
    rcases num_l w k 0 0 v hj with e | ⟨k', t, e1, e2⟩
    ·omega
    ·have := ev_one (g := fun k => spec_l1Plain.f k v) (spec_l1Plain.mono v) (plain_ev v h0 h1) e1
     rw [← e2]; exact this
 unfold spec_l1Num.f at h
 by_cases c : (w.size : Int) = 0
 ·rw [if_pos c] at h; exact j0 _ h
 ·rw [if_neg c] at h; exact j0 _ h
theorem num_step (k : Nat) (w : ByteArray) (n : Int) (i : Nat) (d : Int) (hi : i < w.size) (hs : w.size ≤ 100) (hb : bt w (i : Int) = 48 + d) (d0 : 0 ≤ d) (d1 : d ≤ 9) (n0 : 0 ≤ n) (n1 : n ≤ 100000) :
  spec_l1Num.l0 (k + 1) w n (i : Int) = spec_l1Num.l0 k w (n * 10 + d) ((i + 1 : Nat) : Int) := by
 rw [spec_l1Num.l0, if_pos (by omega), if_pos (by omega), hb, if_neg (by omega), if_neg (by omega), show (48 + d - 48) % 256 = d by omega, Lib.wrap_id (x := n * 10) (by omega) (by omega), Lib.wrap_id (x := n * 10 + d) (by omega) (by omega), w_upR i (by omega)]
theorem num_end (k : Nat) (v : Int) (h0 : 0 ≤ v) (h1 : v ≤ 999) (hk : 3 ≤ k) : spec_l1Num.l0 (k + 1) (dec3 v) v ((dec3 v).size : Int) = some v := by
 have he : spec_l1Plain.f k v = some (dec3 v) := by
  obtain ⟨K, hK⟩ := plain_ev v h0 h1
  have h3 : spec_l1Plain.f 3 v = some (dec3 v) := plain_3 v h0 h1
  exact at_rounds (g := fun k => spec_l1Plain.f k v) (spec_l1Plain.mono v) hk h3
 rw [spec_l1Num.l0, if_neg (by omega), he, Option.bind_some, if_pos rfl]
theorem num_dec (v : Int) (h0 : 0 ≤ v) (h1 : v ≤ 999) (k : Nat) (hk : 9 ≤ k) : spec_l1Num.f k (dec3 v) = some v := by
 obtain ⟨k, rfl⟩ : ∃ m, k = m + 9 := ⟨k - 9, by omega⟩
 have hz := dec3_size v
 unfold spec_l1Num.f
 rw [if_neg (by omega), decide_eq_false (by omega), show k + 9 = (k + 8) + 1 from rfl, spec_l1Num.j0, if_neg (by decide)]
 by_cases c : v > 99
 ·have e : dec3 v = ⟨[dig (v / 100), dig (v / 10 % 10), dig (v % 10)].toArray⟩ := by unfold dec3; rw [if_pos c]
  have hs : (dec3 v).size = 3 := by rw [e]; rfl
  have b0 : bt (dec3 v) ((0 : Nat) : Int) = 48 + v / 100 := by rw [e, bt_lit _ 0 (by simp)]; exact dig_nat _ (by omega) (by omega)
  have b1 : bt (dec3 v) ((1 : Nat) : Int) = 48 + v / 10 % 10 := by rw [e, bt_lit _ 1 (by simp)]; exact dig_nat _ (by omega) (by omega)
  have b2 : bt (dec3 v) ((2 : Nat) : Int) = 48 + v % 10 := by rw [e, bt_lit _ 2 (by simp)]; exact dig_nat _ (by omega) (by omega)
  have s0 := num_step (k + 7) (dec3 v) 0 0 _ (by omega) (by omega) b0 (by omega) (by omega) (by omega) (by omega)
  have s1 := num_step (k + 6) (dec3 v) (0 * 10 + v / 100) 1 _ (by omega) (by omega) b1 (by omega) (by omega) (by omega) (by omega)
  have s2 := num_step (k + 5) (dec3 v) ((0 * 10 + v / 100) * 10 + v / 10 % 10) 2 _ (by omega) (by omega) b2 (by omega) (by omega) (by omega) (by omega)
  have s3 := num_end (k + 4) v h0 h1 (by omega)
  rw [hs] at s3
  rw [show ((0 : Nat) : Int) = 0 from rfl] at s0
  rw [show k + 8 = k + 7 + 1 from rfl, s0, show k + 7 = k + 6 + 1 from rfl, s1, show k + 6 = k + 5 + 1 from rfl, s2, show ((0 * 10 + v / 100) * 10 + v / 10 % 10) * 10 + v % 10 = v by omega, show k + 5 = k + 4 + 1 from rfl]
  exact s3
 ·by_cases c2 : v > 9
  ·have e : dec3 v = ⟨[dig (v / 10), dig (v % 10)].toArray⟩ := by unfold dec3; rw [if_neg c, if_pos c2]
   have hs : (dec3 v).size = 2 := by rw [e]; rfl
   have b0 : bt (dec3 v) ((0 : Nat) : Int) = 48 + v / 10 := by rw [e, bt_lit _ 0 (by simp)]; exact dig_nat _ (by omega) (by omega)
   have b1 : bt (dec3 v) ((1 : Nat) : Int) = 48 + v % 10 := by rw [e, bt_lit _ 1 (by simp)]; exact dig_nat _ (by omega) (by omega)
   have s0 := num_step (k + 7) (dec3 v) 0 0 _ (by omega) (by omega) b0 (by omega) (by omega) (by omega) (by omega)
   have s1 := num_step (k + 6) (dec3 v) (0 * 10 + v / 10) 1 _ (by omega) (by omega) b1 (by omega) (by omega) (by omega) (by omega)
   have s3 := num_end (k + 5) v h0 h1 (by omega)
   rw [hs] at s3
   rw [show ((0 : Nat) : Int) = 0 from rfl] at s0
   rw [show k + 8 = k + 7 + 1 from rfl, s0, show k + 7 = k + 6 + 1 from rfl, s1, show (0 * 10 + v / 10) * 10 + v % 10 = v by omega, show k + 6 = k + 5 + 1 from rfl]
   exact s3
  ·have e : dec3 v = ⟨[dig v].toArray⟩ := by unfold dec3; rw [if_neg c, if_neg c2]
   have hs : (dec3 v).size = 1 := by rw [e]; rfl
   have b0 : bt (dec3 v) ((0 : Nat) : Int) = 48 + v := by rw [e, bt_lit _ 0 (by simp)]; exact dig_nat _ (by omega) (by omega)
   have s0 := num_step (k + 7) (dec3 v) 0 0 _ (by omega) (by omega) b0 (by omega) (by omega) (by omega) (by omega)
   have s3 := num_end (k + 6) v h0 h1 (by omega)
   rw [hs] at s3
   rw [show ((0 : Nat) : Int) = 0 from rfl] at s0
   rw [show k + 8 = k + 7 + 1 from rfl, s0, show 0 * 10 + v = v by omega, show k + 7 = k + 6 + 1 from rfl]
   exact s3
theorem num_dec_part (v : Int) (h0 : 0 ≤ v) (h1 : v ≤ 999) (k : Nat) (r : Int) (h : spec_l1Num.f k (dec3 v) = some r) : r = v :=
 ev_one (g := fun k => spec_l1Num.f k (dec3 v)) (spec_l1Num.mono (dec3 v)) ⟨9, fun k hk => num_dec v h0 h1 k hk⟩ h
/-! EndRead of the reference -/
theorem join_end (s : ByteArray) (j : Nat) (hj : j < s.size) (h32 : bt s (j : Int) = 32) : s = s.extract 0 j ++ (⟨#[32]⟩ : ByteArray) ++ s.extract (j + 1) s.size := by
 have e1 : s.extract j (j + 1) = (⟨#[32]⟩ : ByteArray) := by
  refine Lib.bt_ext _ _ (by rw [ByteArray.size_extract]; show min (j + 1) s.size - j = 1; omega) (fun i hi => ?_)
  rw [ByteArray.size_extract] at hi
  obtain rfl : i = 0 := by omega
  rw [Lib.bt_extract s j (j + 1) 0 (by omega) (by omega), Nat.add_zero, h32]; rfl
 rw [← e1, ext_join s 0 j (j + 1) (Nat.zero_le _) (by omega) (by omega), ext_join s 0 (j + 1) s.size (Nat.zero_le _) (by omega) (Nat.le_refl _)]
 apply ByteArray.ext
 rw [ByteArray.data_extract]
 show s.data = s.data.extract 0 s.data.size
 rw [Array.extract_size]
theorem read_part (s : ByteArray) (hs : s.size ≤ 281474976710656) (k : Nat) (x y : Int) (b : Bool) (h : spec_EndRead.f k s = some (x, y, b)) : Ends.ED s x y b := by
 unfold spec_EndRead.f at h
 obtain ⟨W, h1, h⟩ := Option.bind_eq_some_iff.mp h
 unfold spec_l1Words.f at h1
 have hW := words_part s (by omega) k s.size 0 [] ⟨#[]⟩ W (Nat.zero_add _) h1
 rw [List.nil_append] at hW
 have hend : ∀ a p, Ends.IsEnd s a p → W = [dec3 a, dec3 p] := fun a p he => by
  rw [hW, he.2]; exact wds_end a p he.1
 by_cases c : (W.length : Int) = 2
 ·rw [if_pos c, if_pos (by omega)] at h
  obtain ⟨v1, g1, h⟩ := Option.bind_eq_some_iff.mp h
  rw [if_pos (by omega)] at h
  obtain ⟨v2, g2, h⟩ := Option.bind_eq_some_iff.mp h
  rw [spec_end, Option.bind_some] at h
  obtain ⟨w1, w2, hww⟩ : ∃ w1 w2, W = [w1, w2] := by
   match W, c with
   | [a, b], _ => exact ⟨a, b, rfl⟩
   | [], c => simp at c
   | [a], c => simp at c
   | a :: b :: d :: R, c => simp at c; omega
  rw [hww] at g1 g2
  have g1 : spec_l1Num.f k w1 = some v1 := g1
  have g2 : spec_l1Num.f k w2 = some v2 := g2
  by_cases c2 : endOkP v1 v2
  ·rw [decide_eq_true c2, if_pos rfl] at h
   simp only [Option.some.injEq, Prod.mk.injEq] at h
   obtain ⟨rfl, rfl, rfl⟩ := h
   obtain ⟨a0, a1, p0, p1⟩ := endOk_range c2
   have e1 := num_part w1 k v1 g1 (by omega) (by omega)
   have e2 := num_part w2 k v2 g2 (by omega) (by omega)
   obtain ⟨j, _, hj, h32, f1, f2⟩ := wds_two s s.size 0 ⟨#[]⟩ w1 w2 (Nat.zero_add _) (hW.symm.trans hww)
   rw [nil_app] at f1
   refine .inl ⟨⟨c2, ?_⟩, rfl⟩
   unfold endT
   rw [← e1, ← e2, f1, f2]
   exact join_end s j hj h32
  ·rw [decide_eq_false c2, if_neg (by decide)] at h
   simp only [Option.some.injEq, Prod.mk.injEq] at h
   obtain ⟨rfl, rfl, rfl⟩ := h
   refine .inr ⟨fun a p he => ?_, rfl, rfl, rfl⟩
   have := (hend a p he).symm.trans hww
   simp only [List.cons.injEq, and_true] at this
   obtain ⟨a0, a1, p0, p1⟩ := endOk_range he.1
   rw [← this.1] at g1
   rw [← this.2] at g2
   have e1 := num_dec_part a (by omega) (by omega) k v1 g1
   have e2 := num_dec_part p (by omega) (by omega) k v2 g2
   rw [e1, e2] at c2
   exact c2 he.1
 ·rw [if_neg c] at h
  simp only [Option.some.injEq, Prod.mk.injEq] at h
  obtain ⟨rfl, rfl, rfl⟩ := h
  refine .inr ⟨fun a p he => ?_, rfl, rfl, rfl⟩
  rw [hend a p he] at c
  exact c rfl
theorem ed_one {s : ByteArray} {x y x' y' : Int} {b b' : Bool} (h : Ends.ED s x y b) (h' : Ends.ED s x' y' b') : x' = x ∧ y' = y ∧ b' = b := by
 rcases h with ⟨h1, rfl⟩ | ⟨h1, rfl, rfl, rfl⟩ <;> rcases h' with ⟨g1, rfl⟩ | ⟨g1, rfl, rfl, rfl⟩
 ·have := endT_inj x y x' y' h1.1 g1.1 (h1.2.symm.trans g1.2)
  exact ⟨this.1.symm, this.2.symm, rfl⟩
 ·exact absurd h1 (g1 x y)
 ·exact absurd g1 (h1 x' y')
 ·exact ⟨rfl, rfl, rfl⟩
/-! the text of a port ahead of an end -/
theorem pre_eq (s : ByteArray) : ((s.extract 0 5).toList != ([112, 111, 114, 116, 32] : List UInt8)) = !(Ends.isPre s) := by
 have h : ∀ l p : List UInt8, (l.take p.length == p) = p.isPrefixOf l := by
  intro l p
  induction p generalizing l with
  | nil => cases l <;> rfl
  | cons a p ih =>
   cases l with
   | nil => rfl
   | cons b l =>
    show ((b == a) && (l.take p.length == p)) = ((a == b) && p.isPrefixOf l)
    rw [ih l, show (b == a) = (a == b) from BEq.comm]
 unfold Ends.isPre Go.Lib.hasPrefix
 rw [bne, ByteArray.toList_eq, ByteArray.data_extract, Array.toList_extract, List.extract_eq_take_drop, List.drop_zero, ← h]
 rfl
theorem ext5 (s : ByteArray) (n : Nat) (h : s.size ≤ n) : (s.extract 5 s.size).size ≤ n := by rw [ByteArray.size_extract]; omega
theorem isPre_size {s : ByteArray} (h : Ends.isPre s = true) : 5 ≤ s.size := by
 unfold Ends.isPre Go.Lib.hasPrefix at h
 obtain ⟨r, hr⟩ := List.isPrefixOf_iff_prefix.1 h
 have hlen : s.data.toList.length = s.size := by simp
 rw [← hlen, ← hr]; simp
theorem box_part (s : ByteArray) (hs : s.size ≤ 281474976710656) (k : Nat) (x : Int) (b : Bool) (h : spec_LinBox.f k s = some (x, b)) : Ends.LB s x b := by
 have hno : ∀ {x : Int} {b : Bool}, (∀ p, ¬ Ends.IsPort s 50 p) → some ((0 : Int), false) = some (x, b) → Ends.LB s x b := fun hn e => by
  simp only [Option.some.injEq, Prod.mk.injEq] at e
  obtain ⟨rfl, rfl⟩ := e
  exact .inr ⟨hn, rfl, rfl⟩
 have hj : ∀ t, spec_LinBox.j0 k s t = some (x, b) → (t = false → Ends.isPre s = true) → (t = true → Ends.isPre s = false) → Ends.LB s x b := fun t hj h0 h1 => by
  cases k with
  | zero => rw [spec_LinBox.j0] at hj; cases hj
  | succ k =>
   rw [spec_LinBox.j0] at hj
   cases t with
   | true =>
    rw [if_pos rfl] at hj
    exact hno (fun p hp => by have := ((Ends.isPort_iff s 50 p).1 hp).1; rw [h1 rfl] at this; cases this) hj
   | false =>
    rw [if_neg (by decide)] at hj
    have h5 := isPre_size (h0 rfl)
    rw [if_pos (by omega)] at hj
    obtain ⟨⟨u, v, c⟩, e1, e2⟩ := Option.bind_eq_some_iff.mp hj
    rcases read_part _ (ext5 s _ hs) k u v c e1 with ⟨hi, rfl⟩ | ⟨hn, rfl, rfl, rfl⟩
    ·have hp : Ends.IsPort s u v := (Ends.isPort_iff s u v).2 ⟨h0 rfl, hi⟩
     rw [if_pos rfl] at e2
     by_cases ci : u = 50
     ·rw [if_pos ci] at e2
      simp only [Option.some.injEq, Prod.mk.injEq] at e2
      obtain ⟨rfl, rfl⟩ := e2
      exact .inl ⟨ci ▸ hp, rfl⟩
     ·rw [if_neg ci] at e2
      exact hno (fun p h => ci (Ends.port_one hp h).1) e2
    ·rw [if_neg (by decide)] at e2
     exact hno (fun p hp => hn 50 p ((Ends.isPort_iff s 50 p).1 hp).2) e2
 unfold spec_LinBox.f at h
 by_cases c : (s.size : Int) < 5
 ·rw [if_pos c] at h
  refine hj true h (fun e => by cases e) (fun _ => ?_)
  cases hp : Ends.isPre s with
  | false => rfl
  | true => have := isPre_size hp; omega
 ·rw [if_neg c, if_pos (by omega), if_pos (by omega), pre_eq] at h
  exact hj _ h (fun e => by simpa using e) (fun e => by simpa using e)
theorem lb_one {s : ByteArray} {x x' : Int} {b b' : Bool} (h : Ends.LB s x b) (h' : Ends.LB s x' b') : x' = x ∧ b' = b := by
 rcases h with ⟨h1, rfl⟩ | ⟨h1, rfl, rfl⟩ <;> rcases h' with ⟨g1, rfl⟩ | ⟨g1, rfl, rfl⟩
 ·exact ⟨(Ends.port_one h1 g1).2.symm, rfl⟩
 ·exact absurd h1 (g1 x)
 ·exact absurd g1 (h1 x')
 ·exact ⟨rfl, rfl⟩
theorem impl_LinBox.calls (k : Nat) (a0 : ByteArray) (r1 : Int) (r2 : Bool) (w : World) (h : impl_LinBox.f k a0 = some (r1, r2)) (hL_ : Ends.LErr w) :
  Calls Tryd.prog 25 #[.string a0] w fun e w' => e = .returned (.tuple #[.int .i64 r1, .bool r2]) ∧ Below w.heap.size w w' := by
 unfold impl_LinBox.f at h
 rw [if_pos (by omega)] at h
 by_cases hs : ((a0.size : Int) : Int).toNat ≤ 281474976710656
 ·rw [if_pos hs] at h
  obtain ⟨⟨t1, t3⟩, h1, h2⟩ := Option.bind_eq_some_iff.mp h
  simp only [Option.some.injEq, Prod.mk.injEq] at h2
  obtain ⟨rfl, rfl⟩ := h2
  have hed := box_part a0 (by omega) k t1 t3 h1
  refine (Ends.linbox_calls a0 w (by omega) hL_ okC).mono ?_
  rintro e w' ⟨x, b, h3, rfl, hb⟩
  obtain ⟨rfl, rfl⟩ := lb_one hed h3
  exact ⟨rfl, hb⟩
 ·rw [if_neg hs] at h; cases h

/-! ### impl_MapEnd: function 26 -/
def impl_MapEnd.f (l0_0 : List (S43)) (a1 : Int) : Option (Int × Int × Bool) := if 0 ≤ (l0_0.length : Int) then (if ((l0_0.length : Int) : Int).toNat ≤ 281474976710656 then ((spec_MapEnd.f l0_0 a1).bind fun bt216 => (some (bt216.1, bt216.2.1, bt216.2.2))) else (none)) else (none)
-- BY HAND
theorem ends_of {w : World} {A : Option Addr} {L : List S43} (h : Kd.C k43 w A L.length L) : Ports.Ends w A L.length (fun i => (rd_T43 L (i : Int)).f0) (fun i => (rd_T43 L (i : Int)).f1) := fun i hi => by
 obtain ⟨ad, e, h0, h1⟩ := at_T43 h (i : Int) (by omega) (by omega)
 simp only [Int.toNat_natCast] at h0 h1
 exact ⟨ad, e, h0, h1⟩
theorem impl_MapEnd.calls (A0_0 : Option Addr) (c0_0 : Nat) (l0_0 : List (S43)) (a1 : Int) (r1 : Int) (r2 : Int) (r3 : Bool) (w : World) (hr0_0 : Kd.C k43 w A0_0 l0_0.length l0_0) (hc0_0 : l0_0.length ≤ c0_0) (h : impl_MapEnd.f l0_0 a1 = some (r1, r2, r3)) :
  Calls Tryd.prog 26 #[.agg #[.slice A0_0 l0_0.length c0_0], .int .i64 a1] w fun e w' => e = .returned (.tuple #[.agg #[.int .i64 r1, .int .i64 r2], .bool r3]) ∧ Below w.heap.size w w' := by
 unfold impl_MapEnd.f at h
 rw [if_pos (by omega)] at h
 by_cases hs : ((l0_0.length : Int) : Int).toNat ≤ 281474976710656
 ·rw [if_pos hs] at h
  obtain ⟨⟨t1, t2, t3⟩, h1, h2⟩ := Option.bind_eq_some_iff.mp h
  simp only [Option.some.injEq, Prod.mk.injEq] at h2
  obtain ⟨rfl, rfl, rfl⟩ := h2
  refine Ports.end_calls A0_0 l0_0.length c0_0 _ _ a1 t1 t2 t3 w (by omega) (ends_of hr0_0) fun b w' hm => ?_
  unfold spec_MapEnd.f spec_l1In.f at h1
  have e1 : wrap64 (500 + (l0_0.length : Int)) = 500 + (l0_0.length : Int) := Lib.wrap_id (by omega) (by omega)
  have e2 : wrap64 (500 + (l0_0.length : Int) - 1) = 500 + (l0_0.length : Int) - 1 := Lib.wrap_id (by omega) (by omega)
  rw [e1, e2] at h1
  by_cases c : a1 ≥ 500
  ·rw [if_pos c, Option.bind_some] at h1
   by_cases c2 : a1 ≤ 500 + (l0_0.length : Int) - 1
   ·have e3 : wrap64 (a1 - 500) = a1 - 500 := Lib.wrap_id (by omega) (by omega)
    rw [decide_eq_true c2, if_pos rfl, e3, if_pos (by omega), if_pos (by omega)] at h1
    simp only [Option.some.injEq, Prod.mk.injEq] at h1
    obtain ⟨rfl, rfl, rfl⟩ := h1
    obtain ⟨i, hi⟩ := Int.eq_ofNat_of_zero_le (show 0 ≤ a1 - 500 by omega)
    have ha : a1 = 500 + (i : Int) := by omega
    rw [hi, ha]
    exact Ports.back_hit hm (by omega)
   ·rw [decide_eq_false c2, if_neg (by decide)] at h1
    simp only [Option.some.injEq, Prod.mk.injEq] at h1
    obtain ⟨rfl, rfl, rfl⟩ := h1
    exact Ports.back_miss hm (fun i hi => by omega)
  ·rw [if_neg c, Option.bind_some, if_neg (by decide)] at h1
   simp only [Option.some.injEq, Prod.mk.injEq] at h1
   obtain ⟨rfl, rfl, rfl⟩ := h1
   exact Ports.back_miss hm (fun i hi => by omega)
 ·rw [if_neg hs] at h; cases h

/-! ### impl_LinPort: function 33 -/
def impl_LinPort.f (k : Nat) (a0_0 : Int) (a0_1 : Int) : Option (ByteArray) := if 1 ≤ 281474976710656 then ((spec_LinPort.f k a0_0 a0_1).bind fun t222 => (some t222)) else (none)
theorem impl_LinPort.mono : ∀ a0 a1 k, LeO (impl_LinPort.f k a0 a1) (impl_LinPort.f (k + 1) a0 a1) := by
 intro a0 a1 k
 unfold impl_LinPort.f
 repeat' first
   | (with_reducible exact spec_LinPort.mono _ _ _)
   | (with_reducible exact LeO.refl _)
   | (with_reducible exact LeO.none _)
   | (with_reducible refine LeO.ite ?_ ?_)
   | (with_reducible refine LeO.bind ?_ (fun _ => ?_))
   | exact spec_LinPort.mono _ _ _
   | exact LeO.none _
   | refine LeO.ite ?_ ?_
   | refine LeO.bind ?_ (fun _ => ?_)
-- BY HAND
open Go.Proofs.YtlofgoahgnllkaaDoor.Ends
theorem endtext_ev (a p : Int) (h : endOkP a p) : Ev (fun k => spec_EndText.f k a p) (endT a p) := by
 obtain ⟨K1, e1⟩ := plain_ev a (by unfold endOkP at h; omega) (by unfold endOkP at h; omega)
 obtain ⟨K2, e2⟩ := plain_ev p (by unfold endOkP at h; omega) (by unfold endOkP at h; omega)
 have h1 := dec3_size a
 have h2 := dec3_size p
 refine ⟨K1 + K2, fun k hk => ?_⟩
 dsimp only at e1 e2 ⊢
 unfold spec_EndText.f
 rw [spec_end]; simp only [Option.bind_some, decide_eq_true_eq]
 rw [if_pos h, e1 k (by omega)]; simp only [Option.bind_some]
 rw [if_pos (by omega), e2 k (by omega)]; simp only [Option.bind_some]
 rw [if_pos (by rw [ByteArray.size_append]; show (dec3 a).size + 1 + _ ≤ _; omega)]
 rfl
theorem endtext_no (a p : Int) (h : ¬ endOkP a p) (k : Nat) : spec_EndText.f k a p = some ⟨#[]⟩ := by
 unfold spec_EndText.f
 rw [spec_end]; simp only [Option.bind_some, decide_eq_true_eq]
 rw [if_neg h]
theorem spec_text (a p : Int) (k : Nat) (r : ByteArray) (h : spec_EndText.f k a p = some r) : r = Ends.textV a p := by
 unfold Ends.textV
 by_cases c : endOkP a p
 ·rw [if_pos c]
  exact ev_one (g := fun k => spec_EndText.f k a p) (spec_EndText.mono a p) (endtext_ev a p c) h
 ·rw [if_neg c]
  rw [endtext_no a p c k] at h
  exact (Option.some.inj h).symm
theorem linport_ev (a p : Int) (h : endOkP a p) : Ev (fun k => spec_LinPort.f k a p) (portT a p) := by
 obtain ⟨K1, e1⟩ := endtext_ev a p h
 have h1 := endT_size a p
 refine ⟨K1, fun k hk => ?_⟩
 dsimp only at e1 ⊢
 unfold spec_LinPort.f
 rw [spec_end]; simp only [Option.bind_some, decide_eq_true_eq]
 rw [if_pos h, e1 k (by omega)]; simp only [Option.bind_some]
 rw [if_pos (by omega)]
 rfl
theorem linport_no (a p : Int) (h : ¬ endOkP a p) (k : Nat) : spec_LinPort.f k a p = some ⟨#[]⟩ := by
 unfold spec_LinPort.f
 rw [spec_end]; simp only [Option.bind_some, decide_eq_true_eq]
 rw [if_neg h]
theorem impl_LinPort.calls (k : Nat) (a0_0 : Int) (a0_1 : Int) (r : ByteArray) (w : World) (h : impl_LinPort.f k a0_0 a0_1 = some r) (hL_ : Ends.LTab w) :
  Calls Tryd.prog 33 #[.agg #[.int .i64 a0_0, .int .i64 a0_1]] w fun e w' => e = .returned (.string r) ∧ Below w.heap.size w w' := by
 unfold impl_LinPort.f at h
 rw [if_pos (by omega)] at h
 obtain ⟨t, h1, h2⟩ := Option.bind_eq_some_iff.mp h
 obtain rfl := Option.some.inj h2
 have ht : t = Ends.portV a0_0 a0_1 := by
  unfold Ends.portV
  by_cases c : endOkP a0_0 a0_1
  ·rw [if_pos c]
   exact ev_one (g := fun k => spec_LinPort.f k a0_0 a0_1) (spec_LinPort.mono a0_0 a0_1) (linport_ev a0_0 a0_1 c) h1
  ·rw [if_neg c]
   rw [linport_no a0_0 a0_1 c k] at h1
   exact (Option.some.inj h1).symm
 subst ht
 exact Ends.linport_calls a0_0 a0_1 w hL_ okC

end Go.Proofs.YtlofgoahgnllkaaDoor.QFnBakAgain
