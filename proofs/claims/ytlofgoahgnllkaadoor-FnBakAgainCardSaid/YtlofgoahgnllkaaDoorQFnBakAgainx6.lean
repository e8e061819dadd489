-- Laid by a program of this repo (wip/tools/sprint.py): print.py's functions and walks; the contracts named 'BY HAND' are proved by hand.
import Derived.Test.YtlofgoahgnllkaaDoorQFnBakAgainx0
import Derived.Test.YtlofgoahgnllkaaDoorQFnBakAgainx4
import Derived.Test.YtlofgoahgnllkaaDoorQFnBakAgainx5
namespace Go.Proofs.YtlofgoahgnllkaaDoor.QFnBakAgain
open Go.RowKit Go.Proofs.YtlofgoahgnllkaaDoorW.PrintWords Go.Proofs.YtlofgoahgnllkaaDoorW.PrintLast Go.Proofs.YtlofgoahgnllkaaDoorW.PrintMore
attribute [local go_sem] max2_int min2_int max_two min_two max_three min_three max_four min_four   -- for this text's walks alone
set_option linter.unusedVariables false
set_option linter.unusedSimpArgs false

/-! ### spec_EndRead: function 34 -/
def spec_EndRead.f (k : Nat) (a0 : ByteArray) : Option (Int × Int × Bool) := (spec_l1Words.f k a0).bind fun t148 => (if (t148.length : Int) = 2 then (if 0 < (t148.length : Int) then ((spec_l1Num.f k (rdOf ByteArray.empty t148 0)).bind fun t152 => (if 1 < (t148.length : Int) then ((spec_l1Num.f k (rdOf ByteArray.empty t148 1)).bind fun t154 => ((spec_EndOk.f t152 t154).bind fun t156 => (if t156 = true then (some (t152, t154, true)) else (some (0, 0, false))))) else (none))) else (none)) else (some (0, 0, false)))
theorem spec_EndRead.mono : ∀ a0 k, LeO (spec_EndRead.f k a0) (spec_EndRead.f (k + 1) a0) := by
 intro a0 k
 unfold spec_EndRead.f
 repeat' first
   | (with_reducible exact spec_l1Num.mono _ _)
   | (with_reducible exact spec_l1Words.mono _ _)
   | (with_reducible exact LeO.refl _)
   | (with_reducible exact LeO.none _)
   | (with_reducible refine LeO.ite ?_ ?_)
   | (with_reducible refine LeO.bind ?_ (fun _ => ?_))
   | exact spec_l1Num.mono _ _
   | exact spec_l1Words.mono _ _
   | exact LeO.none _
   | refine LeO.ite ?_ ?_
   | refine LeO.bind ?_ (fun _ => ?_)
def spec_EndRead.T4 : Bool × List (List Nat × List Nat) := (true, [([], []), ([0], [0]), ([1], [1]), ([2], [2]), ([], []), ([4], [4]), ([5], [5]), ([6, 3], [6]), ([3, 7], [3, 7]), ([], []), ([9, 8, 7, 0, 1, 2, 3, 4, 5, 6, 7, 8, 9], [8, 9])])
def spec_EndRead.B4 : List Nat := [0, 1, 3, 7, 0, 16, 48, 127, 255, 0, 1023]
theorem spec_EndRead.tab4 : rtab .any (opsOf Tryd.f34 4) = spec_EndRead.T4 := by kernel_rfl
theorem spec_EndRead.bits4 : waitsOk spec_EndRead.T4.2 spec_EndRead.B4 = true := by kernel_rfl
set_option maxHeartbeats 8000000 in
set_option maxRecDepth 100000 in
theorem spec_EndRead.calls (k : Nat) (a0 : ByteArray) (r1 : Int) (r2 : Int) (r3 : Bool) (w : World) (h : spec_EndRead.f k a0 = some (r1, r2, r3)) :
  Calls Tryd.prog 34 #[.string a0] w fun e w' => e = .returned (.tuple #[.agg #[.int .i64 r1, .int .i64 r2], .bool r3]) ∧ Below w.heap.size w w' := by
 have hu43 := Tryd.underlying43
 have HB := Aside0.mk (Below.refl w.heap.size w)
 have H : ((spec_l1Words.f k a0).bind fun t148 => (if (t148.length : Int) = 2 then (if 0 < (t148.length : Int) then ((spec_l1Num.f k (rdOf ByteArray.empty t148 0)).bind fun t152 => (if 1 < (t148.length : Int) then ((spec_l1Num.f k (rdOf ByteArray.empty t148 1)).bind fun t154 => ((spec_EndOk.f t152 t154).bind fun t156 => (if t156 = true then (some (t152, t154, true)) else (some (0, 0, false))))) else (none))) else (none)) else (some (0, 0, false)))) = some (r1, r2, r3) := h
 clear h
 replace H := Option.bind_eq_some_iff.mp H
 obtain ⟨t148, A20, H⟩ := H
 replace H : (if (t148.length : Int) = 2 then (if 0 < (t148.length : Int) then ((spec_l1Num.f k (rdOf ByteArray.empty t148 0)).bind fun t152 => (if 1 < (t148.length : Int) then ((spec_l1Num.f k (rdOf ByteArray.empty t148 1)).bind fun t154 => ((spec_EndOk.f t152 t154).bind fun t156 => (if t156 = true then (some (t152, t154, true)) else (some (0, 0, false))))) else (none))) else (none)) else (some (0, 0, false))) = some (r1, r2, r3) := H
 have A2 := Aside0.mk A20
 clear A20
 by_cases c3 : (t148.length : Int) = 2
 ·rw [if_pos c3] at H
  have c3b0 : ((t148.length : Int) == 2) = true := beq_iff_eq.mpr c3
  have c3b1 : ((t148.length : Int) != 2) = false := bne_eq_false_iff_eq.mpr c3
  clear c3
  by_cases c4 : 0 < (t148.length : Int)
  ·rw [if_pos c4] at H
   have c4b0 : decide (0 < (t148.length : Int)) = true := decide_eq_true c4
   have c4b1 : decide (0 < t148.length) = true := decide_eq_true (by omega)
   clear c4
   replace H := Option.bind_eq_some_iff.mp H
   obtain ⟨t152, A50, H⟩ := H
   replace H : (if 1 < (t148.length : Int) then ((spec_l1Num.f k (rdOf ByteArray.empty t148 1)).bind fun t154 => ((spec_EndOk.f t152 t154).bind fun t156 => (if t156 = true then (some (t152, t154, true)) else (some (0, 0, false))))) else (none)) = some (r1, r2, r3) := H
   have A5 := Aside0.mk A50
   clear A50
   by_cases c6 : 1 < (t148.length : Int)
   ·rw [if_pos c6] at H
    have c6b0 : decide (1 < (t148.length : Int)) = true := decide_eq_true c6
    have c6b1 : decide (1 < t148.length) = true := decide_eq_true (by omega)
    clear c6
    replace H := Option.bind_eq_some_iff.mp H
    obtain ⟨t154, A70, H⟩ := H
    replace H : ((spec_EndOk.f t152 t154).bind fun t156 => (if t156 = true then (some (t152, t154, true)) else (some (0, 0, false)))) = some (r1, r2, r3) := H
    have A7 := Aside0.mk A70
    clear A70
    replace H := Option.bind_eq_some_iff.mp H
    obtain ⟨t156, A80, H⟩ := H
    replace H : (if t156 = true then (some (t152, t154, true)) else (some (0, 0, false))) = some (r1, r2, r3) := H
    have A8 := Aside0.mk A80
    clear A80
    by_cases c9 : t156 = true
    ·subst c9
     have H1 : (some (t152, t154, true)) = some (r1, r2, r3) := by rw [if_pos rfl] at H; exact H
     clear H
     have H := H1
     clear H1
     simp only [Option.some.injEq, Prod.mk.injEq] at H
     obtain ⟨rfl, rfl, rfl⟩ := H
     go_enter Tryd.func34, Tryd.ntmps34
     try go_wp2_with (first | ((with_reducible refine gate_dst (N := 2) rfl ?_); refine box_event ?hg (N := 2) ?hd (cs := #[.int .i64 0, .int .i64 0]) (t := 43) ?hr ?_; (case hd => rfl); (case hg => rfl); (case hr => first | (go_simp; done) | (go_simp; rfl)); intro gb147 hg w10 hbox hb; have n0_ := Aside0.mk (below_step Z52 hb); have n1_ := Aside0.mk (hbox); have n2_ := Aside0.mk ((Z161 : w.heap.size ≤ gb147)); have n3_ := Aside0.mk ((Z161 : w.heap.size ≤ gb147)); clear HB; have HB := n0_; have BK147 := n1_; have GW147 := n2_; have GE147 := n3_; clear n0_ n1_ n2_ n3_; clear hb hbox hg) | ((with_reducible refine gate_callee (f := 65) rfl ?_); refine goesL_ (some 7) rfl rfl Tryd.func65 (by kernel_rfl) rfl #[.string a0] rfl Z56 ?_; (with_reducible refine (spec_l1Words.calls k a0 t148 _ A2.out).mono ?_); rintro e w11 ⟨v149, rfl, ho0, hb⟩; refine ⟨_, rfl, ?_⟩; have n0_ := Aside0.mk (Kd.R_lower ho0 (below_size Z67)); have n1_ := Aside0.mk (blk_below (g := gb147) (o := .cells #[.int .i64 0, .int .i64 0] 43 (0, 0)) Z21 hb); have n2_ := Aside0.mk (below_step Z67 hb); clear BK147; clear HB; have HO150 := n0_; have BK147 := n1_; have HB := n2_; clear n0_ n1_ n2_; (try clear hb); (try clear ho0); obtain ⟨Ao12, co12, eo12⟩ := Kd.R_slice HO150.out; subst eo12))
     have n0_ := Aside0.mk (Kd.R_drew HO150.out)
     have n1_ := Aside0.mk (blk_drew BK147.out)
     have n2_ := Aside0.mk (below_drew1 HB.out)
     clear HO150
     clear BK147
     clear HB
     have HO150 := n0_
     have BK147 := n1_
     have HB := n2_
     clear n0_ n1_ n2_
     have p151 : 0 ≤ (0 : Int) := (by omega)
     have q151 : 0 < (t148.length : Int) := of_decide_eq_true Z1
     obtain ⟨ad151, e151, hx151_0⟩ := Kd.at_string (Kd.R_reads' HO150.out).2.2 0 p151 q151
     cases e151
     have qi151 : (0 < t148.length) = True := eq_true (by omega)
     (try rw [show ((0 : Int)).toNat = 0 from rfl] at hx151_0)
     (try rw [Addr.add_zero'] at hx151_0)
     replace p151 := eq_true p151
     replace q151 := eq_true q151
     have p153 : 0 ≤ (1 : Int) := (by omega)
     have q153 : 1 < (t148.length : Int) := of_decide_eq_true Z1
     obtain ⟨ad153, e153, hx153_0⟩ := Kd.at_string (Kd.R_reads' HO150.out).2.2 1 p153 q153
     obtain rfl : ad151 = ad153 := (by injection e153)
     (try simp only [show (1 : Int).toNat = 1 from rfl, Nat.reduceMul, Nat.reduceEqDiff, Go.Addr.add, ↓reduceIte] at hx153_0)
     have qi153 : (1 < t148.length) = True := eq_true (by omega)
     (try rw [show ((1 : Int)).toNat = 1 from rfl] at hx153_0)
     replace p153 := eq_true p153
     replace q153 := eq_true q153
     refine start_ (n := 11) (S := fun w' => w'.cell? ad151 = some (.string (rdOf ByteArray.empty t148 0)) ∧ w'.cell? ⟨ad151.block, ad151.off + 1, none⟩ = some (.string (rdOf ByteArray.empty t148 1))) (ds := []) #[false, false, false, false, false, false, false, false, false, false, false] (by kernel_rfl) rfl rfl ⟨hx151_0, hx153_0⟩ (fun hHeld => ?_); refine with_tabW spec_EndRead.tab4 spec_EndRead.bits4 (fun HT_ HW_ => ?_)
     generalize w11.drew = w13 at HO150 BK147 HB hx151_0 hx153_0 hHeld ⊢
     refine pure_ (i := 0) (N := some 12) (v := ?_) (a' := ?_) #[true, false, false, false, false, false, false, false, false, false, false] rfl rfl (any_of HT_.out (by kernel_rfl)) (fun _ _ _ h => h) (Or.inl ⟨by rfl, ?_⟩) ?_ ?_
     rotate_left
     ·intro w'
      go_simp
      with_reducible rfl
     rotate_left
     ·simp only [Act.put, List.setIfInBounds_toArray, List.set_cons_zero, List.set_cons_succ, i64_w, i32_w]
      rfl
     refine pure_ (i := 1) (N := some 13) (v := ?_) (a' := ?_) #[true, true, false, false, false, false, false, false, false, false, false] rfl rfl (any_of HT_.out (by kernel_rfl)) (fun _ _ _ h => h) (Or.inl ⟨by rfl, ?_⟩) ?_ ?_
     rotate_left
     ·intro w'
      go_simp
      with_reducible rfl
     rotate_left
     ·simp only [Act.put, List.setIfInBounds_toArray, List.set_cons_zero, List.set_cons_succ, i64_w, i32_w]
      rfl
     refine pure_ (i := 4) (N := some 16) (v := ?_) (a' := ?_) #[true, true, false, false, true, false, false, false, false, false, false] rfl rfl (any_of HT_.out (by kernel_rfl)) (fun _ _ _ h => h) (Or.inl ⟨by rfl, ?_⟩) ?_ ?_
     rotate_left
     ·intro w'
      go_simp
      with_reducible rfl
     rotate_left
     ·simp only [Act.put, List.setIfInBounds_toArray, List.set_cons_zero, List.set_cons_succ, i64_w, i32_w]
      rfl
     refine pure_ (i := 5) (N := some 17) (v := ?_) (a' := ?_) #[true, true, false, false, true, true, false, false, false, false, false] rfl rfl (any_of HT_.out (by kernel_rfl)) (fun _ _ _ h => h) (Or.inl ⟨by rfl, ?_⟩) ?_ ?_
     rotate_left
     ·intro w'
      go_simp
      with_reducible rfl
     rotate_left
     ·simp only [Act.put, List.setIfInBounds_toArray, List.set_cons_zero, List.set_cons_succ, i64_w, i32_w]
      rfl
     refine take_ (i := 2) (N := some 14) (v := ?_) (a' := ?_) #[true, true, true, false, true, true, false, false, false, false, false] rfl rfl (take_ofW HT_.out HW_.out (by kernel_rfl)) (fun _ _ _ h => h) (Or.inl ⟨by rfl, ?_⟩) hHeld ?_ ?_
     rotate_left
     ·rintro w' ⟨s0, s1⟩
      go_simp
      with_reducible rfl
     rotate_left
     ·simp only [Act.put, List.setIfInBounds_toArray, List.set_cons_zero, List.set_cons_succ, i64_w, i32_w]
      rfl
     refine take_ (i := 6) (N := some 18) (v := ?_) (a' := ?_) #[true, true, true, false, true, true, true, false, false, false, false] rfl rfl (take_ofW HT_.out HW_.out (by kernel_rfl)) (fun _ _ _ h => h) (Or.inl ⟨by rfl, ?_⟩) hHeld ?_ ?_
     rotate_left
     ·rintro w' ⟨s0, s1⟩
      go_simp
      with_reducible rfl
     rotate_left
     ·simp only [Act.put, List.setIfInBounds_toArray, List.set_cons_zero, List.set_cons_succ, i64_w, i32_w]
      rfl
     refine join_ (σ := Nat) 1 #[true, true, true, true, true, true, true, true, true, true, false] (fun s_ => [(15, .int .i64 t152), (19, .int .i64 t154), (5, .pointer (some ⟨s_, 0, none⟩)), (20, .agg #[.int .i64 t152, .int .i64 t154])]) (fun s_ w' => (w'.cell? ad151 = some (.string (rdOf ByteArray.empty t148 0)) ∧ w'.cell? ⟨ad151.block, ad151.off + 1, none⟩ = some (.string (rdOf ByteArray.empty t148 1))) ∧ (Kd.R Kd.string 9 w' w.heap.size (fun _ => True) (.slice (some ad151) t148.length co12) t148) ∧ (w'.heap[gb147]? = some (.cells #[.int .i64 0, .int .i64 0] 43 (0, 0))) ∧ (w'.heap[s_]? = some (.cells #[.int .i64 0, .int .i64 0] 43 (0, 0))) ∧ (w.heap.size ≤ s_) ∧ (w.heap.size ≤ s_) ∧ (gb147 ≠ s_) ∧ (s_ ≠ gb147) ∧ (Below w.heap.size w w')) ?_ ?_
     rotate_left
     ·intro hCont
      refine two_ (i := 3) (j := 9) (Ni := some 15) (Nj := some 5) #[true, true, true, true, true, true, true, false, false, false, false] #[true, true, true, false, true, true, true, false, false, true, false] rfl rfl rfl rfl (two_of HT_.out (by kernel_rfl)) (by decide) (by decide) (fun K hK => ?_) (fun K hK => ?_)
      ·skip
       refine goes_ Tryd.func66 (by kernel_rfl) rfl #[.string (rdOf ByteArray.empty t148 0)] (by rfl) rfl rfl Z56 ?_
       with_reducible refine (spec_l1Num.calls k (rdOf ByteArray.empty t148 0) t152 _ A5.out).mono ?_
       rintro e w14 ⟨rfl, hb⟩
       have HS0_ := (hb.cell (World.block_lt_of_cell? _ _ (hHeld.1))).trans (hHeld.1)
       have HS1_ := (hb.cell (World.block_lt_of_cell? _ _ (hHeld.2))).trans (hHeld.2)
       refine ⟨_, rfl, ?_⟩
       have n0_ := Aside0.mk (Kd.R_below Z3 hb)
       have n1_ := Aside0.mk (blk_below (g := gb147) (o := .cells #[.int .i64 0, .int .i64 0] 43 (0, 0)) Z21 hb)
       have n2_ := Aside0.mk (below_step Z67 hb)
       clear HO150
       clear BK147
       clear HB
       have HO150 := n0_
       have BK147 := n1_
       have HB := n2_
       clear n0_ n1_ n2_
       (try clear hb)
       (try clear hb2)
       (try clear hk)
       (try clear hi)
       refine hK.out _ _ ⟨HS0_, HS1_⟩ (fun hHeld => ?_)
       clear hK K
       refine norm_ (a' := ?_) ?_ ?_
       rotate_left
       ·show Act.put _ (some 15) _ = _
        simp only [Act.put, List.setIfInBounds_toArray, List.set_cons_zero, List.set_cons_succ, i64_w, i32_w]
        rfl
       refine two_ (i := 7) (j := 9) (Ni := some 19) (Nj := some 5) #[true, true, true, true, true, true, true, true, false, false, false] #[true, true, true, true, true, true, true, false, false, true, false] rfl rfl rfl rfl (two_of HT_.out (by kernel_rfl)) (by decide) (by decide) (fun K hK => ?_) (fun K hK => ?_)
       ·skip
        refine goes_ Tryd.func66 (by kernel_rfl) rfl #[.string (rdOf ByteArray.empty t148 1)] (by rfl) rfl rfl Z56 ?_
        with_reducible refine (spec_l1Num.calls k (rdOf ByteArray.empty t148 1) t154 _ A7.out).mono ?_
        rintro e w15 ⟨rfl, hb⟩
        have HS0_ := (hb.cell (World.block_lt_of_cell? _ _ (hHeld.1))).trans (hHeld.1)
        have HS1_ := (hb.cell (World.block_lt_of_cell? _ _ (hHeld.2))).trans (hHeld.2)
        refine ⟨_, rfl, ?_⟩
        have n0_ := Aside0.mk (Kd.R_below Z3 hb)
        have n1_ := Aside0.mk (blk_below (g := gb147) (o := .cells #[.int .i64 0, .int .i64 0] 43 (0, 0)) Z21 hb)
        have n2_ := Aside0.mk (below_step Z67 hb)
        clear HO150
        clear BK147
        clear HB
        have HO150 := n0_
        have BK147 := n1_
        have HB := n2_
        clear n0_ n1_ n2_
        (try clear hb)
        (try clear hb2)
        (try clear hk)
        (try clear hi)
        refine hK.out _ _ ⟨HS0_, HS1_⟩ (fun hHeld => ?_)
        clear hK K
        refine norm_ (a' := ?_) ?_ ?_
        rotate_left
        ·show Act.put _ (some 19) _ = _
         simp only [Act.put, List.setIfInBounds_toArray, List.set_cons_zero, List.set_cons_succ, i64_w, i32_w]
         rfl
        refine pure_ (i := 8) (N := some 20) (v := ?_) (a' := ?_) #[true, true, true, true, true, true, true, true, true, false, false] rfl rfl (any_of HT_.out (by kernel_rfl)) (fun _ _ _ h => h) (Or.inl ⟨by rfl, ?_⟩) ?_ ?_
        rotate_left
        ·intro w'
         go_simp
         with_reducible rfl
        rotate_left
        ·simp only [Act.put, List.setIfInBounds_toArray, List.set_cons_zero, List.set_cons_succ, i64_w, i32_w]
         rfl
        refine one_ (i := 9) (N := some 5) #[true, true, true, true, true, true, true, true, true, true, false] rfl rfl (one_of HT_.out (by kernel_rfl)) (by decide) (fun K hK => ?_)
        refine box_step ?hg (N := 5) ?hd (cs := #[.int .i64 0, .int .i64 0]) (t := 43) ?hr ?_; (case hd => rfl); (case hg => rfl); (case hr => first | (go_simp; done) | (go_simp; rfl))
        intro gb155 hg w16 hbox hb
        have HS0_ := (hb.cell (World.block_lt_of_cell? _ _ (hHeld.1))).trans (hHeld.1)
        have HS1_ := (hb.cell (World.block_lt_of_cell? _ _ (hHeld.2))).trans (hHeld.2)
        have n0_ := Aside0.mk (Kd.R_below Z3 hb)
        have n1_ := Aside0.mk (blk_below (g := gb147) (o := .cells #[.int .i64 0, .int .i64 0] 43 (0, 0)) Z21 hb)
        have n2_ := Aside0.mk (below_step Z67 hb)
        have n3_ := Aside0.mk (hbox)
        have n4_ := Aside0.mk ((Z163 : w.heap.size ≤ gb155))
        have n5_ := Aside0.mk ((Z163 : w.heap.size ≤ gb155))
        have n6_ := Aside0.mk ((Z169 : gb147 ≠ gb155))
        have n7_ := Aside0.mk ((Z170 : gb155 ≠ gb147))
        clear HO150
        clear BK147
        clear HB
        have HO150 := n0_
        have BK147 := n1_
        have HB := n2_
        have BK155 := n3_
        have GW155 := n4_
        have GE155 := n5_
        have NB147_155 := n6_
        have NB155_147 := n7_
        clear n0_ n1_ n2_ n3_ n4_ n5_ n6_ n7_
        clear hb hbox hg
        refine hK.out _ _ ⟨HS0_, HS1_⟩ (fun hHeld => ?_)
        clear hK K
        refine norm_ (a' := ?_) ?_ ?_
        rotate_left
        ·show Act.put _ (some 5) _ = _
         simp only [Act.put, List.setIfInBounds_toArray, List.set_cons_zero, List.set_cons_succ, i64_w, i32_w]
         rfl
        exact norm_ Z2 (hCont (gb155) _ ⟨hHeld, Z3, Z21, Z22, GW155.out, GE155.out, NB147_155.out, NB155_147.out, Z103⟩)
       ·skip
        refine box_step ?hg (N := 5) ?hd (cs := #[.int .i64 0, .int .i64 0]) (t := 43) ?hr ?_; (case hd => rfl); (case hg => rfl); (case hr => first | (go_simp; done) | (go_simp; rfl))
        intro gb155 hg w15 hbox hb
        have HS0_ := (hb.cell (World.block_lt_of_cell? _ _ (hHeld.1))).trans (hHeld.1)
        have HS1_ := (hb.cell (World.block_lt_of_cell? _ _ (hHeld.2))).trans (hHeld.2)
        have n0_ := Aside0.mk (Kd.R_below Z3 hb)
        have n1_ := Aside0.mk (blk_below (g := gb147) (o := .cells #[.int .i64 0, .int .i64 0] 43 (0, 0)) Z21 hb)
        have n2_ := Aside0.mk (below_step Z67 hb)
        have n3_ := Aside0.mk (hbox)
        have n4_ := Aside0.mk ((Z163 : w.heap.size ≤ gb155))
        have n5_ := Aside0.mk ((Z163 : w.heap.size ≤ gb155))
        have n6_ := Aside0.mk ((Z169 : gb147 ≠ gb155))
        have n7_ := Aside0.mk ((Z170 : gb155 ≠ gb147))
        clear HO150
        clear BK147
        clear HB
        have HO150 := n0_
        have BK147 := n1_
        have HB := n2_
        have BK155 := n3_
        have GW155 := n4_
        have GE155 := n5_
        have NB147_155 := n6_
        have NB155_147 := n7_
        clear n0_ n1_ n2_ n3_ n4_ n5_ n6_ n7_
        clear hb hbox hg
        refine hK.out _ _ ⟨HS0_, HS1_⟩ (fun hHeld => ?_)
        clear hK K
        refine norm_ (a' := ?_) ?_ ?_
        rotate_left
        ·show Act.put _ (some 5) _ = _
         simp only [Act.put, List.setIfInBounds_toArray, List.set_cons_zero, List.set_cons_succ, i64_w, i32_w]
         rfl
        refine one_ (i := 7) (N := some 19) #[true, true, true, true, true, true, true, true, false, true, false] rfl rfl (one_of HT_.out (by kernel_rfl)) (by decide) (fun K hK => ?_)
        refine goes_ Tryd.func66 (by kernel_rfl) rfl #[.string (rdOf ByteArray.empty t148 1)] (by rfl) rfl rfl Z56 ?_
        with_reducible refine (spec_l1Num.calls k (rdOf ByteArray.empty t148 1) t154 _ A7.out).mono ?_
        rintro e w16 ⟨rfl, hb⟩
        have HS0_ := (hb.cell (World.block_lt_of_cell? _ _ (hHeld.1))).trans (hHeld.1)
        have HS1_ := (hb.cell (World.block_lt_of_cell? _ _ (hHeld.2))).trans (hHeld.2)
        refine ⟨_, rfl, ?_⟩
        have n0_ := Aside0.mk (Kd.R_below Z3 hb)
        have n1_ := Aside0.mk (blk_below (g := gb147) (o := .cells #[.int .i64 0, .int .i64 0] 43 (0, 0)) Z21 hb)
        have n2_ := Aside0.mk (blk_below (g := gb155) (o := .cells #[.int .i64 0, .int .i64 0] 43 (0, 0)) Z22 hb)
        have n3_ := Aside0.mk (below_step Z103 hb)
        clear HO150
        clear BK147
        clear BK155
        clear HB
        have HO150 := n0_
        have BK147 := n1_
        have BK155 := n2_
        have HB := n3_
        clear n0_ n1_ n2_ n3_
        (try clear hb)
        (try clear hb2)
        (try clear hk)
        (try clear hi)
        refine hK.out _ _ ⟨HS0_, HS1_⟩ (fun hHeld => ?_)
        clear hK K
        refine norm_ (a' := ?_) ?_ ?_
        rotate_left
        ·show Act.put _ (some 19) _ = _
         simp only [Act.put, List.setIfInBounds_toArray, List.set_cons_zero, List.set_cons_succ, i64_w, i32_w]
         rfl
        refine pure_ (i := 8) (N := some 20) (v := ?_) (a' := ?_) #[true, true, true, true, true, true, true, true, true, true, false] rfl rfl (any_of HT_.out (by kernel_rfl)) (fun _ _ _ h => h) (Or.inl ⟨by rfl, ?_⟩) ?_ ?_
        rotate_left
        ·intro w'
         go_simp
         with_reducible rfl
        rotate_left
        ·simp only [Act.put, List.setIfInBounds_toArray, List.set_cons_zero, List.set_cons_succ, i64_w, i32_w]
         rfl
        exact norm_ Z2 (hCont (gb155) _ ⟨hHeld, Z3, Z21, Z22, GW155.out, GE155.out, NB147_155.out, NB155_147.out, Z103⟩)
      ·skip
       refine box_step ?hg (N := 5) ?hd (cs := #[.int .i64 0, .int .i64 0]) (t := 43) ?hr ?_; (case hd => rfl); (case hg => rfl); (case hr => first | (go_simp; done) | (go_simp; rfl))
       intro gb155 hg w14 hbox hb
       have HS0_ := (hb.cell (World.block_lt_of_cell? _ _ (hHeld.1))).trans (hHeld.1)
       have HS1_ := (hb.cell (World.block_lt_of_cell? _ _ (hHeld.2))).trans (hHeld.2)
       have n0_ := Aside0.mk (Kd.R_below Z3 hb)
       have n1_ := Aside0.mk (blk_below (g := gb147) (o := .cells #[.int .i64 0, .int .i64 0] 43 (0, 0)) Z21 hb)
       have n2_ := Aside0.mk (below_step Z67 hb)
       have n3_ := Aside0.mk (hbox)
       have n4_ := Aside0.mk ((Z163 : w.heap.size ≤ gb155))
       have n5_ := Aside0.mk ((Z163 : w.heap.size ≤ gb155))
       have n6_ := Aside0.mk ((Z169 : gb147 ≠ gb155))
       have n7_ := Aside0.mk ((Z170 : gb155 ≠ gb147))
       clear HO150
       clear BK147
       clear HB
       have HO150 := n0_
       have BK147 := n1_
       have HB := n2_
       have BK155 := n3_
       have GW155 := n4_
       have GE155 := n5_
       have NB147_155 := n6_
       have NB155_147 := n7_
       clear n0_ n1_ n2_ n3_ n4_ n5_ n6_ n7_
       clear hb hbox hg
       refine hK.out _ _ ⟨HS0_, HS1_⟩ (fun hHeld => ?_)
       clear hK K
       refine norm_ (a' := ?_) ?_ ?_
       rotate_left
       ·show Act.put _ (some 5) _ = _
        simp only [Act.put, List.setIfInBounds_toArray, List.set_cons_zero, List.set_cons_succ, i64_w, i32_w]
        rfl
       refine one_ (i := 3) (N := some 15) #[true, true, true, true, true, true, true, false, false, true, false] rfl rfl (one_of HT_.out (by kernel_rfl)) (by decide) (fun K hK => ?_)
       refine goes_ Tryd.func66 (by kernel_rfl) rfl #[.string (rdOf ByteArray.empty t148 0)] (by rfl) rfl rfl Z56 ?_
       with_reducible refine (spec_l1Num.calls k (rdOf ByteArray.empty t148 0) t152 _ A5.out).mono ?_
       rintro e w15 ⟨rfl, hb⟩
       have HS0_ := (hb.cell (World.block_lt_of_cell? _ _ (hHeld.1))).trans (hHeld.1)
       have HS1_ := (hb.cell (World.block_lt_of_cell? _ _ (hHeld.2))).trans (hHeld.2)
       refine ⟨_, rfl, ?_⟩
       have n0_ := Aside0.mk (Kd.R_below Z3 hb)
       have n1_ := Aside0.mk (blk_below (g := gb147) (o := .cells #[.int .i64 0, .int .i64 0] 43 (0, 0)) Z21 hb)
       have n2_ := Aside0.mk (blk_below (g := gb155) (o := .cells #[.int .i64 0, .int .i64 0] 43 (0, 0)) Z22 hb)
       have n3_ := Aside0.mk (below_step Z103 hb)
       clear HO150
       clear BK147
       clear BK155
       clear HB
       have HO150 := n0_
       have BK147 := n1_
       have BK155 := n2_
       have HB := n3_
       clear n0_ n1_ n2_ n3_
       (try clear hb)
       (try clear hb2)
       (try clear hk)
       (try clear hi)
       refine hK.out _ _ ⟨HS0_, HS1_⟩ (fun hHeld => ?_)
       clear hK K
       refine norm_ (a' := ?_) ?_ ?_
       rotate_left
       ·show Act.put _ (some 15) _ = _
        simp only [Act.put, List.setIfInBounds_toArray, List.set_cons_zero, List.set_cons_succ, i64_w, i32_w]
        rfl
       refine one_ (i := 7) (N := some 19) #[true, true, true, true, true, true, true, true, false, true, false] rfl rfl (one_of HT_.out (by kernel_rfl)) (by decide) (fun K hK => ?_)
       refine goes_ Tryd.func66 (by kernel_rfl) rfl #[.string (rdOf ByteArray.empty t148 1)] (by rfl) rfl rfl Z56 ?_
       with_reducible refine (spec_l1Num.calls k (rdOf ByteArray.empty t148 1) t154 _ A7.out).mono ?_
       rintro e w16 ⟨rfl, hb⟩
       have HS0_ := (hb.cell (World.block_lt_of_cell? _ _ (hHeld.1))).trans (hHeld.1)
       have HS1_ := (hb.cell (World.block_lt_of_cell? _ _ (hHeld.2))).trans (hHeld.2)
       refine ⟨_, rfl, ?_⟩
       have n0_ := Aside0.mk (Kd.R_below Z3 hb)
       have n1_ := Aside0.mk (blk_below (g := gb147) (o := .cells #[.int .i64 0, .int .i64 0] 43 (0, 0)) Z21 hb)
       have n2_ := Aside0.mk (blk_below (g := gb155) (o := .cells #[.int .i64 0, .int .i64 0] 43 (0, 0)) Z22 hb)
       have n3_ := Aside0.mk (below_step Z103 hb)
       clear HO150
       clear BK147
       clear BK155
       clear HB
       have HO150 := n0_
       have BK147 := n1_
       have BK155 := n2_
       have HB := n3_
       clear n0_ n1_ n2_ n3_
       (try clear hb)
       (try clear hb2)
       (try clear hk)
       (try clear hi)
       refine hK.out _ _ ⟨HS0_, HS1_⟩ (fun hHeld => ?_)
       clear hK K
       refine norm_ (a' := ?_) ?_ ?_
       rotate_left
       ·show Act.put _ (some 19) _ = _
        simp only [Act.put, List.setIfInBounds_toArray, List.set_cons_zero, List.set_cons_succ, i64_w, i32_w]
        rfl
       refine pure_ (i := 8) (N := some 20) (v := ?_) (a' := ?_) #[true, true, true, true, true, true, true, true, true, true, false] rfl rfl (any_of HT_.out (by kernel_rfl)) (fun _ _ _ h => h) (Or.inl ⟨by rfl, ?_⟩) ?_ ?_
       rotate_left
       ·intro w'
        go_simp
        with_reducible rfl
       rotate_left
       ·simp only [Act.put, List.setIfInBounds_toArray, List.set_cons_zero, List.set_cons_succ, i64_w, i32_w]
        rfl
       exact norm_ Z2 (hCont (gb155) _ ⟨hHeld, Z3, Z21, Z22, GW155.out, GE155.out, NB147_155.out, NB155_147.out, Z103⟩)
     rintro gb155 w17 ⟨hS_, h0_, h1_, h2_, h3_, h4_, h5_, h6_, h7_⟩
     have n0_ : Aside0 (Kd.R Kd.string 9 w17 w.heap.size (fun _ => True) (.slice (some ad151) t148.length co12) t148) := ⟨h0_⟩
     have n1_ : Aside0 (w17.heap[gb147]? = some (.cells #[.int .i64 0, .int .i64 0] 43 (0, 0))) := ⟨h1_⟩
     have n2_ : Aside0 (w17.heap[gb155]? = some (.cells #[.int .i64 0, .int .i64 0] 43 (0, 0))) := ⟨h2_⟩
     have n3_ : Aside0 (w.heap.size ≤ gb155) := ⟨h3_⟩
     have n4_ : Aside0 (w.heap.size ≤ gb155) := ⟨h4_⟩
     have n5_ : Aside0 (gb147 ≠ gb155) := ⟨h5_⟩
     have n6_ : Aside0 (gb155 ≠ gb147) := ⟨h6_⟩
     have n7_ : Aside0 (Below w.heap.size w w17) := ⟨h7_⟩
     clear HO150
     clear BK147
     clear HB
     clear h0_ h1_ h2_ h3_ h4_ h5_ h6_ h7_
     have HO150 := n0_
     have BK147 := n1_
     have BK155 := n2_
     have GW155 := n3_
     have GE155 := n4_
     have NB147_155 := n5_
     have NB155_147 := n6_
     have HB := n7_
     clear n0_ n1_ n2_ n3_ n4_ n5_ n6_ n7_
     have hHeld : w17.cell? ad151 = some (.string (rdOf ByteArray.empty t148 0)) ∧ w17.cell? ⟨ad151.block, ad151.off + 1, none⟩ = some (.string (rdOf ByteArray.empty t148 1)) := hS_
     refine norm_ (a' := ?_) ?_ ?_
     rotate_left
     ·simp only [putAll, Act.put, List.setIfInBounds_toArray, List.set_cons_zero, List.set_cons_succ]
      rfl
     refine one_ (i := 10) (N := none) #[true, true, true, true, true, true, true, true, true, true, true] rfl rfl (one_of HT_.out (by kernel_rfl)) (by decide) (fun K hK => ?_)
     have hs18 : w17.cell? ⟨gb155, 0, none⟩ = some (.int .i64 0) := (blk_cell BK155.out 0).trans rfl
     have hfs18 := blk_frozen BK155.out 0
     have hns18_0 := NB147_155.out
     have hms18_0 := NB155_147.out
     have hs19 : w17.cell? ⟨gb155, 1, none⟩ = some (.int .i64 0) := (blk_cell BK155.out 1).trans rfl
     have hfs19 := blk_frozen BK155.out 1
     have hns19_0 := NB147_155.out
     have hms19_0 := NB155_147.out
     refine skip_ (w1 := ?_) (by rfl) rfl ?_ ?_
     rotate_left
     ·go_simp
      rfl
     refine hK.out _ _ ⟨((cell_far (p := ⟨gb155, _, none⟩) Z155 _).trans (((cell_far (p := ⟨gb155, _, none⟩) Z155 _).trans (hHeld.1)))), ((cell_far (p := ⟨gb155, _, none⟩) Z155 _).trans (((cell_far (p := ⟨gb155, _, none⟩) Z155 _).trans (hHeld.2))))⟩ (fun hHeld => ?_)
     clear hK K
     refine done_ (done_of HT_.out (by kernel_rfl)) ?_
     have hnb20 := NB155_147.out
     have hnc20 := NB147_155.out
     have hcz21_0 : w17.cell? ⟨gb155, 0, none⟩ = some (.int .i64 0) := (blk_cell BK155.out 0).trans rfl
     have hcz21_1 : w17.cell? ⟨gb155, 1, none⟩ = some (.int .i64 0) := (blk_cell BK155.out 1).trans rfl
     have hfz21_0 := blk_frozen BK155.out 0
     have hfz21_1 := blk_frozen BK155.out 1
     try go_wp2_with (first | ((with_reducible refine gate_callee (f := 40) rfl ?_); refine goesL_ (some 22) rfl rfl Tryd.func40 (by kernel_rfl) rfl #[.agg #[.int .i64 t152, .int .i64 t154]] rfl Z56 ?_; (with_reducible refine (spec_EndOk.calls t152 t154 true _ A8.out).mono ?_); rintro e w22 ⟨rfl, hb⟩; refine ⟨_, rfl, ?_⟩; have n0_ := Aside0.mk (Kd.R_below Z154 hb); have n1_ := Aside0.mk (blk_below (g := gb147) (o := .cells #[.int .i64 0, .int .i64 0] 43 (0, 0)) Z157 hb); have n2_ := Aside0.mk (blk_below (g := gb155) (o := .cells #[.int .i64 t152, .int .i64 t154] 43 (0, 0)) Z160 hb); have n3_ := Aside0.mk (below_step Z103 hb); clear HO150; clear BK147; clear BK155; clear HB; have HO150 := n0_; have BK147 := n1_; have BK155 := n2_; have HB := n3_; clear n0_ n1_ n2_ n3_; (try clear hb); have hcz23_0 : w22.cell? ⟨gb155, 0, none⟩ = some (.int .i64 t152) := (blk_cell BK155.out 0).trans rfl; have hcz23_1 : w22.cell? ⟨gb155, 1, none⟩ = some (.int .i64 t154) := (blk_cell BK155.out 1).trans rfl; have hfz23_0 := blk_frozen BK155.out 0; have hfz23_1 := blk_frozen BK155.out 1; have hcz24_0 : w22.cell? ⟨gb147, 0, none⟩ = some (.int .i64 0) := (blk_cell BK147.out 0).trans rfl; have hcz24_1 : w22.cell? ⟨gb147, 1, none⟩ = some (.int .i64 0) := (blk_cell BK147.out 1).trans rfl; have hfz24_0 := blk_frozen BK147.out 0; have hfz24_1 := blk_frozen BK147.out 1))
     refine bodyPost_ret (results_ct rfl _ _ gb147 43 #[.int .i64 t152, .int .i64 t154] (0, 0) _ rfl (by (with_reducible repeat (first | refine blk_drewN ?_ _ | refine blk_drew ?_ | refine blk_alloc ?_ _)); refine blk_put (cs := #[.int .i64 t152, .int .i64 0]) ?_ 1 _ rfl; (with_reducible repeat (first | refine blk_drewN ?_ _ | refine blk_drew ?_ | refine blk_alloc ?_ _)); refine blk_put (cs := #[.int .i64 0, .int .i64 0]) ?_ 0 _ rfl; (with_reducible repeat (first | refine blk_drewN ?_ _ | refine blk_drew ?_ | refine blk_alloc ?_ _)); exact BK147.out) Tryd.underlying43 rfl (by kernel_rfl)) rfl ?_
     exact ⟨by first | rfl | (simp [errW_none, errW_some] <;> rfl) | (simp [*, errW_none, errW_some] <;> rfl), by repeat (first | (with_reducible first | exact HB.out | apply below_alloc | apply pw_below_drewN | apply below_drew1 | refine below_set ?_ GE147.out | refine below_set ?_ GE155.out) | exact HB.out)⟩
    ·replace c9 := Bool.eq_false_iff.mpr c9
     subst c9
     have H1 : (some (0, 0, false)) = some (r1, r2, r3) := by rw [if_neg (show ¬ (false = true) by decide)] at H; exact H
     clear H
     have H := H1
     clear H1
     simp only [Option.some.injEq, Prod.mk.injEq] at H
     obtain ⟨rfl, rfl, rfl⟩ := H
     go_enter Tryd.func34, Tryd.ntmps34
     try go_wp2_with (first | ((with_reducible refine gate_dst (N := 2) rfl ?_); refine box_event ?hg (N := 2) ?hd (cs := #[.int .i64 0, .int .i64 0]) (t := 43) ?hr ?_; (case hd => rfl); (case hg => rfl); (case hr => first | (go_simp; done) | (go_simp; rfl)); intro gb147 hg w25 hbox hb; have n0_ := Aside0.mk (below_step Z52 hb); have n1_ := Aside0.mk (hbox); have n2_ := Aside0.mk ((Z161 : w.heap.size ≤ gb147)); have n3_ := Aside0.mk ((Z161 : w.heap.size ≤ gb147)); clear HB; have HB := n0_; have BK147 := n1_; have GW147 := n2_; have GE147 := n3_; clear n0_ n1_ n2_ n3_; clear hb hbox hg) | ((with_reducible refine gate_callee (f := 65) rfl ?_); refine goesL_ (some 7) rfl rfl Tryd.func65 (by kernel_rfl) rfl #[.string a0] rfl Z56 ?_; (with_reducible refine (spec_l1Words.calls k a0 t148 _ A2.out).mono ?_); rintro e w26 ⟨v149, rfl, ho0, hb⟩; refine ⟨_, rfl, ?_⟩; have n0_ := Aside0.mk (Kd.R_lower ho0 (below_size Z67)); have n1_ := Aside0.mk (blk_below (g := gb147) (o := .cells #[.int .i64 0, .int .i64 0] 43 (0, 0)) Z21 hb); have n2_ := Aside0.mk (below_step Z67 hb); clear BK147; clear HB; have HO150 := n0_; have BK147 := n1_; have HB := n2_; clear n0_ n1_ n2_; (try clear hb); (try clear ho0); obtain ⟨Ao27, co27, eo27⟩ := Kd.R_slice HO150.out; subst eo27))
     have n0_ := Aside0.mk (Kd.R_drew HO150.out)
     have n1_ := Aside0.mk (blk_drew BK147.out)
     have n2_ := Aside0.mk (below_drew1 HB.out)
     clear HO150
     clear BK147
     clear HB
     have HO150 := n0_
     have BK147 := n1_
     have HB := n2_
     clear n0_ n1_ n2_
     have p151 : 0 ≤ (0 : Int) := (by omega)
     have q151 : 0 < (t148.length : Int) := of_decide_eq_true Z1
     obtain ⟨ad151, e151, hx151_0⟩ := Kd.at_string (Kd.R_reads' HO150.out).2.2 0 p151 q151
     cases e151
     have qi151 : (0 < t148.length) = True := eq_true (by omega)
     (try rw [show ((0 : Int)).toNat = 0 from rfl] at hx151_0)
     (try rw [Addr.add_zero'] at hx151_0)
     replace p151 := eq_true p151
     replace q151 := eq_true q151
     have p153 : 0 ≤ (1 : Int) := (by omega)
     have q153 : 1 < (t148.length : Int) := of_decide_eq_true Z1
     obtain ⟨ad153, e153, hx153_0⟩ := Kd.at_string (Kd.R_reads' HO150.out).2.2 1 p153 q153
     obtain rfl : ad151 = ad153 := (by injection e153)
     (try simp only [show (1 : Int).toNat = 1 from rfl, Nat.reduceMul, Nat.reduceEqDiff, Go.Addr.add, ↓reduceIte] at hx153_0)
     have qi153 : (1 < t148.length) = True := eq_true (by omega)
     (try rw [show ((1 : Int)).toNat = 1 from rfl] at hx153_0)
     replace p153 := eq_true p153
     replace q153 := eq_true q153
     refine start_ (n := 11) (S := fun w' => w'.cell? ad151 = some (.string (rdOf ByteArray.empty t148 0)) ∧ w'.cell? ⟨ad151.block, ad151.off + 1, none⟩ = some (.string (rdOf ByteArray.empty t148 1))) (ds := []) #[false, false, false, false, false, false, false, false, false, false, false] (by kernel_rfl) rfl rfl ⟨hx151_0, hx153_0⟩ (fun hHeld => ?_); refine with_tabW spec_EndRead.tab4 spec_EndRead.bits4 (fun HT_ HW_ => ?_)
     generalize w26.drew = w28 at HO150 BK147 HB hx151_0 hx153_0 hHeld ⊢
     refine pure_ (i := 0) (N := some 12) (v := ?_) (a' := ?_) #[true, false, false, false, false, false, false, false, false, false, false] rfl rfl (any_of HT_.out (by kernel_rfl)) (fun _ _ _ h => h) (Or.inl ⟨by rfl, ?_⟩) ?_ ?_
     rotate_left
     ·intro w'
      go_simp
      with_reducible rfl
     rotate_left
     ·simp only [Act.put, List.setIfInBounds_toArray, List.set_cons_zero, List.set_cons_succ, i64_w, i32_w]
      rfl
     refine pure_ (i := 1) (N := some 13) (v := ?_) (a' := ?_) #[true, true, false, false, false, false, false, false, false, false, false] rfl rfl (any_of HT_.out (by kernel_rfl)) (fun _ _ _ h => h) (Or.inl ⟨by rfl, ?_⟩) ?_ ?_
     rotate_left
     ·intro w'
      go_simp
      with_reducible rfl
     rotate_left
     ·simp only [Act.put, List.setIfInBounds_toArray, List.set_cons_zero, List.set_cons_succ, i64_w, i32_w]
      rfl
     refine pure_ (i := 4) (N := some 16) (v := ?_) (a' := ?_) #[true, true, false, false, true, false, false, false, false, false, false] rfl rfl (any_of HT_.out (by kernel_rfl)) (fun _ _ _ h => h) (Or.inl ⟨by rfl, ?_⟩) ?_ ?_
     rotate_left
     ·intro w'
      go_simp
      with_reducible rfl
     rotate_left
     ·simp only [Act.put, List.setIfInBounds_toArray, List.set_cons_zero, List.set_cons_succ, i64_w, i32_w]
      rfl
     refine pure_ (i := 5) (N := some 17) (v := ?_) (a' := ?_) #[true, true, false, false, true, true, false, false, false, false, false] rfl rfl (any_of HT_.out (by kernel_rfl)) (fun _ _ _ h => h) (Or.inl ⟨by rfl, ?_⟩) ?_ ?_
     rotate_left
     ·intro w'
      go_simp
      with_reducible rfl
     rotate_left
     ·simp only [Act.put, List.setIfInBounds_toArray, List.set_cons_zero, List.set_cons_succ, i64_w, i32_w]
      rfl
     refine take_ (i := 2) (N := some 14) (v := ?_) (a' := ?_) #[true, true, true, false, true, true, false, false, false, false, false] rfl rfl (take_ofW HT_.out HW_.out (by kernel_rfl)) (fun _ _ _ h => h) (Or.inl ⟨by rfl, ?_⟩) hHeld ?_ ?_
     rotate_left
     ·rintro w' ⟨s0, s1⟩
      go_simp
      with_reducible rfl
     rotate_left
     ·simp only [Act.put, List.setIfInBounds_toArray, List.set_cons_zero, List.set_cons_succ, i64_w, i32_w]
      rfl
     refine take_ (i := 6) (N := some 18) (v := ?_) (a' := ?_) #[true, true, true, false, true, true, true, false, false, false, false] rfl rfl (take_ofW HT_.out HW_.out (by kernel_rfl)) (fun _ _ _ h => h) (Or.inl ⟨by rfl, ?_⟩) hHeld ?_ ?_
     rotate_left
     ·rintro w' ⟨s0, s1⟩
      go_simp
      with_reducible rfl
     rotate_left
     ·simp only [Act.put, List.setIfInBounds_toArray, List.set_cons_zero, List.set_cons_succ, i64_w, i32_w]
      rfl
     refine join_ (σ := Nat) 1 #[true, true, true, true, true, true, true, true, true, true, false] (fun s_ => [(15, .int .i64 t152), (19, .int .i64 t154), (5, .pointer (some ⟨s_, 0, none⟩)), (20, .agg #[.int .i64 t152, .int .i64 t154])]) (fun s_ w' => (w'.cell? ad151 = some (.string (rdOf ByteArray.empty t148 0)) ∧ w'.cell? ⟨ad151.block, ad151.off + 1, none⟩ = some (.string (rdOf ByteArray.empty t148 1))) ∧ (Kd.R Kd.string 9 w' w.heap.size (fun _ => True) (.slice (some ad151) t148.length co27) t148) ∧ (w'.heap[gb147]? = some (.cells #[.int .i64 0, .int .i64 0] 43 (0, 0))) ∧ (w'.heap[s_]? = some (.cells #[.int .i64 0, .int .i64 0] 43 (0, 0))) ∧ (w.heap.size ≤ s_) ∧ (w.heap.size ≤ s_) ∧ (gb147 ≠ s_) ∧ (s_ ≠ gb147) ∧ (Below w.heap.size w w')) ?_ ?_
     rotate_left
     ·intro hCont
      refine two_ (i := 3) (j := 9) (Ni := some 15) (Nj := some 5) #[true, true, true, true, true, true, true, false, false, false, false] #[true, true, true, false, true, true, true, false, false, true, false] rfl rfl rfl rfl (two_of HT_.out (by kernel_rfl)) (by decide) (by decide) (fun K hK => ?_) (fun K hK => ?_)
      ·skip
       refine goes_ Tryd.func66 (by kernel_rfl) rfl #[.string (rdOf ByteArray.empty t148 0)] (by rfl) rfl rfl Z56 ?_
       with_reducible refine (spec_l1Num.calls k (rdOf ByteArray.empty t148 0) t152 _ A5.out).mono ?_
       rintro e w29 ⟨rfl, hb⟩
       have HS0_ := (hb.cell (World.block_lt_of_cell? _ _ (hHeld.1))).trans (hHeld.1)
       have HS1_ := (hb.cell (World.block_lt_of_cell? _ _ (hHeld.2))).trans (hHeld.2)
       refine ⟨_, rfl, ?_⟩
       have n0_ := Aside0.mk (Kd.R_below Z3 hb)
       have n1_ := Aside0.mk (blk_below (g := gb147) (o := .cells #[.int .i64 0, .int .i64 0] 43 (0, 0)) Z21 hb)
       have n2_ := Aside0.mk (below_step Z67 hb)
       clear HO150
       clear BK147
       clear HB
       have HO150 := n0_
       have BK147 := n1_
       have HB := n2_
       clear n0_ n1_ n2_
       (try clear hb)
       (try clear hb2)
       (try clear hk)
       (try clear hi)
       refine hK.out _ _ ⟨HS0_, HS1_⟩ (fun hHeld => ?_)
       clear hK K
       refine norm_ (a' := ?_) ?_ ?_
       rotate_left
       ·show Act.put _ (some 15) _ = _
        simp only [Act.put, List.setIfInBounds_toArray, List.set_cons_zero, List.set_cons_succ, i64_w, i32_w]
        rfl
       refine two_ (i := 7) (j := 9) (Ni := some 19) (Nj := some 5) #[true, true, true, true, true, true, true, true, false, false, false] #[true, true, true, true, true, true, true, false, false, true, false] rfl rfl rfl rfl (two_of HT_.out (by kernel_rfl)) (by decide) (by decide) (fun K hK => ?_) (fun K hK => ?_)
       ·skip
        refine goes_ Tryd.func66 (by kernel_rfl) rfl #[.string (rdOf ByteArray.empty t148 1)] (by rfl) rfl rfl Z56 ?_
        with_reducible refine (spec_l1Num.calls k (rdOf ByteArray.empty t148 1) t154 _ A7.out).mono ?_
        rintro e w30 ⟨rfl, hb⟩
        have HS0_ := (hb.cell (World.block_lt_of_cell? _ _ (hHeld.1))).trans (hHeld.1)
        have HS1_ := (hb.cell (World.block_lt_of_cell? _ _ (hHeld.2))).trans (hHeld.2)
        refine ⟨_, rfl, ?_⟩
        have n0_ := Aside0.mk (Kd.R_below Z3 hb)
        have n1_ := Aside0.mk (blk_below (g := gb147) (o := .cells #[.int .i64 0, .int .i64 0] 43 (0, 0)) Z21 hb)
        have n2_ := Aside0.mk (below_step Z67 hb)
        clear HO150
        clear BK147
        clear HB
        have HO150 := n0_
        have BK147 := n1_
        have HB := n2_
        clear n0_ n1_ n2_
        (try clear hb)
        (try clear hb2)
        (try clear hk)
        (try clear hi)
        refine hK.out _ _ ⟨HS0_, HS1_⟩ (fun hHeld => ?_)
        clear hK K
        refine norm_ (a' := ?_) ?_ ?_
        rotate_left
        ·show Act.put _ (some 19) _ = _
         simp only [Act.put, List.setIfInBounds_toArray, List.set_cons_zero, List.set_cons_succ, i64_w, i32_w]
         rfl
        refine pure_ (i := 8) (N := some 20) (v := ?_) (a' := ?_) #[true, true, true, true, true, true, true, true, true, false, false] rfl rfl (any_of HT_.out (by kernel_rfl)) (fun _ _ _ h => h) (Or.inl ⟨by rfl, ?_⟩) ?_ ?_
        rotate_left
        ·intro w'
         go_simp
         with_reducible rfl
        rotate_left
        ·simp only [Act.put, List.setIfInBounds_toArray, List.set_cons_zero, List.set_cons_succ, i64_w, i32_w]
         rfl
        refine one_ (i := 9) (N := some 5) #[true, true, true, true, true, true, true, true, true, true, false] rfl rfl (one_of HT_.out (by kernel_rfl)) (by decide) (fun K hK => ?_)
        refine box_step ?hg (N := 5) ?hd (cs := #[.int .i64 0, .int .i64 0]) (t := 43) ?hr ?_; (case hd => rfl); (case hg => rfl); (case hr => first | (go_simp; done) | (go_simp; rfl))
        intro gb155 hg w31 hbox hb
        have HS0_ := (hb.cell (World.block_lt_of_cell? _ _ (hHeld.1))).trans (hHeld.1)
        have HS1_ := (hb.cell (World.block_lt_of_cell? _ _ (hHeld.2))).trans (hHeld.2)
        have n0_ := Aside0.mk (Kd.R_below Z3 hb)
        have n1_ := Aside0.mk (blk_below (g := gb147) (o := .cells #[.int .i64 0, .int .i64 0] 43 (0, 0)) Z21 hb)
        have n2_ := Aside0.mk (below_step Z67 hb)
        have n3_ := Aside0.mk (hbox)
        have n4_ := Aside0.mk ((Z163 : w.heap.size ≤ gb155))
        have n5_ := Aside0.mk ((Z163 : w.heap.size ≤ gb155))
        have n6_ := Aside0.mk ((Z169 : gb147 ≠ gb155))
        have n7_ := Aside0.mk ((Z170 : gb155 ≠ gb147))
        clear HO150
        clear BK147
        clear HB
        have HO150 := n0_
        have BK147 := n1_
        have HB := n2_
        have BK155 := n3_
        have GW155 := n4_
        have GE155 := n5_
        have NB147_155 := n6_
        have NB155_147 := n7_
        clear n0_ n1_ n2_ n3_ n4_ n5_ n6_ n7_
        clear hb hbox hg
        refine hK.out _ _ ⟨HS0_, HS1_⟩ (fun hHeld => ?_)
        clear hK K
        refine norm_ (a' := ?_) ?_ ?_
        rotate_left
        ·show Act.put _ (some 5) _ = _
         simp only [Act.put, List.setIfInBounds_toArray, List.set_cons_zero, List.set_cons_succ, i64_w, i32_w]
         rfl
        exact norm_ Z2 (hCont (gb155) _ ⟨hHeld, Z3, Z21, Z22, GW155.out, GE155.out, NB147_155.out, NB155_147.out, Z103⟩)
       ·skip
        refine box_step ?hg (N := 5) ?hd (cs := #[.int .i64 0, .int .i64 0]) (t := 43) ?hr ?_; (case hd => rfl); (case hg => rfl); (case hr => first | (go_simp; done) | (go_simp; rfl))
        intro gb155 hg w30 hbox hb
        have HS0_ := (hb.cell (World.block_lt_of_cell? _ _ (hHeld.1))).trans (hHeld.1)
        have HS1_ := (hb.cell (World.block_lt_of_cell? _ _ (hHeld.2))).trans (hHeld.2)
        have n0_ := Aside0.mk (Kd.R_below Z3 hb)
        have n1_ := Aside0.mk (blk_below (g := gb147) (o := .cells #[.int .i64 0, .int .i64 0] 43 (0, 0)) Z21 hb)
        have n2_ := Aside0.mk (below_step Z67 hb)
        have n3_ := Aside0.mk (hbox)
        have n4_ := Aside0.mk ((Z163 : w.heap.size ≤ gb155))
        have n5_ := Aside0.mk ((Z163 : w.heap.size ≤ gb155))
        have n6_ := Aside0.mk ((Z169 : gb147 ≠ gb155))
        have n7_ := Aside0.mk ((Z170 : gb155 ≠ gb147))
        clear HO150
        clear BK147
        clear HB
        have HO150 := n0_
        have BK147 := n1_
        have HB := n2_
        have BK155 := n3_
        have GW155 := n4_
        have GE155 := n5_
        have NB147_155 := n6_
        have NB155_147 := n7_
        clear n0_ n1_ n2_ n3_ n4_ n5_ n6_ n7_
        clear hb hbox hg
        refine hK.out _ _ ⟨HS0_, HS1_⟩ (fun hHeld => ?_)
        clear hK K
        refine norm_ (a' := ?_) ?_ ?_
        rotate_left
        ·show Act.put _ (some 5) _ = _
         simp only [Act.put, List.setIfInBounds_toArray, List.set_cons_zero, List.set_cons_succ, i64_w, i32_w]
         rfl
        refine one_ (i := 7) (N := some 19) #[true, true, true, true, true, true, true, true, false, true, false] rfl rfl (one_of HT_.out (by kernel_rfl)) (by decide) (fun K hK => ?_)
        refine goes_ Tryd.func66 (by kernel_rfl) rfl #[.string (rdOf ByteArray.empty t148 1)] (by rfl) rfl rfl Z56 ?_
        with_reducible refine (spec_l1Num.calls k (rdOf ByteArray.empty t148 1) t154 _ A7.out).mono ?_
        rintro e w31 ⟨rfl, hb⟩
        have HS0_ := (hb.cell (World.block_lt_of_cell? _ _ (hHeld.1))).trans (hHeld.1)
        have HS1_ := (hb.cell (World.block_lt_of_cell? _ _ (hHeld.2))).trans (hHeld.2)
        refine ⟨_, rfl, ?_⟩
        have n0_ := Aside0.mk (Kd.R_below Z3 hb)
        have n1_ := Aside0.mk (blk_below (g := gb147) (o := .cells #[.int .i64 0, .int .i64 0] 43 (0, 0)) Z21 hb)
        have n2_ := Aside0.mk (blk_below (g := gb155) (o := .cells #[.int .i64 0, .int .i64 0] 43 (0, 0)) Z22 hb)
        have n3_ := Aside0.mk (below_step Z103 hb)
        clear HO150
        clear BK147
        clear BK155
        clear HB
        have HO150 := n0_
        have BK147 := n1_
        have BK155 := n2_
        have HB := n3_
        clear n0_ n1_ n2_ n3_
        (try clear hb)
        (try clear hb2)
        (try clear hk)
        (try clear hi)
        refine hK.out _ _ ⟨HS0_, HS1_⟩ (fun hHeld => ?_)
        clear hK K
        refine norm_ (a' := ?_) ?_ ?_
        rotate_left
        ·show Act.put _ (some 19) _ = _
         simp only [Act.put, List.setIfInBounds_toArray, List.set_cons_zero, List.set_cons_succ, i64_w, i32_w]
         rfl
        refine pure_ (i := 8) (N := some 20) (v := ?_) (a' := ?_) #[true, true, true, true, true, true, true, true, true, true, false] rfl rfl (any_of HT_.out (by kernel_rfl)) (fun _ _ _ h => h) (Or.inl ⟨by rfl, ?_⟩) ?_ ?_
        rotate_left
        ·intro w'
         go_simp
         with_reducible rfl
        rotate_left
        ·simp only [Act.put, List.setIfInBounds_toArray, List.set_cons_zero, List.set_cons_succ, i64_w, i32_w]
         rfl
        exact norm_ Z2 (hCont (gb155) _ ⟨hHeld, Z3, Z21, Z22, GW155.out, GE155.out, NB147_155.out, NB155_147.out, Z103⟩)
      ·skip
       refine box_step ?hg (N := 5) ?hd (cs := #[.int .i64 0, .int .i64 0]) (t := 43) ?hr ?_; (case hd => rfl); (case hg => rfl); (case hr => first | (go_simp; done) | (go_simp; rfl))
       intro gb155 hg w29 hbox hb
       have HS0_ := (hb.cell (World.block_lt_of_cell? _ _ (hHeld.1))).trans (hHeld.1)
       have HS1_ := (hb.cell (World.block_lt_of_cell? _ _ (hHeld.2))).trans (hHeld.2)
       have n0_ := Aside0.mk (Kd.R_below Z3 hb)
       have n1_ := Aside0.mk (blk_below (g := gb147) (o := .cells #[.int .i64 0, .int .i64 0] 43 (0, 0)) Z21 hb)
       have n2_ := Aside0.mk (below_step Z67 hb)
       have n3_ := Aside0.mk (hbox)
       have n4_ := Aside0.mk ((Z163 : w.heap.size ≤ gb155))
       have n5_ := Aside0.mk ((Z163 : w.heap.size ≤ gb155))
       have n6_ := Aside0.mk ((Z169 : gb147 ≠ gb155))
       have n7_ := Aside0.mk ((Z170 : gb155 ≠ gb147))
       clear HO150
       clear BK147
       clear HB
       have HO150 := n0_
       have BK147 := n1_
       have HB := n2_
       have BK155 := n3_
       have GW155 := n4_
       have GE155 := n5_
       have NB147_155 := n6_
       have NB155_147 := n7_
       clear n0_ n1_ n2_ n3_ n4_ n5_ n6_ n7_
       clear hb hbox hg
       refine hK.out _ _ ⟨HS0_, HS1_⟩ (fun hHeld => ?_)
       clear hK K
       refine norm_ (a' := ?_) ?_ ?_
       rotate_left
       ·show Act.put _ (some 5) _ = _
        simp only [Act.put, List.setIfInBounds_toArray, List.set_cons_zero, List.set_cons_succ, i64_w, i32_w]
        rfl
       refine one_ (i := 3) (N := some 15) #[true, true, true, true, true, true, true, false, false, true, false] rfl rfl (one_of HT_.out (by kernel_rfl)) (by decide) (fun K hK => ?_)
       refine goes_ Tryd.func66 (by kernel_rfl) rfl #[.string (rdOf ByteArray.empty t148 0)] (by rfl) rfl rfl Z56 ?_
       with_reducible refine (spec_l1Num.calls k (rdOf ByteArray.empty t148 0) t152 _ A5.out).mono ?_
       rintro e w30 ⟨rfl, hb⟩
       have HS0_ := (hb.cell (World.block_lt_of_cell? _ _ (hHeld.1))).trans (hHeld.1)
       have HS1_ := (hb.cell (World.block_lt_of_cell? _ _ (hHeld.2))).trans (hHeld.2)
       refine ⟨_, rfl, ?_⟩
       have n0_ := Aside0.mk (Kd.R_below Z3 hb)
       have n1_ := Aside0.mk (blk_below (g := gb147) (o := .cells #[.int .i64 0, .int .i64 0] 43 (0, 0)) Z21 hb)
       have n2_ := Aside0.mk (blk_below (g := gb155) (o := .cells #[.int .i64 0, .int .i64 0] 43 (0, 0)) Z22 hb)
       have n3_ := Aside0.mk (below_step Z103 hb)
       clear HO150
       clear BK147
       clear BK155
       clear HB
       have HO150 := n0_
       have BK147 := n1_
       have BK155 := n2_
       have HB := n3_
       clear n0_ n1_ n2_ n3_
       (try clear hb)
       (try clear hb2)
       (try clear hk)
       (try clear hi)
       refine hK.out _ _ ⟨HS0_, HS1_⟩ (fun hHeld => ?_)
       clear hK K
       refine norm_ (a' := ?_) ?_ ?_
       rotate_left
       ·show Act.put _ (some 15) _ = _
        simp only [Act.put, List.setIfInBounds_toArray, List.set_cons_zero, List.set_cons_succ, i64_w, i32_w]
        rfl
       refine one_ (i := 7) (N := some 19) #[true, true, true, true, true, true, true, true, false, true, false] rfl rfl (one_of HT_.out (by kernel_rfl)) (by decide) (fun K hK => ?_)
       refine goes_ Tryd.func66 (by kernel_rfl) rfl #[.string (rdOf ByteArray.empty t148 1)] (by rfl) rfl rfl Z56 ?_
       with_reducible refine (spec_l1Num.calls k (rdOf ByteArray.empty t148 1) t154 _ A7.out).mono ?_
       rintro e w31 ⟨rfl, hb⟩
       have HS0_ := (hb.cell (World.block_lt_of_cell? _ _ (hHeld.1))).trans (hHeld.1)
       have HS1_ := (hb.cell (World.block_lt_of_cell? _ _ (hHeld.2))).trans (hHeld.2)
       refine ⟨_, rfl, ?_⟩
       have n0_ := Aside0.mk (Kd.R_below Z3 hb)
       have n1_ := Aside0.mk (blk_below (g := gb147) (o := .cells #[.int .i64 0, .int .i64 0] 43 (0, 0)) Z21 hb)
       have n2_ := Aside0.mk (blk_below (g := gb155) (o := .cells #[.int .i64 0, .int .i64 0] 43 (0, 0)) Z22 hb)
       have n3_ := Aside0.mk (below_step Z103 hb)
       clear HO150
       clear BK147
       clear BK155
       clear HB
       have HO150 := n0_
       have BK147 := n1_
       have BK155 := n2_
       have HB := n3_
       clear n0_ n1_ n2_ n3_
       (try clear hb)
       (try clear hb2)
       (try clear hk)
       (try clear hi)
       refine hK.out _ _ ⟨HS0_, HS1_⟩ (fun hHeld => ?_)
       clear hK K
       refine norm_ (a' := ?_) ?_ ?_
       rotate_left
       ·show Act.put _ (some 19) _ = _
        simp only [Act.put, List.setIfInBounds_toArray, List.set_cons_zero, List.set_cons_succ, i64_w, i32_w]
        rfl
       refine pure_ (i := 8) (N := some 20) (v := ?_) (a' := ?_) #[true, true, true, true, true, true, true, true, true, true, false] rfl rfl (any_of HT_.out (by kernel_rfl)) (fun _ _ _ h => h) (Or.inl ⟨by rfl, ?_⟩) ?_ ?_
       rotate_left
       ·intro w'
        go_simp
        with_reducible rfl
       rotate_left
       ·simp only [Act.put, List.setIfInBounds_toArray, List.set_cons_zero, List.set_cons_succ, i64_w, i32_w]
        rfl
       exact norm_ Z2 (hCont (gb155) _ ⟨hHeld, Z3, Z21, Z22, GW155.out, GE155.out, NB147_155.out, NB155_147.out, Z103⟩)
     rintro gb155 w32 ⟨hS_, h0_, h1_, h2_, h3_, h4_, h5_, h6_, h7_⟩
     have n0_ : Aside0 (Kd.R Kd.string 9 w32 w.heap.size (fun _ => True) (.slice (some ad151) t148.length co27) t148) := ⟨h0_⟩
     have n1_ : Aside0 (w32.heap[gb147]? = some (.cells #[.int .i64 0, .int .i64 0] 43 (0, 0))) := ⟨h1_⟩
     have n2_ : Aside0 (w32.heap[gb155]? = some (.cells #[.int .i64 0, .int .i64 0] 43 (0, 0))) := ⟨h2_⟩
     have n3_ : Aside0 (w.heap.size ≤ gb155) := ⟨h3_⟩
     have n4_ : Aside0 (w.heap.size ≤ gb155) := ⟨h4_⟩
     have n5_ : Aside0 (gb147 ≠ gb155) := ⟨h5_⟩
     have n6_ : Aside0 (gb155 ≠ gb147) := ⟨h6_⟩
     have n7_ : Aside0 (Below w.heap.size w w32) := ⟨h7_⟩
     clear HO150
     clear BK147
     clear HB
     clear h0_ h1_ h2_ h3_ h4_ h5_ h6_ h7_
     have HO150 := n0_
     have BK147 := n1_
     have BK155 := n2_
     have GW155 := n3_
     have GE155 := n4_
     have NB147_155 := n5_
     have NB155_147 := n6_
     have HB := n7_
     clear n0_ n1_ n2_ n3_ n4_ n5_ n6_ n7_
     have hHeld : w32.cell? ad151 = some (.string (rdOf ByteArray.empty t148 0)) ∧ w32.cell? ⟨ad151.block, ad151.off + 1, none⟩ = some (.string (rdOf ByteArray.empty t148 1)) := hS_
     refine norm_ (a' := ?_) ?_ ?_
     rotate_left
     ·simp only [putAll, Act.put, List.setIfInBounds_toArray, List.set_cons_zero, List.set_cons_succ]
      rfl
     refine one_ (i := 10) (N := none) #[true, true, true, true, true, true, true, true, true, true, true] rfl rfl (one_of HT_.out (by kernel_rfl)) (by decide) (fun K hK => ?_)
     have hs33 : w32.cell? ⟨gb155, 0, none⟩ = some (.int .i64 0) := (blk_cell BK155.out 0).trans rfl
     have hfs33 := blk_frozen BK155.out 0
     have hns33_0 := NB147_155.out
     have hms33_0 := NB155_147.out
     have hs34 : w32.cell? ⟨gb155, 1, none⟩ = some (.int .i64 0) := (blk_cell BK155.out 1).trans rfl
     have hfs34 := blk_frozen BK155.out 1
     have hns34_0 := NB147_155.out
     have hms34_0 := NB155_147.out
     refine skip_ (w1 := ?_) (by rfl) rfl ?_ ?_
     rotate_left
     ·go_simp
      rfl
     refine hK.out _ _ ⟨((cell_far (p := ⟨gb155, _, none⟩) Z155 _).trans (((cell_far (p := ⟨gb155, _, none⟩) Z155 _).trans (hHeld.1)))), ((cell_far (p := ⟨gb155, _, none⟩) Z155 _).trans (((cell_far (p := ⟨gb155, _, none⟩) Z155 _).trans (hHeld.2))))⟩ (fun hHeld => ?_)
     clear hK K
     refine done_ (done_of HT_.out (by kernel_rfl)) ?_
     have hnb35 := NB155_147.out
     have hnc35 := NB147_155.out
     have hcz36_0 : w32.cell? ⟨gb155, 0, none⟩ = some (.int .i64 0) := (blk_cell BK155.out 0).trans rfl
     have hcz36_1 : w32.cell? ⟨gb155, 1, none⟩ = some (.int .i64 0) := (blk_cell BK155.out 1).trans rfl
     have hfz36_0 := blk_frozen BK155.out 0
     have hfz36_1 := blk_frozen BK155.out 1
     try go_wp2_with (first | ((with_reducible refine gate_callee (f := 40) rfl ?_); refine goesL_ (some 22) rfl rfl Tryd.func40 (by kernel_rfl) rfl #[.agg #[.int .i64 t152, .int .i64 t154]] rfl Z56 ?_; (with_reducible refine (spec_EndOk.calls t152 t154 false _ A8.out).mono ?_); rintro e w37 ⟨rfl, hb⟩; refine ⟨_, rfl, ?_⟩; have n0_ := Aside0.mk (Kd.R_below Z154 hb); have n1_ := Aside0.mk (blk_below (g := gb147) (o := .cells #[.int .i64 0, .int .i64 0] 43 (0, 0)) Z157 hb); have n2_ := Aside0.mk (blk_below (g := gb155) (o := .cells #[.int .i64 t152, .int .i64 t154] 43 (0, 0)) Z160 hb); have n3_ := Aside0.mk (below_step Z103 hb); clear HO150; clear BK147; clear BK155; clear HB; have HO150 := n0_; have BK147 := n1_; have BK155 := n2_; have HB := n3_; clear n0_ n1_ n2_ n3_; (try clear hb); have hcz38_0 : w37.cell? ⟨gb147, 0, none⟩ = some (.int .i64 0) := (blk_cell BK147.out 0).trans rfl; have hcz38_1 : w37.cell? ⟨gb147, 1, none⟩ = some (.int .i64 0) := (blk_cell BK147.out 1).trans rfl; have hfz38_0 := blk_frozen BK147.out 0; have hfz38_1 := blk_frozen BK147.out 1))
     refine bodyPost_ret (results_ct rfl _ _ gb147 43 #[.int .i64 0, .int .i64 0] (0, 0) _ rfl Z159 Tryd.underlying43 rfl (by kernel_rfl)) rfl ?_
     exact ⟨by first | rfl | (simp [errW_none, errW_some] <;> rfl) | (simp [*, errW_none, errW_some] <;> rfl), by repeat (first | (with_reducible first | exact HB.out | apply below_alloc | apply pw_below_drewN | apply below_drew1 | refine below_set ?_ GE147.out | refine below_set ?_ GE155.out) | exact HB.out)⟩
   ·rw [if_neg c6] at H
    exact absurd H (by simp)
  ·rw [if_neg c4] at H
   exact absurd H (by simp)
 ·rw [if_neg c3] at H
  have c3b0 : ((t148.length : Int) == 2) = false := beq_eq_false_iff_ne.mpr c3
  have c3b1 : ((t148.length : Int) != 2) = true := bne_iff_ne.mpr c3
  simp only [Option.some.injEq, Prod.mk.injEq] at H
  obtain ⟨rfl, rfl, rfl⟩ := H
  go_enter Tryd.func34, Tryd.ntmps34
  go_wp2_with (first | ((with_reducible refine gate_dst (N := 2) rfl ?_); refine box_event ?hg (N := 2) ?hd (cs := #[.int .i64 0, .int .i64 0]) (t := 43) ?hr ?_; (case hd => rfl); (case hg => rfl); (case hr => first | (go_simp; done) | (go_simp; rfl)); intro gb147 hg w39 hbox hb; have n0_ := Aside0.mk (below_step Z52 hb); have n1_ := Aside0.mk (hbox); have n2_ := Aside0.mk ((Z161 : w.heap.size ≤ gb147)); have n3_ := Aside0.mk ((Z161 : w.heap.size ≤ gb147)); clear HB; have HB := n0_; have BK147 := n1_; have GW147 := n2_; have GE147 := n3_; clear n0_ n1_ n2_ n3_; clear hb hbox hg) | ((with_reducible refine gate_callee (f := 65) rfl ?_); refine goesL_ (some 7) rfl rfl Tryd.func65 (by kernel_rfl) rfl #[.string a0] rfl Z56 ?_; (with_reducible refine (spec_l1Words.calls k a0 t148 _ A2.out).mono ?_); rintro e w40 ⟨v149, rfl, ho0, hb⟩; refine ⟨_, rfl, ?_⟩; have n0_ := Aside0.mk (Kd.R_lower ho0 (below_size Z67)); have n1_ := Aside0.mk (blk_below (g := gb147) (o := .cells #[.int .i64 0, .int .i64 0] 43 (0, 0)) Z21 hb); have n2_ := Aside0.mk (below_step Z67 hb); clear BK147; clear HB; have HO150 := n0_; have BK147 := n1_; have HB := n2_; clear n0_ n1_ n2_; (try clear hb); (try clear ho0); obtain ⟨Ao41, co41, eo41⟩ := Kd.R_slice HO150.out; subst eo41; have hcz42_0 : w40.cell? ⟨gb147, 0, none⟩ = some (.int .i64 0) := (blk_cell BK147.out 0).trans rfl; have hcz42_1 : w40.cell? ⟨gb147, 1, none⟩ = some (.int .i64 0) := (blk_cell BK147.out 1).trans rfl; have hfz42_0 := blk_frozen BK147.out 0; have hfz42_1 := blk_frozen BK147.out 1))
  refine bodyPost_ret (results_ct rfl _ _ gb147 43 #[.int .i64 0, .int .i64 0] (0, 0) _ rfl Z159 Tryd.underlying43 rfl (by kernel_rfl)) rfl ?_
  exact ⟨by first | rfl | (simp [errW_none, errW_some] <;> rfl) | (simp [*, errW_none, errW_some] <;> rfl), by repeat (first | (with_reducible first | exact HB.out | apply below_alloc | apply pw_below_drewN | apply below_drew1 | refine below_set ?_ GE147.out) | exact HB.out)⟩

end Go.Proofs.YtlofgoahgnllkaaDoor.QFnBakAgain
