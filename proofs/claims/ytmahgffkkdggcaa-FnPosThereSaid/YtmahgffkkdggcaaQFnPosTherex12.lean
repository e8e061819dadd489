-- Laid by a program of this repo (wip/tools/sprint.py): print.py's functions and walks; the contracts named 'BY HAND' are proved by hand.
import Derived.Test.YtmahgffkkdggcaaQFnPosTherex0
import Derived.Test.YtmahgffkkdggcaaQFnPosTherex4
import Derived.Test.YtmahgffkkdggcaaQFnPosTherex11
namespace Go.Proofs.Ytmahgffkkdggcaa.QFnPosThere
open Go.RowKit Go.Proofs.YtmahgffkkdggcaaW.PrintWords Go.Proofs.YtmahgffkkdggcaaW.PrintLast Go.Proofs.YtmahgffkkdggcaaW.PrintMore
attribute [local go_sem] max2_int min2_int max_two min_two max_three min_three max_four min_four   -- for this text's walks alone
set_option linter.unusedVariables false
set_option linter.unusedSimpArgs false

/-! ### spec_EndRead: function 93 -/
def spec_EndRead.f (k : Nat) (a0 : ByteArray) : Option (Int × Int × Bool) := (spec_l1Words.f k a0).bind fun t373 => (if (t373.length : Int) = 2 then (if 0 < (t373.length : Int) then ((spec_l1Num.f k (rdOf ByteArray.empty t373 0)).bind fun t377 => (if 1 < (t373.length : Int) then ((spec_l1Num.f k (rdOf ByteArray.empty t373 1)).bind fun t379 => ((spec_EndOk.f t377 t379).bind fun t381 => (if t381 = true then (some (t377, t379, true)) else (some (0, 0, false))))) else (none))) else (none)) else (some (0, 0, false)))
theorem spec_EndRead.mono : ∀ a0 k, LeO (spec_EndRead.f k a0) (spec_EndRead.f (k + 1) a0) := by
 intro a0 k
 unfold spec_EndRead.f
 repeat' first
   | (with_reducible exact spec_l1Num.mono _ _)
   | (with_reducible exact spec_l1Words.mono _ _)
   | (with_reducible exact LeO.refl _)
   | (with_reducible exact LeO.none _)
   | (with_reducible refine LeO.ite ?_ ?_)
   | (with_reducible refine LeO.bind ?_ (fun _ => ?_))
   | exact spec_l1Num.mono _ _
   | exact spec_l1Words.mono _ _
   | exact LeO.none _
   | refine LeO.ite ?_ ?_
   | refine LeO.bind ?_ (fun _ => ?_)
def spec_EndRead.T4 : Bool × List (List Nat × List Nat) := (true, [([], []), ([0], [0]), ([1], [1]), ([2], [2]), ([], []), ([4], [4]), ([5], [5]), ([6, 3], [6]), ([3, 7], [3, 7]), ([], []), ([9, 8, 7, 0, 1, 2, 3, 4, 5, 6, 7, 8, 9], [8, 9])])
def spec_EndRead.B4 : List Nat := [0, 1, 3, 7, 0, 16, 48, 127, 255, 0, 1023]
theorem spec_EndRead.tab4 : rtab .any (opsOf Try.f93 4) = spec_EndRead.T4 := by kernel_rfl
theorem spec_EndRead.bits4 : waitsOk spec_EndRead.T4.2 spec_EndRead.B4 = true := by kernel_rfl
set_option maxHeartbeats 8000000 in
set_option maxRecDepth 100000 in
theorem spec_EndRead.calls (k : Nat) (a0 : ByteArray) (r1 : Int) (r2 : Int) (r3 : Bool) (w : World) (h : spec_EndRead.f k a0 = some (r1, r2, r3)) :
  Calls Try.prog 93 #[.string a0] w fun e w' => e = .returned (.tuple #[.agg #[.int .i64 r1, .int .i64 r2], .bool r3]) ∧ Below w.heap.size w w' := by
 have hu80 := Try.underlying80
 have HB := Aside0.mk (Below.refl w.heap.size w)
 have H : ((spec_l1Words.f k a0).bind fun t373 => (if (t373.length : Int) = 2 then (if 0 < (t373.length : Int) then ((spec_l1Num.f k (rdOf ByteArray.empty t373 0)).bind fun t377 => (if 1 < (t373.length : Int) then ((spec_l1Num.f k (rdOf ByteArray.empty t373 1)).bind fun t379 => ((spec_EndOk.f t377 t379).bind fun t381 => (if t381 = true then (some (t377, t379, true)) else (some (0, 0, false))))) else (none))) else (none)) else (some (0, 0, false)))) = some (r1, r2, r3) := h
 clear h
 replace H := Option.bind_eq_some_iff.mp H
 obtain ⟨t373, A20, H⟩ := H
 replace H : (if (t373.length : Int) = 2 then (if 0 < (t373.length : Int) then ((spec_l1Num.f k (rdOf ByteArray.empty t373 0)).bind fun t377 => (if 1 < (t373.length : Int) then ((spec_l1Num.f k (rdOf ByteArray.empty t373 1)).bind fun t379 => ((spec_EndOk.f t377 t379).bind fun t381 => (if t381 = true then (some (t377, t379, true)) else (some (0, 0, false))))) else (none))) else (none)) else (some (0, 0, false))) = some (r1, r2, r3) := H
 have A2 := Aside0.mk A20
 clear A20
 by_cases c3 : (t373.length : Int) = 2
 ·rw [if_pos c3] at H
  have c3b0 : ((t373.length : Int) == 2) = true := beq_iff_eq.mpr c3
  have c3b1 : ((t373.length : Int) != 2) = false := bne_eq_false_iff_eq.mpr c3
  clear c3
  by_cases c4 : 0 < (t373.length : Int)
  ·rw [if_pos c4] at H
   have c4b0 : decide (0 < (t373.length : Int)) = true := decide_eq_true c4
   have c4b1 : decide (0 < t373.length) = true := decide_eq_true (by omega)
   clear c4
   replace H := Option.bind_eq_some_iff.mp H
   obtain ⟨t377, A50, H⟩ := H
   replace H : (if 1 < (t373.length : Int) then ((spec_l1Num.f k (rdOf ByteArray.empty t373 1)).bind fun t379 => ((spec_EndOk.f t377 t379).bind fun t381 => (if t381 = true then (some (t377, t379, true)) else (some (0, 0, false))))) else (none)) = some (r1, r2, r3) := H
   have A5 := Aside0.mk A50
   clear A50
   by_cases c6 : 1 < (t373.length : Int)
   ·rw [if_pos c6] at H
    have c6b0 : decide (1 < (t373.length : Int)) = true := decide_eq_true c6
    have c6b1 : decide (1 < t373.length) = true := decide_eq_true (by omega)
    clear c6
    replace H := Option.bind_eq_some_iff.mp H
    obtain ⟨t379, A70, H⟩ := H
    replace H : ((spec_EndOk.f t377 t379).bind fun t381 => (if t381 = true then (some (t377, t379, true)) else (some (0, 0, false)))) = some (r1, r2, r3) := H
    have A7 := Aside0.mk A70
    clear A70
    replace H := Option.bind_eq_some_iff.mp H
    obtain ⟨t381, A80, H⟩ := H
    replace H : (if t381 = true then (some (t377, t379, true)) else (some (0, 0, false))) = some (r1, r2, r3) := H
    have A8 := Aside0.mk A80
    clear A80
    by_cases c9 : t381 = true
    ·subst c9
     have H1 : (some (t377, t379, true)) = some (r1, r2, r3) := by rw [if_pos rfl] at H; exact H
     clear H
     have H := H1
     clear H1
     simp only [Option.some.injEq, Prod.mk.injEq] at H
     obtain ⟨rfl, rfl, rfl⟩ := H
     go_enter Try.func93, Try.ntmps93
     try go_wp2_with (first | ((with_reducible refine gate_dst (N := 2) rfl ?_); refine box_event ?hg (N := 2) ?hd (cs := #[.int .i64 0, .int .i64 0]) (t := 80) ?hr ?_; (case hd => rfl); (case hg => rfl); (case hr => first | (go_simp; done) | (go_simp; rfl)); intro gb372 hg w10 hbox hb; have n0_ := Aside0.mk (below_step Z71 hb); have n1_ := Aside0.mk (hbox); have n2_ := Aside0.mk ((Z189 : w.heap.size ≤ gb372)); have n3_ := Aside0.mk ((Z189 : w.heap.size ≤ gb372)); clear HB; have HB := n0_; have BK372 := n1_; have GW372 := n2_; have GE372 := n3_; clear n0_ n1_ n2_ n3_; clear hb hbox hg) | ((with_reducible refine gate_callee (f := 94) rfl ?_); refine goesL_ (some 7) rfl rfl Try.func94 (by kernel_rfl) rfl #[.string a0] rfl Z75 ?_; (with_reducible refine (spec_l1Words.calls k a0 t373 _ A2.out).mono ?_); rintro e w11 ⟨v374, rfl, ho0, hb⟩; refine ⟨_, rfl, ?_⟩; have n0_ := Aside0.mk (Kd.R_lower ho0 (below_size Z93)); have n1_ := Aside0.mk (blk_below (g := gb372) (o := .cells #[.int .i64 0, .int .i64 0] 80 (0, 0)) Z57 hb); have n2_ := Aside0.mk (below_step Z93 hb); clear BK372; clear HB; have HO375 := n0_; have BK372 := n1_; have HB := n2_; clear n0_ n1_ n2_; (try clear hb); (try clear ho0); obtain ⟨Ao12, co12, eo12⟩ := Kd.R_slice HO375.out; subst eo12))
     have n0_ := Aside0.mk (Kd.R_drew HO375.out)
     have n1_ := Aside0.mk (blk_drew BK372.out)
     have n2_ := Aside0.mk (below_drew1 HB.out)
     clear HO375
     clear BK372
     clear HB
     have HO375 := n0_
     have BK372 := n1_
     have HB := n2_
     clear n0_ n1_ n2_
     have p376 : 0 ≤ (0 : Int) := (by omega)
     have q376 : 0 < (t373.length : Int) := of_decide_eq_true Z11
     obtain ⟨ad376, e376, hx376_0⟩ := Kd.at_string (Kd.R_reads' HO375.out).2.2 0 p376 q376
     cases e376
     have qi376 : (0 < t373.length) = True := eq_true (by omega)
     (try rw [show ((0 : Int)).toNat = 0 from rfl] at hx376_0)
     (try rw [Addr.add_zero'] at hx376_0)
     replace p376 := eq_true p376
     replace q376 := eq_true q376
     have p378 : 0 ≤ (1 : Int) := (by omega)
     have q378 : 1 < (t373.length : Int) := of_decide_eq_true Z11
     obtain ⟨ad378, e378, hx378_0⟩ := Kd.at_string (Kd.R_reads' HO375.out).2.2 1 p378 q378
     obtain rfl : ad376 = ad378 := (by injection e378)
     (try simp only [show (1 : Int).toNat = 1 from rfl, Nat.reduceMul, Nat.reduceEqDiff, Go.Addr.add, ↓reduceIte] at hx378_0)
     have qi378 : (1 < t373.length) = True := eq_true (by omega)
     (try rw [show ((1 : Int)).toNat = 1 from rfl] at hx378_0)
     replace p378 := eq_true p378
     replace q378 := eq_true q378
     refine start_ (n := 11) (S := fun w' => w'.cell? ad376 = some (.string (rdOf ByteArray.empty t373 0)) ∧ w'.cell? ⟨ad376.block, ad376.off + 1, none⟩ = some (.string (rdOf ByteArray.empty t373 1))) (ds := []) #[false, false, false, false, false, false, false, false, false, false, false] (by kernel_rfl) rfl rfl ⟨hx376_0, hx378_0⟩ (fun hHeld => ?_); refine with_tabW spec_EndRead.tab4 spec_EndRead.bits4 (fun HT_ HW_ => ?_)
     generalize w11.drew = w13 at HO375 BK372 HB hx376_0 hx378_0 hHeld ⊢
     refine pure_ (i := 0) (N := some 12) (v := ?_) (a' := ?_) #[true, false, false, false, false, false, false, false, false, false, false] rfl rfl (any_of HT_.out (by kernel_rfl)) (fun _ _ _ h => h) (Or.inl ⟨by rfl, ?_⟩) ?_ ?_
     rotate_left
     ·intro w'
      go_simp
      with_reducible rfl
     rotate_left
     ·simp only [Act.put, List.setIfInBounds_toArray, List.set_cons_zero, List.set_cons_succ, i64_w, i32_w]
      rfl
     refine pure_ (i := 1) (N := some 13) (v := ?_) (a' := ?_) #[true, true, false, false, false, false, false, false, false, false, false] rfl rfl (any_of HT_.out (by kernel_rfl)) (fun _ _ _ h => h) (Or.inl ⟨by rfl, ?_⟩) ?_ ?_
     rotate_left
     ·intro w'
      go_simp
      with_reducible rfl
     rotate_left
     ·simp only [Act.put, List.setIfInBounds_toArray, List.set_cons_zero, List.set_cons_succ, i64_w, i32_w]
      rfl
     refine pure_ (i := 4) (N := some 16) (v := ?_) (a' := ?_) #[true, true, false, false, true, false, false, false, false, false, false] rfl rfl (any_of HT_.out (by kernel_rfl)) (fun _ _ _ h => h) (Or.inl ⟨by rfl, ?_⟩) ?_ ?_
     rotate_left
     ·intro w'
      go_simp
      with_reducible rfl
     rotate_left
     ·simp only [Act.put, List.setIfInBounds_toArray, List.set_cons_zero, List.set_cons_succ, i64_w, i32_w]
      rfl
     refine pure_ (i := 5) (N := some 17) (v := ?_) (a' := ?_) #[true, true, false, false, true, true, false, false, false, false, false] rfl rfl (any_of HT_.out (by kernel_rfl)) (fun _ _ _ h => h) (Or.inl ⟨by rfl, ?_⟩) ?_ ?_
     rotate_left
     ·intro w'
      go_simp
      with_reducible rfl
     rotate_left
     ·simp only [Act.put, List.setIfInBounds_toArray, List.set_cons_zero, List.set_cons_succ, i64_w, i32_w]
      rfl
     refine take_ (i := 2) (N := some 14) (v := ?_) (a' := ?_) #[true, true, true, false, true, true, false, false, false, false, false] rfl rfl (take_ofW HT_.out HW_.out (by kernel_rfl)) (fun _ _ _ h => h) (Or.inl ⟨by rfl, ?_⟩) hHeld ?_ ?_
     rotate_left
     ·rintro w' ⟨s0, s1⟩
      go_simp
      with_reducible rfl
     rotate_left
     ·simp only [Act.put, List.setIfInBounds_toArray, List.set_cons_zero, List.set_cons_succ, i64_w, i32_w]
      rfl
     refine take_ (i := 6) (N := some 18) (v := ?_) (a' := ?_) #[true, true, true, false, true, true, true, false, false, false, false] rfl rfl (take_ofW HT_.out HW_.out (by kernel_rfl)) (fun _ _ _ h => h) (Or.inl ⟨by rfl, ?_⟩) hHeld ?_ ?_
     rotate_left
     ·rintro w' ⟨s0, s1⟩
      go_simp
      with_reducible rfl
     rotate_left
     ·simp only [Act.put, List.setIfInBounds_toArray, List.set_cons_zero, List.set_cons_succ, i64_w, i32_w]
      rfl
     refine join_ (σ := Nat) 1 #[true, true, true, true, true, true, true, true, true, true, false] (fun s_ => [(15, .int .i64 t377), (19, .int .i64 t379), (5, .pointer (some ⟨s_, 0, none⟩)), (20, .agg #[.int .i64 t377, .int .i64 t379])]) (fun s_ w' => (w'.cell? ad376 = some (.string (rdOf ByteArray.empty t373 0)) ∧ w'.cell? ⟨ad376.block, ad376.off + 1, none⟩ = some (.string (rdOf ByteArray.empty t373 1))) ∧ (Kd.R Kd.string 9 w' w.heap.size (fun _ => True) (.slice (some ad376) t373.length co12) t373) ∧ (w'.heap[gb372]? = some (.cells #[.int .i64 0, .int .i64 0] 80 (0, 0))) ∧ (w'.heap[s_]? = some (.cells #[.int .i64 0, .int .i64 0] 80 (0, 0))) ∧ (w.heap.size ≤ s_) ∧ (w.heap.size ≤ s_) ∧ (gb372 ≠ s_) ∧ (s_ ≠ gb372) ∧ (Below w.heap.size w w')) ?_ ?_
     rotate_left
     ·intro hCont
      refine two_ (i := 3) (j := 9) (Ni := some 15) (Nj := some 5) #[true, true, true, true, true, true, true, false, false, false, false] #[true, true, true, false, true, true, true, false, false, true, false] rfl rfl rfl rfl (two_of HT_.out (by kernel_rfl)) (by decide) (by decide) (fun K hK => ?_) (fun K hK => ?_)
      ·skip
       refine goes_ Try.func95 (by kernel_rfl) rfl #[.string (rdOf ByteArray.empty t373 0)] (by rfl) rfl rfl Z75 ?_
       with_reducible refine (spec_l1Num.calls k (rdOf ByteArray.empty t373 0) t377 _ A5.out).mono ?_
       rintro e w14 ⟨rfl, hb⟩
       have HS0_ := (hb.cell (World.block_lt_of_cell? _ _ (hHeld.1))).trans (hHeld.1)
       have HS1_ := (hb.cell (World.block_lt_of_cell? _ _ (hHeld.2))).trans (hHeld.2)
       refine ⟨_, rfl, ?_⟩
       have n0_ := Aside0.mk (Kd.R_below Z31 hb)
       have n1_ := Aside0.mk (blk_below (g := gb372) (o := .cells #[.int .i64 0, .int .i64 0] 80 (0, 0)) Z57 hb)
       have n2_ := Aside0.mk (below_step Z93 hb)
       clear HO375
       clear BK372
       clear HB
       have HO375 := n0_
       have BK372 := n1_
       have HB := n2_
       clear n0_ n1_ n2_
       (try clear hb)
       (try clear hb2)
       (try clear hk)
       (try clear hi)
       refine hK.out _ _ ⟨HS0_, HS1_⟩ (fun hHeld => ?_)
       clear hK K
       refine norm_ (a' := ?_) ?_ ?_
       rotate_left
       ·show Act.put _ (some 15) _ = _
        simp only [Act.put, List.setIfInBounds_toArray, List.set_cons_zero, List.set_cons_succ, i64_w, i32_w]
        rfl
       refine two_ (i := 7) (j := 9) (Ni := some 19) (Nj := some 5) #[true, true, true, true, true, true, true, true, false, false, false] #[true, true, true, true, true, true, true, false, false, true, false] rfl rfl rfl rfl (two_of HT_.out (by kernel_rfl)) (by decide) (by decide) (fun K hK => ?_) (fun K hK => ?_)
       ·skip
        refine goes_ Try.func95 (by kernel_rfl) rfl #[.string (rdOf ByteArray.empty t373 1)] (by rfl) rfl rfl Z75 ?_
        with_reducible refine (spec_l1Num.calls k (rdOf ByteArray.empty t373 1) t379 _ A7.out).mono ?_
        rintro e w15 ⟨rfl, hb⟩
        have HS0_ := (hb.cell (World.block_lt_of_cell? _ _ (hHeld.1))).trans (hHeld.1)
        have HS1_ := (hb.cell (World.block_lt_of_cell? _ _ (hHeld.2))).trans (hHeld.2)
        refine ⟨_, rfl, ?_⟩
        have n0_ := Aside0.mk (Kd.R_below Z31 hb)
        have n1_ := Aside0.mk (blk_below (g := gb372) (o := .cells #[.int .i64 0, .int .i64 0] 80 (0, 0)) Z57 hb)
        have n2_ := Aside0.mk (below_step Z93 hb)
        clear HO375
        clear BK372
        clear HB
        have HO375 := n0_
        have BK372 := n1_
        have HB := n2_
        clear n0_ n1_ n2_
        (try clear hb)
        (try clear hb2)
        (try clear hk)
        (try clear hi)
        refine hK.out _ _ ⟨HS0_, HS1_⟩ (fun hHeld => ?_)
        clear hK K
        refine norm_ (a' := ?_) ?_ ?_
        rotate_left
        ·show Act.put _ (some 19) _ = _
         simp only [Act.put, List.setIfInBounds_toArray, List.set_cons_zero, List.set_cons_succ, i64_w, i32_w]
         rfl
        refine pure_ (i := 8) (N := some 20) (v := ?_) (a' := ?_) #[true, true, true, true, true, true, true, true, true, false, false] rfl rfl (any_of HT_.out (by kernel_rfl)) (fun _ _ _ h => h) (Or.inl ⟨by rfl, ?_⟩) ?_ ?_
        rotate_left
        ·intro w'
         go_simp
         with_reducible rfl
        rotate_left
        ·simp only [Act.put, List.setIfInBounds_toArray, List.set_cons_zero, List.set_cons_succ, i64_w, i32_w]
         rfl
        refine one_ (i := 9) (N := some 5) #[true, true, true, true, true, true, true, true, true, true, false] rfl rfl (one_of HT_.out (by kernel_rfl)) (by decide) (fun K hK => ?_)
        refine box_step ?hg (N := 5) ?hd (cs := #[.int .i64 0, .int .i64 0]) (t := 80) ?hr ?_; (case hd => rfl); (case hg => rfl); (case hr => first | (go_simp; done) | (go_simp; rfl))
        intro gb380 hg w16 hbox hb
        have HS0_ := (hb.cell (World.block_lt_of_cell? _ _ (hHeld.1))).trans (hHeld.1)
        have HS1_ := (hb.cell (World.block_lt_of_cell? _ _ (hHeld.2))).trans (hHeld.2)
        have n0_ := Aside0.mk (Kd.R_below Z31 hb)
        have n1_ := Aside0.mk (blk_below (g := gb372) (o := .cells #[.int .i64 0, .int .i64 0] 80 (0, 0)) Z57 hb)
        have n2_ := Aside0.mk (below_step Z93 hb)
        have n3_ := Aside0.mk (hbox)
        have n4_ := Aside0.mk ((Z191 : w.heap.size ≤ gb380))
        have n5_ := Aside0.mk ((Z191 : w.heap.size ≤ gb380))
        have n6_ := Aside0.mk ((Z199 : gb372 ≠ gb380))
        have n7_ := Aside0.mk ((Z200 : gb380 ≠ gb372))
        clear HO375
        clear BK372
        clear HB
        have HO375 := n0_
        have BK372 := n1_
        have HB := n2_
        have BK380 := n3_
        have GW380 := n4_
        have GE380 := n5_
        have NB372_380 := n6_
        have NB380_372 := n7_
        clear n0_ n1_ n2_ n3_ n4_ n5_ n6_ n7_
        clear hb hbox hg
        refine hK.out _ _ ⟨HS0_, HS1_⟩ (fun hHeld => ?_)
        clear hK K
        refine norm_ (a' := ?_) ?_ ?_
        rotate_left
        ·show Act.put _ (some 5) _ = _
         simp only [Act.put, List.setIfInBounds_toArray, List.set_cons_zero, List.set_cons_succ, i64_w, i32_w]
         rfl
        exact norm_ Z18 (hCont (gb380) _ ⟨hHeld, Z31, Z57, Z58, GW380.out, GE380.out, NB372_380.out, NB380_372.out, Z121⟩)
       ·skip
        refine box_step ?hg (N := 5) ?hd (cs := #[.int .i64 0, .int .i64 0]) (t := 80) ?hr ?_; (case hd => rfl); (case hg => rfl); (case hr => first | (go_simp; done) | (go_simp; rfl))
        intro gb380 hg w15 hbox hb
        have HS0_ := (hb.cell (World.block_lt_of_cell? _ _ (hHeld.1))).trans (hHeld.1)
        have HS1_ := (hb.cell (World.block_lt_of_cell? _ _ (hHeld.2))).trans (hHeld.2)
        have n0_ := Aside0.mk (Kd.R_below Z31 hb)
        have n1_ := Aside0.mk (blk_below (g := gb372) (o := .cells #[.int .i64 0, .int .i64 0] 80 (0, 0)) Z57 hb)
        have n2_ := Aside0.mk (below_step Z93 hb)
        have n3_ := Aside0.mk (hbox)
        have n4_ := Aside0.mk ((Z191 : w.heap.size ≤ gb380))
        have n5_ := Aside0.mk ((Z191 : w.heap.size ≤ gb380))
        have n6_ := Aside0.mk ((Z199 : gb372 ≠ gb380))
        have n7_ := Aside0.mk ((Z200 : gb380 ≠ gb372))
        clear HO375
        clear BK372
        clear HB
        have HO375 := n0_
        have BK372 := n1_
        have HB := n2_
        have BK380 := n3_
        have GW380 := n4_
        have GE380 := n5_
        have NB372_380 := n6_
        have NB380_372 := n7_
        clear n0_ n1_ n2_ n3_ n4_ n5_ n6_ n7_
        clear hb hbox hg
        refine hK.out _ _ ⟨HS0_, HS1_⟩ (fun hHeld => ?_)
        clear hK K
        refine norm_ (a' := ?_) ?_ ?_
        rotate_left
        ·show Act.put _ (some 5) _ = _
         simp only [Act.put, List.setIfInBounds_toArray, List.set_cons_zero, List.set_cons_succ, i64_w, i32_w]
         rfl
        refine one_ (i := 7) (N := some 19) #[true, true, true, true, true, true, true, true, false, true, false] rfl rfl (one_of HT_.out (by kernel_rfl)) (by decide) (fun K hK => ?_)
        refine goes_ Try.func95 (by kernel_rfl) rfl #[.string (rdOf ByteArray.empty t373 1)] (by rfl) rfl rfl Z75 ?_
        with_reducible refine (spec_l1Num.calls k (rdOf ByteArray.empty t373 1) t379 _ A7.out).mono ?_
        rintro e w16 ⟨rfl, hb⟩
        have HS0_ := (hb.cell (World.block_lt_of_cell? _ _ (hHeld.1))).trans (hHeld.1)
        have HS1_ := (hb.cell (World.block_lt_of_cell? _ _ (hHeld.2))).trans (hHeld.2)
        refine ⟨_, rfl, ?_⟩
        have n0_ := Aside0.mk (Kd.R_below Z31 hb)
        have n1_ := Aside0.mk (blk_below (g := gb372) (o := .cells #[.int .i64 0, .int .i64 0] 80 (0, 0)) Z57 hb)
        have n2_ := Aside0.mk (blk_below (g := gb380) (o := .cells #[.int .i64 0, .int .i64 0] 80 (0, 0)) Z58 hb)
        have n3_ := Aside0.mk (below_step Z121 hb)
        clear HO375
        clear BK372
        clear BK380
        clear HB
        have HO375 := n0_
        have BK372 := n1_
        have BK380 := n2_
        have HB := n3_
        clear n0_ n1_ n2_ n3_
        (try clear hb)
        (try clear hb2)
        (try clear hk)
        (try clear hi)
        refine hK.out _ _ ⟨HS0_, HS1_⟩ (fun hHeld => ?_)
        clear hK K
        refine norm_ (a' := ?_) ?_ ?_
        rotate_left
        ·show Act.put _ (some 19) _ = _
         simp only [Act.put, List.setIfInBounds_toArray, List.set_cons_zero, List.set_cons_succ, i64_w, i32_w]
         rfl
        refine pure_ (i := 8) (N := some 20) (v := ?_) (a' := ?_) #[true, true, true, true, true, true, true, true, true, true, false] rfl rfl (any_of HT_.out (by kernel_rfl)) (fun _ _ _ h => h) (Or.inl ⟨by rfl, ?_⟩) ?_ ?_
        rotate_left
        ·intro w'
         go_simp
         with_reducible rfl
        rotate_left
        ·simp only [Act.put, List.setIfInBounds_toArray, List.set_cons_zero, List.set_cons_succ, i64_w, i32_w]
         rfl
        exact norm_ Z18 (hCont (gb380) _ ⟨hHeld, Z31, Z57, Z58, GW380.out, GE380.out, NB372_380.out, NB380_372.out, Z121⟩)
      ·skip
       refine box_step ?hg (N := 5) ?hd (cs := #[.int .i64 0, .int .i64 0]) (t := 80) ?hr ?_; (case hd => rfl); (case hg => rfl); (case hr => first | (go_simp; done) | (go_simp; rfl))
       intro gb380 hg w14 hbox hb
       have HS0_ := (hb.cell (World.block_lt_of_cell? _ _ (hHeld.1))).trans (hHeld.1)
       have HS1_ := (hb.cell (World.block_lt_of_cell? _ _ (hHeld.2))).trans (hHeld.2)
       have n0_ := Aside0.mk (Kd.R_below Z31 hb)
       have n1_ := Aside0.mk (blk_below (g := gb372) (o := .cells #[.int .i64 0, .int .i64 0] 80 (0, 0)) Z57 hb)
       have n2_ := Aside0.mk (below_step Z93 hb)
       have n3_ := Aside0.mk (hbox)
       have n4_ := Aside0.mk ((Z191 : w.heap.size ≤ gb380))
       have n5_ := Aside0.mk ((Z191 : w.heap.size ≤ gb380))
       have n6_ := Aside0.mk ((Z199 : gb372 ≠ gb380))
       have n7_ := Aside0.mk ((Z200 : gb380 ≠ gb372))
       clear HO375
       clear BK372
       clear HB
       have HO375 := n0_
       have BK372 := n1_
       have HB := n2_
       have BK380 := n3_
       have GW380 := n4_
       have GE380 := n5_
       have NB372_380 := n6_
       have NB380_372 := n7_
       clear n0_ n1_ n2_ n3_ n4_ n5_ n6_ n7_
       clear hb hbox hg
       refine hK.out _ _ ⟨HS0_, HS1_⟩ (fun hHeld => ?_)
       clear hK K
       refine norm_ (a' := ?_) ?_ ?_
       rotate_left
       ·show Act.put _ (some 5) _ = _
        simp only [Act.put, List.setIfInBounds_toArray, List.set_cons_zero, List.set_cons_succ, i64_w, i32_w]
        rfl
       refine one_ (i := 3) (N := some 15) #[true, true, true, true, true, true, true, false, false, true, false] rfl rfl (one_of HT_.out (by kernel_rfl)) (by decide) (fun K hK => ?_)
       refine goes_ Try.func95 (by kernel_rfl) rfl #[.string (rdOf ByteArray.empty t373 0)] (by rfl) rfl rfl Z75 ?_
       with_reducible refine (spec_l1Num.calls k (rdOf ByteArray.empty t373 0) t377 _ A5.out).mono ?_
       rintro e w15 ⟨rfl, hb⟩
       have HS0_ := (hb.cell (World.block_lt_of_cell? _ _ (hHeld.1))).trans (hHeld.1)
       have HS1_ := (hb.cell (World.block_lt_of_cell? _ _ (hHeld.2))).trans (hHeld.2)
       refine ⟨_, rfl, ?_⟩
       have n0_ := Aside0.mk (Kd.R_below Z31 hb)
       have n1_ := Aside0.mk (blk_below (g := gb372) (o := .cells #[.int .i64 0, .int .i64 0] 80 (0, 0)) Z57 hb)
       have n2_ := Aside0.mk (blk_below (g := gb380) (o := .cells #[.int .i64 0, .int .i64 0] 80 (0, 0)) Z58 hb)
       have n3_ := Aside0.mk (below_step Z121 hb)
       clear HO375
       clear BK372
       clear BK380
       clear HB
       have HO375 := n0_
       have BK372 := n1_
       have BK380 := n2_
       have HB := n3_
       clear n0_ n1_ n2_ n3_
       (try clear hb)
       (try clear hb2)
       (try clear hk)
       (try clear hi)
       refine hK.out _ _ ⟨HS0_, HS1_⟩ (fun hHeld => ?_)
       clear hK K
       refine norm_ (a' := ?_) ?_ ?_
       rotate_left
       ·show Act.put _ (some 15) _ = _
        simp only [Act.put, List.setIfInBounds_toArray, List.set_cons_zero, List.set_cons_succ, i64_w, i32_w]
        rfl
       refine one_ (i := 7) (N := some 19) #[true, true, true, true, true, true, true, true, false, true, false] rfl rfl (one_of HT_.out (by kernel_rfl)) (by decide) (fun K hK => ?_)
       refine goes_ Try.func95 (by kernel_rfl) rfl #[.string (rdOf ByteArray.empty t373 1)] (by rfl) rfl rfl Z75 ?_
       with_reducible refine (spec_l1Num.calls k (rdOf ByteArray.empty t373 1) t379 _ A7.out).mono ?_
       rintro e w16 ⟨rfl, hb⟩
       have HS0_ := (hb.cell (World.block_lt_of_cell? _ _ (hHeld.1))).trans (hHeld.1)
       have HS1_ := (hb.cell (World.block_lt_of_cell? _ _ (hHeld.2))).trans (hHeld.2)
       refine ⟨_, rfl, ?_⟩
       have n0_ := Aside0.mk (Kd.R_below Z31 hb)
       have n1_ := Aside0.mk (blk_below (g := gb372) (o := .cells #[.int .i64 0, .int .i64 0] 80 (0, 0)) Z57 hb)
       have n2_ := Aside0.mk (blk_below (g := gb380) (o := .cells #[.int .i64 0, .int .i64 0] 80 (0, 0)) Z58 hb)
       have n3_ := Aside0.mk (below_step Z121 hb)
       clear HO375
       clear BK372
       clear BK380
       clear HB
       have HO375 := n0_
       have BK372 := n1_
       have BK380 := n2_
       have HB := n3_
       clear n0_ n1_ n2_ n3_
       (try clear hb)
       (try clear hb2)
       (try clear hk)
       (try clear hi)
       refine hK.out _ _ ⟨HS0_, HS1_⟩ (fun hHeld => ?_)
       clear hK K
       refine norm_ (a' := ?_) ?_ ?_
       rotate_left
       ·show Act.put _ (some 19) _ = _
        simp only [Act.put, List.setIfInBounds_toArray, List.set_cons_zero, List.set_cons_succ, i64_w, i32_w]
        rfl
       refine pure_ (i := 8) (N := some 20) (v := ?_) (a' := ?_) #[true, true, true, true, true, true, true, true, true, true, false] rfl rfl (any_of HT_.out (by kernel_rfl)) (fun _ _ _ h => h) (Or.inl ⟨by rfl, ?_⟩) ?_ ?_
       rotate_left
       ·intro w'
        go_simp
        with_reducible rfl
       rotate_left
       ·simp only [Act.put, List.setIfInBounds_toArray, List.set_cons_zero, List.set_cons_succ, i64_w, i32_w]
        rfl
       exact norm_ Z18 (hCont (gb380) _ ⟨hHeld, Z31, Z57, Z58, GW380.out, GE380.out, NB372_380.out, NB380_372.out, Z121⟩)
     rintro gb380 w17 ⟨hS_, h0_, h1_, h2_, h3_, h4_, h5_, h6_, h7_⟩
     have n0_ : Aside0 (Kd.R Kd.string 9 w17 w.heap.size (fun _ => True) (.slice (some ad376) t373.length co12) t373) := ⟨h0_⟩
     have n1_ : Aside0 (w17.heap[gb372]? = some (.cells #[.int .i64 0, .int .i64 0] 80 (0, 0))) := ⟨h1_⟩
     have n2_ : Aside0 (w17.heap[gb380]? = some (.cells #[.int .i64 0, .int .i64 0] 80 (0, 0))) := ⟨h2_⟩
     have n3_ : Aside0 (w.heap.size ≤ gb380) := ⟨h3_⟩
     have n4_ : Aside0 (w.heap.size ≤ gb380) := ⟨h4_⟩
     have n5_ : Aside0 (gb372 ≠ gb380) := ⟨h5_⟩
     have n6_ : Aside0 (gb380 ≠ gb372) := ⟨h6_⟩
     have n7_ : Aside0 (Below w.heap.size w w17) := ⟨h7_⟩
     clear HO375
     clear BK372
     clear HB
     clear h0_ h1_ h2_ h3_ h4_ h5_ h6_ h7_
     have HO375 := n0_
     have BK372 := n1_
     have BK380 := n2_
     have GW380 := n3_
     have GE380 := n4_
     have NB372_380 := n5_
     have NB380_372 := n6_
     have HB := n7_
     clear n0_ n1_ n2_ n3_ n4_ n5_ n6_ n7_
     have hHeld : w17.cell? ad376 = some (.string (rdOf ByteArray.empty t373 0)) ∧ w17.cell? ⟨ad376.block, ad376.off + 1, none⟩ = some (.string (rdOf ByteArray.empty t373 1)) := hS_
     refine norm_ (a' := ?_) ?_ ?_
     rotate_left
     ·simp only [putAll, Act.put, List.setIfInBounds_toArray, List.set_cons_zero, List.set_cons_succ]
      rfl
     refine one_ (i := 10) (N := none) #[true, true, true, true, true, true, true, true, true, true, true] rfl rfl (one_of HT_.out (by kernel_rfl)) (by decide) (fun K hK => ?_)
     have hs18 : w17.cell? ⟨gb380, 0, none⟩ = some (.int .i64 0) := (blk_cell BK380.out 0).trans rfl
     have hfs18 := blk_frozen BK380.out 0
     have hns18_0 := NB372_380.out
     have hms18_0 := NB380_372.out
     have hs19 : w17.cell? ⟨gb380, 1, none⟩ = some (.int .i64 0) := (blk_cell BK380.out 1).trans rfl
     have hfs19 := blk_frozen BK380.out 1
     have hns19_0 := NB372_380.out
     have hms19_0 := NB380_372.out
     refine skip_ (w1 := ?_) (by rfl) rfl ?_ ?_
     rotate_left
     ·go_simp
      rfl
     refine hK.out _ _ ⟨((cell_far (p := ⟨gb380, _, none⟩) Z173 _).trans (((cell_far (p := ⟨gb380, _, none⟩) Z173 _).trans (hHeld.1)))), ((cell_far (p := ⟨gb380, _, none⟩) Z173 _).trans (((cell_far (p := ⟨gb380, _, none⟩) Z173 _).trans (hHeld.2))))⟩ (fun hHeld => ?_)
     clear hK K
     refine done_ (done_of HT_.out (by kernel_rfl)) ?_
     have hnb20 := NB380_372.out
     have hnc20 := NB372_380.out
     have hcz21_0 : w17.cell? ⟨gb380, 0, none⟩ = some (.int .i64 0) := (blk_cell BK380.out 0).trans rfl
     have hcz21_1 : w17.cell? ⟨gb380, 1, none⟩ = some (.int .i64 0) := (blk_cell BK380.out 1).trans rfl
     have hfz21_0 := blk_frozen BK380.out 0
     have hfz21_1 := blk_frozen BK380.out 1
     try go_wp2_with (first | ((with_reducible refine gate_callee (f := 86) rfl ?_); refine goesL_ (some 22) rfl rfl Try.func86 (by kernel_rfl) rfl #[.agg #[.int .i64 t377, .int .i64 t379]] rfl Z75 ?_; (with_reducible refine (spec_EndOk.calls t377 t379 true _ A8.out).mono ?_); rintro e w22 ⟨rfl, hb⟩; refine ⟨_, rfl, ?_⟩; have n0_ := Aside0.mk (Kd.R_below Z170 hb); have n1_ := Aside0.mk (blk_below (g := gb372) (o := .cells #[.int .i64 0, .int .i64 0] 80 (0, 0)) Z178 hb); have n2_ := Aside0.mk (blk_below (g := gb380) (o := .cells #[.int .i64 t377, .int .i64 t379] 80 (0, 0)) Z185 hb); have n3_ := Aside0.mk (below_step Z121 hb); clear HO375; clear BK372; clear BK380; clear HB; have HO375 := n0_; have BK372 := n1_; have BK380 := n2_; have HB := n3_; clear n0_ n1_ n2_ n3_; (try clear hb); have hcz23_0 : w22.cell? ⟨gb380, 0, none⟩ = some (.int .i64 t377) := (blk_cell BK380.out 0).trans rfl; have hcz23_1 : w22.cell? ⟨gb380, 1, none⟩ = some (.int .i64 t379) := (blk_cell BK380.out 1).trans rfl; have hfz23_0 := blk_frozen BK380.out 0; have hfz23_1 := blk_frozen BK380.out 1; have hcz24_0 : w22.cell? ⟨gb372, 0, none⟩ = some (.int .i64 0) := (blk_cell BK372.out 0).trans rfl; have hcz24_1 : w22.cell? ⟨gb372, 1, none⟩ = some (.int .i64 0) := (blk_cell BK372.out 1).trans rfl; have hfz24_0 := blk_frozen BK372.out 0; have hfz24_1 := blk_frozen BK372.out 1))
     refine bodyPost_ret (results_ct rfl _ _ gb372 80 #[.int .i64 t377, .int .i64 t379] (0, 0) _ rfl (by (with_reducible repeat (first | refine blk_drewN ?_ _ | refine blk_drew ?_ | refine blk_alloc ?_ _)); refine blk_put (cs := #[.int .i64 t377, .int .i64 0]) ?_ 1 _ rfl; (with_reducible repeat (first | refine blk_drewN ?_ _ | refine blk_drew ?_ | refine blk_alloc ?_ _)); refine blk_put (cs := #[.int .i64 0, .int .i64 0]) ?_ 0 _ rfl; (with_reducible repeat (first | refine blk_drewN ?_ _ | refine blk_drew ?_ | refine blk_alloc ?_ _)); exact BK372.out) Try.underlying80 rfl (by kernel_rfl)) rfl ?_
     exact ⟨by first | rfl | (simp [errW_none, errW_some] <;> rfl) | (simp [*, errW_none, errW_some] <;> rfl), by repeat (first | (with_reducible first | exact HB.out | apply below_alloc | apply pw_below_drewN | apply below_drew1 | refine below_set ?_ GE372.out | refine below_set ?_ GE380.out) | exact HB.out)⟩
    ·replace c9 := Bool.eq_false_iff.mpr c9
     subst c9
     have H1 : (some (0, 0, false)) = some (r1, r2, r3) := by rw [if_neg (show ¬ (false = true) by decide)] at H; exact H
     clear H
     have H := H1
     clear H1
     simp only [Option.some.injEq, Prod.mk.injEq] at H
     obtain ⟨rfl, rfl, rfl⟩ := H
     go_enter Try.func93, Try.ntmps93
     try go_wp2_with (first | ((with_reducible refine gate_dst (N := 2) rfl ?_); refine box_event ?hg (N := 2) ?hd (cs := #[.int .i64 0, .int .i64 0]) (t := 80) ?hr ?_; (case hd => rfl); (case hg => rfl); (case hr => first | (go_simp; done) | (go_simp; rfl)); intro gb372 hg w25 hbox hb; have n0_ := Aside0.mk (below_step Z71 hb); have n1_ := Aside0.mk (hbox); have n2_ := Aside0.mk ((Z189 : w.heap.size ≤ gb372)); have n3_ := Aside0.mk ((Z189 : w.heap.size ≤ gb372)); clear HB; have HB := n0_; have BK372 := n1_; have GW372 := n2_; have GE372 := n3_; clear n0_ n1_ n2_ n3_; clear hb hbox hg) | ((with_reducible refine gate_callee (f := 94) rfl ?_); refine goesL_ (some 7) rfl rfl Try.func94 (by kernel_rfl) rfl #[.string a0] rfl Z75 ?_; (with_reducible refine (spec_l1Words.calls k a0 t373 _ A2.out).mono ?_); rintro e w26 ⟨v374, rfl, ho0, hb⟩; refine ⟨_, rfl, ?_⟩; have n0_ := Aside0.mk (Kd.R_lower ho0 (below_size Z93)); have n1_ := Aside0.mk (blk_below (g := gb372) (o := .cells #[.int .i64 0, .int .i64 0] 80 (0, 0)) Z57 hb); have n2_ := Aside0.mk (below_step Z93 hb); clear BK372; clear HB; have HO375 := n0_; have BK372 := n1_; have HB := n2_; clear n0_ n1_ n2_; (try clear hb); (try clear ho0); obtain ⟨Ao27, co27, eo27⟩ := Kd.R_slice HO375.out; subst eo27))
     have n0_ := Aside0.mk (Kd.R_drew HO375.out)
     have n1_ := Aside0.mk (blk_drew BK372.out)
     have n2_ := Aside0.mk (below_drew1 HB.out)
     clear HO375
     clear BK372
     clear HB
     have HO375 := n0_
     have BK372 := n1_
     have HB := n2_
     clear n0_ n1_ n2_
     have p376 : 0 ≤ (0 : Int) := (by omega)
     have q376 : 0 < (t373.length : Int) := of_decide_eq_true Z11
     obtain ⟨ad376, e376, hx376_0⟩ := Kd.at_string (Kd.R_reads' HO375.out).2.2 0 p376 q376
     cases e376
     have qi376 : (0 < t373.length) = True := eq_true (by omega)
     (try rw [show ((0 : Int)).toNat = 0 from rfl] at hx376_0)
     (try rw [Addr.add_zero'] at hx376_0)
     replace p376 := eq_true p376
     replace q376 := eq_true q376
     have p378 : 0 ≤ (1 : Int) := (by omega)
     have q378 : 1 < (t373.length : Int) := of_decide_eq_true Z11
     obtain ⟨ad378, e378, hx378_0⟩ := Kd.at_string (Kd.R_reads' HO375.out).2.2 1 p378 q378
     obtain rfl : ad376 = ad378 := (by injection e378)
     (try simp only [show (1 : Int).toNat = 1 from rfl, Nat.reduceMul, Nat.reduceEqDiff, Go.Addr.add, ↓reduceIte] at hx378_0)
     have qi378 : (1 < t373.length) = True := eq_true (by omega)
     (try rw [show ((1 : Int)).toNat = 1 from rfl] at hx378_0)
     replace p378 := eq_true p378
     replace q378 := eq_true q378
     refine start_ (n := 11) (S := fun w' => w'.cell? ad376 = some (.string (rdOf ByteArray.empty t373 0)) ∧ w'.cell? ⟨ad376.block, ad376.off + 1, none⟩ = some (.string (rdOf ByteArray.empty t373 1))) (ds := []) #[false, false, false, false, false, false, false, false, false, false, false] (by kernel_rfl) rfl rfl ⟨hx376_0, hx378_0⟩ (fun hHeld => ?_); refine with_tabW spec_EndRead.tab4 spec_EndRead.bits4 (fun HT_ HW_ => ?_)
     generalize w26.drew = w28 at HO375 BK372 HB hx376_0 hx378_0 hHeld ⊢
     refine pure_ (i := 0) (N := some 12) (v := ?_) (a' := ?_) #[true, false, false, false, false, false, false, false, false, false, false] rfl rfl (any_of HT_.out (by kernel_rfl)) (fun _ _ _ h => h) (Or.inl ⟨by rfl, ?_⟩) ?_ ?_
     rotate_left
     ·intro w'
      go_simp
      with_reducible rfl
     rotate_left
     ·simp only [Act.put, List.setIfInBounds_toArray, List.set_cons_zero, List.set_cons_succ, i64_w, i32_w]
      rfl
     refine pure_ (i := 1) (N := some 13) (v := ?_) (a' := ?_) #[true, true, false, false, false, false, false, false, false, false, false] rfl rfl (any_of HT_.out (by kernel_rfl)) (fun _ _ _ h => h) (Or.inl ⟨by rfl, ?_⟩) ?_ ?_
     rotate_left
     ·intro w'
      go_simp
      with_reducible rfl
     rotate_left
     ·simp only [Act.put, List.setIfInBounds_toArray, List.set_cons_zero, List.set_cons_succ, i64_w, i32_w]
      rfl
     refine pure_ (i := 4) (N := some 16) (v := ?_) (a' := ?_) #[true, true, false, false, true, false, false, false, false, false, false] rfl rfl (any_of HT_.out (by kernel_rfl)) (fun _ _ _ h => h) (Or.inl ⟨by rfl, ?_⟩) ?_ ?_
     rotate_left
     ·intro w'
      go_simp
      with_reducible rfl
     rotate_left
     ·simp only [Act.put, List.setIfInBounds_toArray, List.set_cons_zero, List.set_cons_succ, i64_w, i32_w]
      rfl
     refine pure_ (i := 5) (N := some 17) (v := ?_) (a' := ?_) #[true, true, false, false, true, true, false, false, false, false, false] rfl rfl (any_of HT_.out (by kernel_rfl)) (fun _ _ _ h => h) (Or.inl ⟨by rfl, ?_⟩) ?_ ?_
     rotate_left
     ·intro w'
      go_simp
      with_reducible rfl
     rotate_left
     ·simp only [Act.put, List.setIfInBounds_toArray, List.set_cons_zero, List.set_cons_succ, i64_w, i32_w]
      rfl
     refine take_ (i := 2) (N := some 14) (v := ?_) (a' := ?_) #[true, true, true, false, true, true, false, false, false, false, false] rfl rfl (take_ofW HT_.out HW_.out (by kernel_rfl)) (fun _ _ _ h => h) (Or.inl ⟨by rfl, ?_⟩) hHeld ?_ ?_
     rotate_left
     ·rintro w' ⟨s0, s1⟩
      go_simp
      with_reducible rfl
     rotate_left
     ·simp only [Act.put, List.setIfInBounds_toArray, List.set_cons_zero, List.set_cons_succ, i64_w, i32_w]
      rfl
     refine take_ (i := 6) (N := some 18) (v := ?_) (a' := ?_) #[true, true, true, false, true, true, true, false, false, false, false] rfl rfl (take_ofW HT_.out HW_.out (by kernel_rfl)) (fun _ _ _ h => h) (Or.inl ⟨by rfl, ?_⟩) hHeld ?_ ?_
     rotate_left
     ·rintro w' ⟨s0, s1⟩
      go_simp
      with_reducible rfl
     rotate_left
     ·simp only [Act.put, List.setIfInBounds_toArray, List.set_cons_zero, List.set_cons_succ, i64_w, i32_w]
      rfl
     refine join_ (σ := Nat) 1 #[true, true, true, true, true, true, true, true, true, true, false] (fun s_ => [(15, .int .i64 t377), (19, .int .i64 t379), (5, .pointer (some ⟨s_, 0, none⟩)), (20, .agg #[.int .i64 t377, .int .i64 t379])]) (fun s_ w' => (w'.cell? ad376 = some (.string (rdOf ByteArray.empty t373 0)) ∧ w'.cell? ⟨ad376.block, ad376.off + 1, none⟩ = some (.string (rdOf ByteArray.empty t373 1))) ∧ (Kd.R Kd.string 9 w' w.heap.size (fun _ => True) (.slice (some ad376) t373.length co27) t373) ∧ (w'.heap[gb372]? = some (.cells #[.int .i64 0, .int .i64 0] 80 (0, 0))) ∧ (w'.heap[s_]? = some (.cells #[.int .i64 0, .int .i64 0] 80 (0, 0))) ∧ (w.heap.size ≤ s_) ∧ (w.heap.size ≤ s_) ∧ (gb372 ≠ s_) ∧ (s_ ≠ gb372) ∧ (Below w.heap.size w w')) ?_ ?_
     rotate_left
     ·intro hCont
      refine two_ (i := 3) (j := 9) (Ni := some 15) (Nj := some 5) #[true, true, true, true, true, true, true, false, false, false, false] #[true, true, true, false, true, true, true, false, false, true, false] rfl rfl rfl rfl (two_of HT_.out (by kernel_rfl)) (by decide) (by decide) (fun K hK => ?_) (fun K hK => ?_)
      ·skip
       refine goes_ Try.func95 (by kernel_rfl) rfl #[.string (rdOf ByteArray.empty t373 0)] (by rfl) rfl rfl Z75 ?_
       with_reducible refine (spec_l1Num.calls k (rdOf ByteArray.empty t373 0) t377 _ A5.out).mono ?_
       rintro e w29 ⟨rfl, hb⟩
       have HS0_ := (hb.cell (World.block_lt_of_cell? _ _ (hHeld.1))).trans (hHeld.1)
       have HS1_ := (hb.cell (World.block_lt_of_cell? _ _ (hHeld.2))).trans (hHeld.2)
       refine ⟨_, rfl, ?_⟩
       have n0_ := Aside0.mk (Kd.R_below Z31 hb)
       have n1_ := Aside0.mk (blk_below (g := gb372) (o := .cells #[.int .i64 0, .int .i64 0] 80 (0, 0)) Z57 hb)
       have n2_ := Aside0.mk (below_step Z93 hb)
       clear HO375
       clear BK372
       clear HB
       have HO375 := n0_
       have BK372 := n1_
       have HB := n2_
       clear n0_ n1_ n2_
       (try clear hb)
       (try clear hb2)
       (try clear hk)
       (try clear hi)
       refine hK.out _ _ ⟨HS0_, HS1_⟩ (fun hHeld => ?_)
       clear hK K
       refine norm_ (a' := ?_) ?_ ?_
       rotate_left
       ·show Act.put _ (some 15) _ = _
        simp only [Act.put, List.setIfInBounds_toArray, List.set_cons_zero, List.set_cons_succ, i64_w, i32_w]
        rfl
       refine two_ (i := 7) (j := 9) (Ni := some 19) (Nj := some 5) #[true, true, true, true, true, true, true, true, false, false, false] #[true, true, true, true, true, true, true, false, false, true, false] rfl rfl rfl rfl (two_of HT_.out (by kernel_rfl)) (by decide) (by decide) (fun K hK => ?_) (fun K hK => ?_)
       ·skip
        refine goes_ Try.func95 (by kernel_rfl) rfl #[.string (rdOf ByteArray.empty t373 1)] (by rfl) rfl rfl Z75 ?_
        with_reducible refine (spec_l1Num.calls k (rdOf ByteArray.empty t373 1) t379 _ A7.out).mono ?_
        rintro e w30 ⟨rfl, hb⟩
        have HS0_ := (hb.cell (World.block_lt_of_cell? _ _ (hHeld.1))).trans (hHeld.1)
        have HS1_ := (hb.cell (World.block_lt_of_cell? _ _ (hHeld.2))).trans (hHeld.2)
        refine ⟨_, rfl, ?_⟩
        have n0_ := Aside0.mk (Kd.R_below Z31 hb)
        have n1_ := Aside0.mk (blk_below (g := gb372) (o := .cells #[.int .i64 0, .int .i64 0] 80 (0, 0)) Z57 hb)
        have n2_ := Aside0.mk (below_step Z93 hb)
        clear HO375
        clear BK372
        clear HB
        have HO375 := n0_
        have BK372 := n1_
        have HB := n2_
        clear n0_ n1_ n2_
        (try clear hb)
        (try clear hb2)
        (try clear hk)
        (try clear hi)
        refine hK.out _ _ ⟨HS0_, HS1_⟩ (fun hHeld => ?_)
        clear hK K
        refine norm_ (a' := ?_) ?_ ?_
        rotate_left
        ·show Act.put _ (some 19) _ = _
         simp only [Act.put, List.setIfInBounds_toArray, List.set_cons_zero, List.set_cons_succ, i64_w, i32_w]
         rfl
        refine pure_ (i := 8) (N := some 20) (v := ?_) (a' := ?_) #[true, true, true, true, true, true, true, true, true, false, false] rfl rfl (any_of HT_.out (by kernel_rfl)) (fun _ _ _ h => h) (Or.inl ⟨by rfl, ?_⟩) ?_ ?_
        rotate_left
        ·intro w'
         go_simp
         with_reducible rfl
        rotate_left
        ·simp only [Act.put, List.setIfInBounds_toArray, List.set_cons_zero, List.set_cons_succ, i64_w, i32_w]
         rfl
        refine one_ (i := 9) (N := some 5) #[true, true, true, true, true, true, true, true, true, true, false] rfl rfl (one_of HT_.out (by kernel_rfl)) (by decide) (fun K hK => ?_)
        refine box_step ?hg (N := 5) ?hd (cs := #[.int .i64 0, .int .i64 0]) (t := 80) ?hr ?_; (case hd => rfl); (case hg => rfl); (case hr => first | (go_simp; done) | (go_simp; rfl))
        intro gb380 hg w31 hbox hb
        have HS0_ := (hb.cell (World.block_lt_of_cell? _ _ (hHeld.1))).trans (hHeld.1)
        have HS1_ := (hb.cell (World.block_lt_of_cell? _ _ (hHeld.2))).trans (hHeld.2)
        have n0_ := Aside0.mk (Kd.R_below Z31 hb)
        have n1_ := Aside0.mk (blk_below (g := gb372) (o := .cells #[.int .i64 0, .int .i64 0] 80 (0, 0)) Z57 hb)
        have n2_ := Aside0.mk (below_step Z93 hb)
        have n3_ := Aside0.mk (hbox)
        have n4_ := Aside0.mk ((Z191 : w.heap.size ≤ gb380))
        have n5_ := Aside0.mk ((Z191 : w.heap.size ≤ gb380))
        have n6_ := Aside0.mk ((Z199 : gb372 ≠ gb380))
        have n7_ := Aside0.mk ((Z200 : gb380 ≠ gb372))
        clear HO375
        clear BK372
        clear HB
        have HO375 := n0_
        have BK372 := n1_
        have HB := n2_
        have BK380 := n3_
        have GW380 := n4_
        have GE380 := n5_
        have NB372_380 := n6_
        have NB380_372 := n7_
        clear n0_ n1_ n2_ n3_ n4_ n5_ n6_ n7_
        clear hb hbox hg
        refine hK.out _ _ ⟨HS0_, HS1_⟩ (fun hHeld => ?_)
        clear hK K
        refine norm_ (a' := ?_) ?_ ?_
        rotate_left
        ·show Act.put _ (some 5) _ = _
         simp only [Act.put, List.setIfInBounds_toArray, List.set_cons_zero, List.set_cons_succ, i64_w, i32_w]
         rfl
        exact norm_ Z18 (hCont (gb380) _ ⟨hHeld, Z31, Z57, Z58, GW380.out, GE380.out, NB372_380.out, NB380_372.out, Z121⟩)
       ·skip
        refine box_step ?hg (N := 5) ?hd (cs := #[.int .i64 0, .int .i64 0]) (t := 80) ?hr ?_; (case hd => rfl); (case hg => rfl); (case hr => first | (go_simp; done) | (go_simp; rfl))
        intro gb380 hg w30 hbox hb
        have HS0_ := (hb.cell (World.block_lt_of_cell? _ _ (hHeld.1))).trans (hHeld.1)
        have HS1_ := (hb.cell (World.block_lt_of_cell? _ _ (hHeld.2))).trans (hHeld.2)
        have n0_ := Aside0.mk (Kd.R_below Z31 hb)
        have n1_ := Aside0.mk (blk_below (g := gb372) (o := .cells #[.int .i64 0, .int .i64 0] 80 (0, 0)) Z57 hb)
        have n2_ := Aside0.mk (below_step Z93 hb)
        have n3_ := Aside0.mk (hbox)
        have n4_ := Aside0.mk ((Z191 : w.heap.size ≤ gb380))
        have n5_ := Aside0.mk ((Z191 : w.heap.size ≤ gb380))
        have n6_ := Aside0.mk ((Z199 : gb372 ≠ gb380))
        have n7_ := Aside0.mk ((Z200 : gb380 ≠ gb372))
        clear HO375
        clear BK372
        clear HB
        have HO375 := n0_
        have BK372 := n1_
        have HB := n2_
        have BK380 := n3_
        have GW380 := n4_
        have GE380 := n5_
        have NB372_380 := n6_
        have NB380_372 := n7_
        clear n0_ n1_ n2_ n3_ n4_ n5_ n6_ n7_
        clear hb hbox hg
        refine hK.out _ _ ⟨HS0_, HS1_⟩ (fun hHeld => ?_)
        clear hK K
        refine norm_ (a' := ?_) ?_ ?_
        rotate_left
        ·show Act.put _ (some 5) _ = _
         simp only [Act.put, List.setIfInBounds_toArray, List.set_cons_zero, List.set_cons_succ, i64_w, i32_w]
         rfl
        refine one_ (i := 7) (N := some 19) #[true, true, true, true, true, true, true, true, false, true, false] rfl rfl (one_of HT_.out (by kernel_rfl)) (by decide) (fun K hK => ?_)
        refine goes_ Try.func95 (by kernel_rfl) rfl #[.string (rdOf ByteArray.empty t373 1)] (by rfl) rfl rfl Z75 ?_
        with_reducible refine (spec_l1Num.calls k (rdOf ByteArray.empty t373 1) t379 _ A7.out).mono ?_
        rintro e w31 ⟨rfl, hb⟩
        have HS0_ := (hb.cell (World.block_lt_of_cell? _ _ (hHeld.1))).trans (hHeld.1)
        have HS1_ := (hb.cell (World.block_lt_of_cell? _ _ (hHeld.2))).trans (hHeld.2)
        refine ⟨_, rfl, ?_⟩
        have n0_ := Aside0.mk (Kd.R_below Z31 hb)
        have n1_ := Aside0.mk (blk_below (g := gb372) (o := .cells #[.int .i64 0, .int .i64 0] 80 (0, 0)) Z57 hb)
        have n2_ := Aside0.mk (blk_below (g := gb380) (o := .cells #[.int .i64 0, .int .i64 0] 80 (0, 0)) Z58 hb)
        have n3_ := Aside0.mk (below_step Z121 hb)
        clear HO375
        clear BK372
        clear BK380
        clear HB
        have HO375 := n0_
        have BK372 := n1_
        have BK380 := n2_
        have HB := n3_
        clear n0_ n1_ n2_ n3_
        (try clear hb)
        (try clear hb2)
        (try clear hk)
        (try clear hi)
        refine hK.out _ _ ⟨HS0_, HS1_⟩ (fun hHeld => ?_)
        clear hK K
        refine norm_ (a' := ?_) ?_ ?_
        rotate_left
        ·show Act.put _ (some 19) _ = _
         simp only [Act.put, List.setIfInBounds_toArray, List.set_cons_zero, List.set_cons_succ, i64_w, i32_w]
         rfl
        refine pure_ (i := 8) (N := some 20) (v := ?_) (a' := ?_) #[true, true, true, true, true, true, true, true, true, true, false] rfl rfl (any_of HT_.out (by kernel_rfl)) (fun _ _ _ h => h) (Or.inl ⟨by rfl, ?_⟩) ?_ ?_
        rotate_left
        ·intro w'
         go_simp
         with_reducible rfl
        rotate_left
        ·simp only [Act.put, List.setIfInBounds_toArray, List.set_cons_zero, List.set_cons_succ, i64_w, i32_w]
         rfl
        exact norm_ Z18 (hCont (gb380) _ ⟨hHeld, Z31, Z57, Z58, GW380.out, GE380.out, NB372_380.out, NB380_372.out, Z121⟩)
      ·skip
       refine box_step ?hg (N := 5) ?hd (cs := #[.int .i64 0, .int .i64 0]) (t := 80) ?hr ?_; (case hd => rfl); (case hg => rfl); (case hr => first | (go_simp; done) | (go_simp; rfl))
       intro gb380 hg w29 hbox hb
       have HS0_ := (hb.cell (World.block_lt_of_cell? _ _ (hHeld.1))).trans (hHeld.1)
       have HS1_ := (hb.cell (World.block_lt_of_cell? _ _ (hHeld.2))).trans (hHeld.2)
       have n0_ := Aside0.mk (Kd.R_below Z31 hb)
       have n1_ := Aside0.mk (blk_below (g := gb372) (o := .cells #[.int .i64 0, .int .i64 0] 80 (0, 0)) Z57 hb)
       have n2_ := Aside0.mk (below_step Z93 hb)
       have n3_ := Aside0.mk (hbox)
       have n4_ := Aside0.mk ((Z191 : w.heap.size ≤ gb380))
       have n5_ := Aside0.mk ((Z191 : w.heap.size ≤ gb380))
       have n6_ := Aside0.mk ((Z199 : gb372 ≠ gb380))
       have n7_ := Aside0.mk ((Z200 : gb380 ≠ gb372))
       clear HO375
       clear BK372
       clear HB
       have HO375 := n0_
       have BK372 := n1_
       have HB := n2_
       have BK380 := n3_
       have GW380 := n4_
       have GE380 := n5_
       have NB372_380 := n6_
       have NB380_372 := n7_
       clear n0_ n1_ n2_ n3_ n4_ n5_ n6_ n7_
       clear hb hbox hg
       refine hK.out _ _ ⟨HS0_, HS1_⟩ (fun hHeld => ?_)
       clear hK K
       refine norm_ (a' := ?_) ?_ ?_
       rotate_left
       ·show Act.put _ (some 5) _ = _
        simp only [Act.put, List.setIfInBounds_toArray, List.set_cons_zero, List.set_cons_succ, i64_w, i32_w]
        rfl
       refine one_ (i := 3) (N := some 15) #[true, true, true, true, true, true, true, false, false, true, false] rfl rfl (one_of HT_.out (by kernel_rfl)) (by decide) (fun K hK => ?_)
       refine goes_ Try.func95 (by kernel_rfl) rfl #[.string (rdOf ByteArray.empty t373 0)] (by rfl) rfl rfl Z75 ?_
       with_reducible refine (spec_l1Num.calls k (rdOf ByteArray.empty t373 0) t377 _ A5.out).mono ?_
       rintro e w30 ⟨rfl, hb⟩
       have HS0_ := (hb.cell (World.block_lt_of_cell? _ _ (hHeld.1))).trans (hHeld.1)
       have HS1_ := (hb.cell (World.block_lt_of_cell? _ _ (hHeld.2))).trans (hHeld.2)
       refine ⟨_, rfl, ?_⟩
       have n0_ := Aside0.mk (Kd.R_below Z31 hb)
       have n1_ := Aside0.mk (blk_below (g := gb372) (o := .cells #[.int .i64 0, .int .i64 0] 80 (0, 0)) Z57 hb)
       have n2_ := Aside0.mk (blk_below (g := gb380) (o := .cells #[.int .i64 0, .int .i64 0] 80 (0, 0)) Z58 hb)
       have n3_ := Aside0.mk (below_step Z121 hb)
       clear HO375
       clear BK372
       clear BK380
       clear HB
       have HO375 := n0_
       have BK372 := n1_
       have BK380 := n2_
       have HB := n3_
       clear n0_ n1_ n2_ n3_
       (try clear hb)
       (try clear hb2)
       (try clear hk)
       (try clear hi)
       refine hK.out _ _ ⟨HS0_, HS1_⟩ (fun hHeld => ?_)
       clear hK K
       refine norm_ (a' := ?_) ?_ ?_
       rotate_left
       ·show Act.put _ (some 15) _ = _
        simp only [Act.put, List.setIfInBounds_toArray, List.set_cons_zero, List.set_cons_succ, i64_w, i32_w]
        rfl
       refine one_ (i := 7) (N := some 19) #[true, true, true, true, true, true, true, true, false, true, false] rfl rfl (one_of HT_.out (by kernel_rfl)) (by decide) (fun K hK => ?_)
       refine goes_ Try.func95 (by kernel_rfl) rfl #[.string (rdOf ByteArray.empty t373 1)] (by rfl) rfl rfl Z75 ?_
       with_reducible refine (spec_l1Num.calls k (rdOf ByteArray.empty t373 1) t379 _ A7.out).mono ?_
       rintro e w31 ⟨rfl, hb⟩
       have HS0_ := (hb.cell (World.block_lt_of_cell? _ _ (hHeld.1))).trans (hHeld.1)
       have HS1_ := (hb.cell (World.block_lt_of_cell? _ _ (hHeld.2))).trans (hHeld.2)
       refine ⟨_, rfl, ?_⟩
       have n0_ := Aside0.mk (Kd.R_below Z31 hb)
       have n1_ := Aside0.mk (blk_below (g := gb372) (o := .cells #[.int .i64 0, .int .i64 0] 80 (0, 0)) Z57 hb)
       have n2_ := Aside0.mk (blk_below (g := gb380) (o := .cells #[.int .i64 0, .int .i64 0] 80 (0, 0)) Z58 hb)
       have n3_ := Aside0.mk (below_step Z121 hb)
       clear HO375
       clear BK372
       clear BK380
       clear HB
       have HO375 := n0_
       have BK372 := n1_
       have BK380 := n2_
       have HB := n3_
       clear n0_ n1_ n2_ n3_
       (try clear hb)
       (try clear hb2)
       (try clear hk)
       (try clear hi)
       refine hK.out _ _ ⟨HS0_, HS1_⟩ (fun hHeld => ?_)
       clear hK K
       refine norm_ (a' := ?_) ?_ ?_
       rotate_left
       ·show Act.put _ (some 19) _ = _
        simp only [Act.put, List.setIfInBounds_toArray, List.set_cons_zero, List.set_cons_succ, i64_w, i32_w]
        rfl
       refine pure_ (i := 8) (N := some 20) (v := ?_) (a' := ?_) #[true, true, true, true, true, true, true, true, true, true, false] rfl rfl (any_of HT_.out (by kernel_rfl)) (fun _ _ _ h => h) (Or.inl ⟨by rfl, ?_⟩) ?_ ?_
       rotate_left
       ·intro w'
        go_simp
        with_reducible rfl
       rotate_left
       ·simp only [Act.put, List.setIfInBounds_toArray, List.set_cons_zero, List.set_cons_succ, i64_w, i32_w]
        rfl
       exact norm_ Z18 (hCont (gb380) _ ⟨hHeld, Z31, Z57, Z58, GW380.out, GE380.out, NB372_380.out, NB380_372.out, Z121⟩)
     rintro gb380 w32 ⟨hS_, h0_, h1_, h2_, h3_, h4_, h5_, h6_, h7_⟩
     have n0_ : Aside0 (Kd.R Kd.string 9 w32 w.heap.size (fun _ => True) (.slice (some ad376) t373.length co27) t373) := ⟨h0_⟩
     have n1_ : Aside0 (w32.heap[gb372]? = some (.cells #[.int .i64 0, .int .i64 0] 80 (0, 0))) := ⟨h1_⟩
     have n2_ : Aside0 (w32.heap[gb380]? = some (.cells #[.int .i64 0, .int .i64 0] 80 (0, 0))) := ⟨h2_⟩
     have n3_ : Aside0 (w.heap.size ≤ gb380) := ⟨h3_⟩
     have n4_ : Aside0 (w.heap.size ≤ gb380) := ⟨h4_⟩
     have n5_ : Aside0 (gb372 ≠ gb380) := ⟨h5_⟩
     have n6_ : Aside0 (gb380 ≠ gb372) := ⟨h6_⟩
     have n7_ : Aside0 (Below w.heap.size w w32) := ⟨h7_⟩
     clear HO375
     clear BK372
     clear HB
     clear h0_ h1_ h2_ h3_ h4_ h5_ h6_ h7_
     have HO375 := n0_
     have BK372 := n1_
     have BK380 := n2_
     have GW380 := n3_
     have GE380 := n4_
     have NB372_380 := n5_
     have NB380_372 := n6_
     have HB := n7_
     clear n0_ n1_ n2_ n3_ n4_ n5_ n6_ n7_
     have hHeld : w32.cell? ad376 = some (.string (rdOf ByteArray.empty t373 0)) ∧ w32.cell? ⟨ad376.block, ad376.off + 1, none⟩ = some (.string (rdOf ByteArray.empty t373 1)) := hS_
     refine norm_ (a' := ?_) ?_ ?_
     rotate_left
     ·simp only [putAll, Act.put, List.setIfInBounds_toArray, List.set_cons_zero, List.set_cons_succ]
      rfl
     refine one_ (i := 10) (N := none) #[true, true, true, true, true, true, true, true, true, true, true] rfl rfl (one_of HT_.out (by kernel_rfl)) (by decide) (fun K hK => ?_)
     have hs33 : w32.cell? ⟨gb380, 0, none⟩ = some (.int .i64 0) := (blk_cell BK380.out 0).trans rfl
     have hfs33 := blk_frozen BK380.out 0
     have hns33_0 := NB372_380.out
     have hms33_0 := NB380_372.out
     have hs34 : w32.cell? ⟨gb380, 1, none⟩ = some (.int .i64 0) := (blk_cell BK380.out 1).trans rfl
     have hfs34 := blk_frozen BK380.out 1
     have hns34_0 := NB372_380.out
     have hms34_0 := NB380_372.out
     refine skip_ (w1 := ?_) (by rfl) rfl ?_ ?_
     rotate_left
     ·go_simp
      rfl
     refine hK.out _ _ ⟨((cell_far (p := ⟨gb380, _, none⟩) Z173 _).trans (((cell_far (p := ⟨gb380, _, none⟩) Z173 _).trans (hHeld.1)))), ((cell_far (p := ⟨gb380, _, none⟩) Z173 _).trans (((cell_far (p := ⟨gb380, _, none⟩) Z173 _).trans (hHeld.2))))⟩ (fun hHeld => ?_)
     clear hK K
     refine done_ (done_of HT_.out (by kernel_rfl)) ?_
     have hnb35 := NB380_372.out
     have hnc35 := NB372_380.out
     have hcz36_0 : w32.cell? ⟨gb380, 0, none⟩ = some (.int .i64 0) := (blk_cell BK380.out 0).trans rfl
     have hcz36_1 : w32.cell? ⟨gb380, 1, none⟩ = some (.int .i64 0) := (blk_cell BK380.out 1).trans rfl
     have hfz36_0 := blk_frozen BK380.out 0
     have hfz36_1 := blk_frozen BK380.out 1
     try go_wp2_with (first | ((with_reducible refine gate_callee (f := 86) rfl ?_); refine goesL_ (some 22) rfl rfl Try.func86 (by kernel_rfl) rfl #[.agg #[.int .i64 t377, .int .i64 t379]] rfl Z75 ?_; (with_reducible refine (spec_EndOk.calls t377 t379 false _ A8.out).mono ?_); rintro e w37 ⟨rfl, hb⟩; refine ⟨_, rfl, ?_⟩; have n0_ := Aside0.mk (Kd.R_below Z170 hb); have n1_ := Aside0.mk (blk_below (g := gb372) (o := .cells #[.int .i64 0, .int .i64 0] 80 (0, 0)) Z178 hb); have n2_ := Aside0.mk (blk_below (g := gb380) (o := .cells #[.int .i64 t377, .int .i64 t379] 80 (0, 0)) Z185 hb); have n3_ := Aside0.mk (below_step Z121 hb); clear HO375; clear BK372; clear BK380; clear HB; have HO375 := n0_; have BK372 := n1_; have BK380 := n2_; have HB := n3_; clear n0_ n1_ n2_ n3_; (try clear hb); have hcz38_0 : w37.cell? ⟨gb372, 0, none⟩ = some (.int .i64 0) := (blk_cell BK372.out 0).trans rfl; have hcz38_1 : w37.cell? ⟨gb372, 1, none⟩ = some (.int .i64 0) := (blk_cell BK372.out 1).trans rfl; have hfz38_0 := blk_frozen BK372.out 0; have hfz38_1 := blk_frozen BK372.out 1))
     refine bodyPost_ret (results_ct rfl _ _ gb372 80 #[.int .i64 0, .int .i64 0] (0, 0) _ rfl Z183 Try.underlying80 rfl (by kernel_rfl)) rfl ?_
     exact ⟨by first | rfl | (simp [errW_none, errW_some] <;> rfl) | (simp [*, errW_none, errW_some] <;> rfl), by repeat (first | (with_reducible first | exact HB.out | apply below_alloc | apply pw_below_drewN | apply below_drew1 | refine below_set ?_ GE372.out | refine below_set ?_ GE380.out) | exact HB.out)⟩
   ·rw [if_neg c6] at H
    exact absurd H (by simp)
  ·rw [if_neg c4] at H
   exact absurd H (by simp)
 ·rw [if_neg c3] at H
  have c3b0 : ((t373.length : Int) == 2) = false := beq_eq_false_iff_ne.mpr c3
  have c3b1 : ((t373.length : Int) != 2) = true := bne_iff_ne.mpr c3
  simp only [Option.some.injEq, Prod.mk.injEq] at H
  obtain ⟨rfl, rfl, rfl⟩ := H
  go_enter Try.func93, Try.ntmps93
  go_wp2_with (first | ((with_reducible refine gate_dst (N := 2) rfl ?_); refine box_event ?hg (N := 2) ?hd (cs := #[.int .i64 0, .int .i64 0]) (t := 80) ?hr ?_; (case hd => rfl); (case hg => rfl); (case hr => first | (go_simp; done) | (go_simp; rfl)); intro gb372 hg w39 hbox hb; have n0_ := Aside0.mk (below_step Z71 hb); have n1_ := Aside0.mk (hbox); have n2_ := Aside0.mk ((Z189 : w.heap.size ≤ gb372)); have n3_ := Aside0.mk ((Z189 : w.heap.size ≤ gb372)); clear HB; have HB := n0_; have BK372 := n1_; have GW372 := n2_; have GE372 := n3_; clear n0_ n1_ n2_ n3_; clear hb hbox hg) | ((with_reducible refine gate_callee (f := 94) rfl ?_); refine goesL_ (some 7) rfl rfl Try.func94 (by kernel_rfl) rfl #[.string a0] rfl Z75 ?_; (with_reducible refine (spec_l1Words.calls k a0 t373 _ A2.out).mono ?_); rintro e w40 ⟨v374, rfl, ho0, hb⟩; refine ⟨_, rfl, ?_⟩; have n0_ := Aside0.mk (Kd.R_lower ho0 (below_size Z93)); have n1_ := Aside0.mk (blk_below (g := gb372) (o := .cells #[.int .i64 0, .int .i64 0] 80 (0, 0)) Z57 hb); have n2_ := Aside0.mk (below_step Z93 hb); clear BK372; clear HB; have HO375 := n0_; have BK372 := n1_; have HB := n2_; clear n0_ n1_ n2_; (try clear hb); (try clear ho0); obtain ⟨Ao41, co41, eo41⟩ := Kd.R_slice HO375.out; subst eo41; have hcz42_0 : w40.cell? ⟨gb372, 0, none⟩ = some (.int .i64 0) := (blk_cell BK372.out 0).trans rfl; have hcz42_1 : w40.cell? ⟨gb372, 1, none⟩ = some (.int .i64 0) := (blk_cell BK372.out 1).trans rfl; have hfz42_0 := blk_frozen BK372.out 0; have hfz42_1 := blk_frozen BK372.out 1))
  refine bodyPost_ret (results_ct rfl _ _ gb372 80 #[.int .i64 0, .int .i64 0] (0, 0) _ rfl Z183 Try.underlying80 rfl (by kernel_rfl)) rfl ?_
  exact ⟨by first | rfl | (simp [errW_none, errW_some] <;> rfl) | (simp [*, errW_none, errW_some] <;> rfl), by repeat (first | (with_reducible first | exact HB.out | apply below_alloc | apply pw_below_drewN | apply below_drew1 | refine below_set ?_ GE372.out) | exact HB.out)⟩

end Go.Proofs.Ytmahgffkkdggcaa.QFnPosThere
