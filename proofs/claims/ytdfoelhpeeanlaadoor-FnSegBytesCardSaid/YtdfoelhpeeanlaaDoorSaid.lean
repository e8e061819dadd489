import Derived.Test.YtdfoelhpeeanlaaDoorProg
import Derived.Test.YtdfoelhpeeanlaaDoorLib
import Derived.Below
import Derived.WalkKit
import Derived.RowKit
import Derived.Deep.QuietTactic
import Derived.BigQuiet
import Derived.Test.YtdfoelhpeeanlaaDoorWWords
import Derived.Test.YtdfoelhpeeanlaaDoorWLast
import Derived.Test.YtdfoelhpeeanlaaDoorWMore
import Derived.KernelRfl
import Derived.Laws.BitsLemmas
set_option linter.unusedVariables false
set_option linter.unusedSimpArgs false
namespace Go.Proofs.YtdfoelhpeeanlaaDoor.Ends
open Go.RowKit Go.Proofs.YtdfoelhpeeanlaaDoorW.PrintWords Go.Proofs.YtdfoelhpeeanlaaDoorW.PrintLast
def LShort (w : World) : Prop := ∃ tp p, w.var? Tryd.prog "loop.example/hatchway/impl.errShort" = some #[.iface tp p]
theorem var_below {w w' : World} {n : String} {cs : Array Value} (h : w.var? Tryd.prog n = some cs) (hb : Below w.heap.size w w') : w'.var? Tryd.prog n = some cs := by
  unfold World.var? at h ⊢
  cases hg : Tryd.prog.globalNamed n with
  | none => simp [hg] at h
  | some g =>
    simp only [hg, Option.bind_some] at h ⊢
    have hlt : g < w.heap.size := by
      rcases Nat.lt_or_ge g w.heap.size with h' | h'
      · exact h'
      · simp [Array.getElem?_eq_none h'] at h
    rw [hb.block g hlt]
    exact h
theorem LShort.below {w w' : World} (h : LShort w) (hb : Below w.heap.size w w') : LShort w' := by
  obtain ⟨a, b, h⟩ := h
  exact ⟨a, b, var_below h hb⟩
theorem gShort : Tryd.prog.globalNamed "loop.example/hatchway/impl.errShort" = some 0 := by kernel_rfl
def RB (w : World) (g : Nat) (A : Option Addr) (l : List Int) (c : Nat) (at_ : Int) (e : Value) : Prop := w.heap[g]? = some (.cells #[.slice A l.length c, .int .i64 at_, e] 43 (0, 0))
theorem infoU8 : (Tryd.prog.info? 5).map (fun i => (i.zero, i.size, i.bytes)) = some (some (.int .u8 0), 1, 1) := by kernel_rfl
set_option maxHeartbeats 4000000 in
set_option maxRecDepth 100000 in
theorem take_ok (g : Nat) (A : Option Addr) (l : List Int) (c : Nat) (at_ n : Int) (w : World) (hb : RB w g A l c at_ .nilIface) (h0 : 0 ≤ at_) (hn : 0 ≤ n) (hn2 : n ≤ 300) (h1 : at_ + n ≤ (l.length : Int)) (hl : l.length ≤ 281474976710656) (hc : l.length ≤ c) :
    Calls Tryd.prog 24 #[.pointer (some ⟨g, 0, none⟩), .int .i64 n] w fun e w' => ∃ (A2 : Option Addr) (m m2 : Nat), e = .returned (.slice A2 ((at_ + n).toNat - at_.toNat) (c - at_.toNat)) ∧
      (∀ W : World, ReadsOf (Value.int .u8) 0 W A l.length l → ReadsOf (Value.int .u8) 0 W A2 ((l.take (at_ + n).toNat).drop at_.toNat).length ((l.take (at_ + n).toNat).drop at_.toNat)) ∧ w' = ((w.drewN m2).setCell ⟨g, 1, none⟩ (.int .i64 (at_ + n))).drewN m := by
  unfold RB at hb
  have c0 : w.cell? ⟨g, 0, none⟩ = some (.slice A l.length c) := (blk_cell hb 0).trans rfl
  have c1 : w.cell? ⟨g, 1, none⟩ = some (.int .i64 at_) := (blk_cell hb 1).trans rfl
  have c2 : w.cell? ⟨g, 2, none⟩ = some .nilIface := (blk_cell hb 2).trans rfl
  have z1 : w.frozen? ⟨g, 1, none⟩ = false := blk_frozen hb 1
  have HB0 := Aside0.mk hb
  clear hb
  have e1 : IntKind.i64.wrap (at_ + n) = at_ + n := by rw [i64_w, Lib.wrap_id (by omega) (by omega)]
  have e2 : IntKind.i64.wrap (at_ + n - n) = at_ := by rw [i64_w, Lib.wrap_id (x := at_ + n - n) (by omega) (by omega)]; omega
  have e3 : ((l.length : Int) < at_ + n) = False := eq_false (by omega)
  have e4 : decide ((l.length : Int) < at_ + n) = false := decide_eq_false (by omega)
  obtain ⟨i0, hi0, _, hsz, _⟩ := info_parts infoU8
  obtain ⟨A2, hcut, hA, hC⟩ := print_mid_of (P := Tryd.prog) (Value.int .u8) 0 22 5 .i64 .i64 Tryd.underlying22 hi0 hsz A c l at_ (at_ + n) h0 (by omega) h1 hc
  have HA := Aside0.mk hA
  clear hA hC hi0 hsz
  go_enter Tryd.func24, Tryd.ntmps24
  go_wp2
  go_quiet (fail)
  go_wp2
  go_quiet (fail)
  go_wp2
  go_ret
  exact ⟨A2, _, _, rfl, HA.out, rfl⟩
set_option maxHeartbeats 4000000 in
set_option maxRecDepth 100000 in
theorem take_err (g : Nat) (A : Option Addr) (l : List Int) (c : Nat) (at_ : Int) (n : Nat) (tp : TypeId) (pv : Value) (w : World) (hb : RB w g A l c at_ (.iface tp pv)) (hn2 : n ≤ 300) :
    Calls Tryd.prog 24 #[.pointer (some ⟨g, 0, none⟩), .int .i64 (n : Int)] w fun e w' => ∃ (m : Nat) (w2 : World), e = .returned (.slice (some ⟨w.heap.size, 0, none⟩) n n) ∧ (Instr.makeSlice 22 (.int .i64 (n : Int)) (.int .i64 (n : Int))).run Tryd.prog (w.drewN m) = .ok (.slice (some ⟨w.heap.size, 0, none⟩) n n) w2 ∧ w' = w2 ∧ (w.drewN m).grownBy w2 none ∧
      w2.ownsRow w.heap.size 5 1 (.slice (some ⟨w.heap.size, 0, none⟩) n n) n (madeCells (Value.int .u8 0).cells (n * 1)).toList := by
  unfold RB at hb
  have c0 : w.cell? ⟨g, 0, none⟩ = some (.slice A l.length c) := (blk_cell hb 0).trans rfl
  have c1 : w.cell? ⟨g, 1, none⟩ = some (.int .i64 at_) := (blk_cell hb 1).trans rfl
  have c2 : w.cell? ⟨g, 2, none⟩ = some (.iface tp pv) := (blk_cell hb 2).trans rfl
  have HB0 := Aside0.mk hb
  clear hb
  obtain ⟨i0, hi0, hz0, hsz, hby⟩ := info_parts infoU8
  have h300 : (300 : Nat) ≤ maxLen := by decide
  have hmk : ∀ m, ∃ w2, (Instr.makeSlice 22 (.int .i64 (n : Int)) (.int .i64 (n : Int))).run Tryd.prog (w.drewN m) = .ok (.slice (some ⟨w.heap.size, 0, none⟩) n n) w2 ∧ w2.ownsRow w.heap.size 5 1 (.slice (some ⟨w.heap.size, 0, none⟩) n n) n (madeCells (Value.int .u8 0).cells (n * 1)).toList ∧ (w.drewN m).grownBy w2 none := fun m =>
    run_make_full (w.drewN m) w.heap.size 22 5 i0 (.int .u8 0) 1 Tryd.underlying22 hi0 hz0 hsz .i64 .i64 n (by rw [hby]; omega) (by omega) (Nat.le_refl _)
  have HM := Aside0.mk hmk
  clear hmk hi0 hz0 hsz hby
  go_enter Tryd.func24, Tryd.ntmps24
  go_wp2
  go_quiet (fail)
  obtain ⟨w2, hm2, ho2, hg2⟩ := HM.out nq
  have HO2 := Aside0.mk ho2
  have HG2 := Aside0.mk hg2
  have HM2 := Aside0.mk hm2
  clear ho2 hg2
  go_wp2
  go_ret
  exact ⟨nq, w2, rfl, HM2.out, rfl, HG2.out, HO2.out⟩
set_option maxHeartbeats 4000000 in
set_option maxRecDepth 100000 in
theorem take_short (g : Nat) (A : Option Addr) (l : List Int) (c : Nat) (at_ : Int) (n : Nat) (w : World) (hL : LShort w) (hb : RB w g A l c at_ .nilIface) (hn2 : n ≤ 300) (h0 : 0 ≤ at_) (ha : at_ ≤ (l.length : Int)) (h1 : (l.length : Int) < at_ + (n : Int)) (hl : l.length ≤ 281474976710656) :
    Calls Tryd.prog 24 #[.pointer (some ⟨g, 0, none⟩), .int .i64 (n : Int)] w fun e w' => ∃ (tp : TypeId) (pv : Value) (m : Nat) (w2 : World), e = .returned (.slice (some ⟨w.heap.size, 0, none⟩) n n) ∧
      (Instr.makeSlice 22 (.int .i64 (n : Int)) (.int .i64 (n : Int))).run Tryd.prog ((w.drewN m).setCell ⟨g, 2, none⟩ (.iface tp pv)) = .ok (.slice (some ⟨w.heap.size, 0, none⟩) n n) w2 ∧ w' = w2 ∧ ((w.drewN m).setCell ⟨g, 2, none⟩ (.iface tp pv)).grownBy w2 none ∧
      w2.ownsRow w.heap.size 5 1 (.slice (some ⟨w.heap.size, 0, none⟩) n n) n (madeCells (Value.int .u8 0).cells (n * 1)).toList := by
  unfold RB at hb
  have c0 : w.cell? ⟨g, 0, none⟩ = some (.slice A l.length c) := (blk_cell hb 0).trans rfl
  have c1 : w.cell? ⟨g, 1, none⟩ = some (.int .i64 at_) := (blk_cell hb 1).trans rfl
  have c2 : w.cell? ⟨g, 2, none⟩ = some .nilIface := (blk_cell hb 2).trans rfl
  have z2 : w.frozen? ⟨g, 2, none⟩ = false := blk_frozen hb 2
  have HB0 := Aside0.mk hb
  clear hb
  obtain ⟨tp, pv, hv⟩ := hL
  have ce : w.cell? ⟨0, 0, none⟩ = some (.iface tp pv) := by simpa using World.var?_cell gShort hv 0
  clear hv
  have e1 : IntKind.i64.wrap (at_ + (n : Int)) = at_ + (n : Int) := by rw [i64_w, Lib.wrap_id (by omega) (by omega)]
  have e3 : ((l.length : Int) < at_ + (n : Int)) = True := eq_true (by omega)
  have e4 : decide ((l.length : Int) < at_ + (n : Int)) = true := decide_eq_true (by omega)
  obtain ⟨i0, hi0, hz0, hsz, hby⟩ := info_parts infoU8
  have h300 : (300 : Nat) ≤ maxLen := by decide
  have hs : ∀ m, ((w.drewN m).setCell ⟨g, 2, none⟩ (.iface tp pv)).heap.size = w.heap.size := fun m => by simp [World.setCell]
  have hmk : ∀ m, ∃ w2, (Instr.makeSlice 22 (.int .i64 (n : Int)) (.int .i64 (n : Int))).run Tryd.prog ((w.drewN m).setCell ⟨g, 2, none⟩ (.iface tp pv)) = .ok (.slice (some ⟨w.heap.size, 0, none⟩) n n) w2 ∧ w2.ownsRow w.heap.size 5 1 (.slice (some ⟨w.heap.size, 0, none⟩) n n) n (madeCells (Value.int .u8 0).cells (n * 1)).toList ∧ ((w.drewN m).setCell ⟨g, 2, none⟩ (.iface tp pv)).grownBy w2 none := fun m => by
    have h := run_make_full ((w.drewN m).setCell ⟨g, 2, none⟩ (.iface tp pv)) w.heap.size 22 5 i0 (.int .u8 0) 1 Tryd.underlying22 hi0 hz0 hsz .i64 .i64 n (by rw [hby]; omega) (by omega) (Nat.le_of_eq (hs m).symm)
    rw [hs m] at h
    exact h
  have HM := Aside0.mk hmk
  clear hmk hi0 hz0 hsz hby hs
  go_enter Tryd.func24, Tryd.ntmps24
  go_wp2
  go_quiet (fail)
  obtain ⟨w2, hm2, ho2, hg2⟩ := HM.out nq
  have HO2 := Aside0.mk ho2
  have HG2 := Aside0.mk hg2
  have HM2 := Aside0.mk hm2
  clear ho2 hg2
  go_wp2
  go_ret
  exact ⟨tp, pv, nq, w2, rfl, HM2.out, rfl, HG2.out, HO2.out⟩
set_option maxHeartbeats 4000000 in
set_option maxRecDepth 100000 in
theorem number_ok (W0 : World) (g : Nat) (A : Option Addr) (l : List Int) (c : Nat) (at_ : Int) (w : World) (hB : Below W0.heap.size W0 w) (hge : W0.heap.size ≤ g) (hb : RB w g A l c at_ .nilIface) (hC : Kd.C (Kd.int .u8) W0 A l.length l) (hw : ∀ x ∈ l, 0 ≤ x ∧ x < 256)
    (h0 : 0 ≤ at_) (h1 : at_ + 2 ≤ (l.length : Int)) (hl : l.length ≤ 281474976710656) (hc : l.length ≤ c) :
    Calls Tryd.prog 23 #[.pointer (some ⟨g, 0, none⟩)] w fun e w' => e = .returned (.int .i64 (rd l at_ * 256 + rd l (at_ + 1))) ∧ ∃ m m2, w' = ((w.drewN m2).setCell ⟨g, 1, none⟩ (.int .i64 (at_ + 2))).drewN m := by
  have HBB := Aside0.mk hB
  have HC := Aside0.mk hC
  have HRB := Aside0.mk hb
  clear hB hC hb
  have hx : ∀ i : Int, 0 ≤ i → i < (l.length : Int) → 0 ≤ rd l i ∧ rd l i < 256 := fun i i0 i1 => by
    obtain ⟨j, rfl⟩ := Int.eq_ofNat_of_zero_le i0
    have hj : j < l.length := by omega
    have : rd l (j : Int) = l[j] := by unfold rd; rw [Int.toNat_natCast, List.getD_eq_getElem?_getD, List.getElem?_eq_getElem hj]; rfl
    rw [this]; exact hw _ (List.getElem_mem hj)
  obtain ⟨x, hxe⟩ : ∃ x, x = rd l at_ := ⟨_, rfl⟩
  obtain ⟨y, hye⟩ : ∃ y, y = rd l (at_ + 1) := ⟨_, rfl⟩
  have hx2 := hx at_ h0 (by omega)
  have hy2 := hx (at_ + 1) (by omega) (by omega)
  rw [← hxe] at hx2
  rw [← hye] at hy2
  rw [← hxe, ← hye]
  have HX := Aside0.mk hxe
  have HY := Aside0.mk hye
  clear hxe hye hx
  go_enter Tryd.func23, Tryd.ntmps23
  go_wp2_with fail
  (go_at_call 24; refine (take_ok g A l c at_ 2 w HRB.out h0 (by omega) (by omega) h1 hl hc).mono ?_; rintro e w2 ⟨A2, m, m2, rfl, hA, rfl⟩)
  have HB2 : Below W0.heap.size W0 (((w.drewN m2).setCell ⟨g, 1, none⟩ (.int .i64 (at_ + 2))).drewN m) := pw_below_drewN (below_set (pw_below_drewN HBB.out m2) hge) m
  have hz : ((l.take (at_ + 2).toNat).drop at_.toNat).length = 2 := by rw [List.length_drop, List.length_take]; omega
  have hz2 : (at_ + 2).toNat - at_.toNat = 2 := by omega
  have HR := Kd.C_of_reads (h1 := fun _ => rfl) (hA _ (Kd.reads_of_C (Kd.C_below HC.out HB2)))
  rw [hz] at HR
  rw [hz2]
  have hrd : ∀ i : Nat, i < 2 → rd ((l.take (at_ + 2).toNat).drop at_.toNat) (i : Int) = rd l (at_ + (i : Int)) := fun i hi => by
    unfold rd
    rw [List.getD_eq_getElem?_getD, List.getD_eq_getElem?_getD, List.getElem?_drop, Int.toNat_natCast, List.getElem?_take, if_pos (by omega), show (at_ + (i : Int)).toNat = at_.toNat + i by omega]
  have r0 : rd ((l.take (at_ + 2).toNat).drop at_.toNat) 0 = x := (hrd 0 (by omega)).trans (by rw [HX.out]; simp)
  have r1 : rd ((l.take (at_ + 2).toNat).drop at_.toNat) 1 = y := (hrd 1 (by omega)).trans (by rw [HY.out]; rfl)
  obtain ⟨ad, ea, hc0⟩ := Kd.at_int HR 0 (by omega) (by omega)
  cases ea
  obtain ⟨ad', eb, hc1⟩ := Kd.at_int HR 1 (by omega) (by omega)
  cases eb
  rw [r0] at hc0
  rw [r1] at hc1
  clear hrd r0 r1 hz hz2 HR hA HB2
  have e1 : IntKind.i64.wrap x = x := by rw [i64_w, Lib.wrap_id (by omega) (by omega)]
  have e2 : IntKind.i64.wrap y = y := by rw [i64_w, Lib.wrap_id (by omega) (by omega)]
  simp only [show (0 : Int).toNat = 0 from rfl, show (1 : Int).toNat = 1 from rfl, Nat.mul_zero, Nat.mul_one, Nat.zero_mul, Nat.one_mul, Go.Addr.add, ↓reduceIte, Nat.reduceEqDiff] at hc0 hc1
  generalize hW : World.drewN _ m = W2 at hc0 hc1 ⊢
  have HW := Aside0.mk hW
  clear hW
  go_wp2
  go_quiet (fail)
  go_wp2
  go_ret
  refine ⟨?_, m + nq, m2, ?_⟩
  · show Ending.returned (Value.int IntKind.i64 (bits BinOp.or IntKind.i64 (x * 256) y)) = _
    rw [bits_join .i64 62 (by decide) (fun n n0 n1 => by rw [i64_w, Lib.wrap_id (by omega) (by omega)]) 8 (x * 256) y (by omega) (by omega) (by omega) (by omega) (by omega) (by omega)]
  · rw [← HW.out, World.drewN_drewN]
set_option maxHeartbeats 4000000 in
set_option maxRecDepth 100000 in
theorem number_err (g : Nat) (A : Option Addr) (l : List Int) (c : Nat) (at_ : Int) (tp : TypeId) (pv : Value) (w : World) (hb : RB w g A l c at_ (.iface tp pv)) :
    Calls Tryd.prog 23 #[.pointer (some ⟨g, 0, none⟩)] w fun e w' => e = .returned (.int .i64 0) ∧ ∃ m m2 w2, w' = w2.drewN m ∧ (w.drewN m2).grownBy w2 none := by
  have HRB := Aside0.mk hb
  clear hb
  go_enter Tryd.func23, Tryd.ntmps23
  go_wp2_with fail
  (go_at_call 24; refine (take_err g A l c at_ 2 tp pv w HRB.out (by omega)).mono ?_; rintro e w' ⟨m, w2, rfl, hm, rfl, hg2, ho⟩)
  have hc0 : w'.cell? ⟨w.heap.size, 0, none⟩ = some (.int .u8 0) := (World.ownsRow.cellAt ho 0 (by omega)).trans (by kernel_rfl)
  have hc1 : w'.cell? ⟨w.heap.size, 1, none⟩ = some (.int .u8 0) := (World.ownsRow.cellAt ho 1 (by omega)).trans (by kernel_rfl)
  have HG := Aside0.mk hg2
  clear hm ho hg2
  go_wp2
  go_quiet (fail)
  go_wp2
  go_ret
  exact ⟨rfl, nq, m, w', rfl, HG.out⟩
set_option maxHeartbeats 4000000 in
set_option maxRecDepth 100000 in
theorem number_short (g : Nat) (A : Option Addr) (l : List Int) (c : Nat) (at_ : Int) (w : World) (hL : LShort w) (hb : RB w g A l c at_ .nilIface) (h0 : 0 ≤ at_) (ha : at_ ≤ (l.length : Int)) (h1 : (l.length : Int) < at_ + 2) (hl : l.length ≤ 281474976710656) :
    Calls Tryd.prog 23 #[.pointer (some ⟨g, 0, none⟩)] w fun e w' => e = .returned (.int .i64 0) ∧ ∃ (tp : TypeId) (pv : Value) (m m2 : Nat) (w2 : World), w' = w2.drewN m ∧ ((w.drewN m2).setCell ⟨g, 2, none⟩ (.iface tp pv)).grownBy w2 none := by
  have HRB := Aside0.mk hb
  have HLS := Aside0.mk hL
  clear hb hL
  go_enter Tryd.func23, Tryd.ntmps23
  go_wp2_with fail
  (go_at_call 24; refine (take_short g A l c at_ 2 w HLS.out HRB.out (by omega) h0 ha h1 hl).mono ?_; rintro e w' ⟨tp, pv, m, w2, rfl, hm, rfl, hg2, ho⟩)
  have hc0 : w'.cell? ⟨w.heap.size, 0, none⟩ = some (.int .u8 0) := (World.ownsRow.cellAt ho 0 (by omega)).trans (by kernel_rfl)
  have hc1 : w'.cell? ⟨w.heap.size, 1, none⟩ = some (.int .u8 0) := (World.ownsRow.cellAt ho 1 (by omega)).trans (by kernel_rfl)
  have HG := Aside0.mk hg2
  clear hm ho hg2
  go_wp2
  go_quiet (fail)
  go_wp2
  go_ret
  exact ⟨rfl, tp, pv, nq, m, w', rfl, HG.out⟩
section
open Go.Proofs.YtdfoelhpeeanlaaDoorW.PrintMore
def numV (l : List Int) : Option Int → Int
  | some a => if a + 2 ≤ (l.length : Int) then rd l a * 256 + rd l (a + 1) else 0
  | none => 0
def stepV (l : List Int) (n : Nat) : Option Int → Option Int
  | some a => if a + (n : Int) ≤ (l.length : Int) then some (a + (n : Int)) else none
  | none => none
def takeV (l : List Int) (n : Nat) : Option Int → List Int
  | some a => if a + (n : Int) ≤ (l.length : Int) then (l.take (a + (n : Int)).toNat).drop a.toNat else List.replicate n 0
  | none => List.replicate n 0
def St (w : World) (g : Nat) (A : Option Addr) (l : List Int) (c : Nat) : Option Int → Prop
  | some a => RB w g A l c a .nilIface ∧ 0 ≤ a ∧ a ≤ (l.length : Int)
  | none => ∃ a tp pv, RB w g A l c a (.iface tp pv)
theorem made_at (z : Value) (n j : Nat) (hj : j < n) : (madeCells #[z] n).toList[j]? = some z := by
  have h : (madeCells #[z] n)[j]? = some z := by
    unfold madeCells
    rw [Array.getElem?_map, Array.getElem?_eq_getElem (by simpa using hj)]
    simp [Nat.mod_one]
  simpa using h
theorem zeros_C {w2 : World} {b g n : Nat} {ws : Nat} (h : w2.ownsRow b 5 1 (.slice (some ⟨g, 0, none⟩) n n) n (madeCells (Value.int .u8 0).cells (n * 1)).toList) (hn : n ≤ 300) : Kd.C (Kd.int .u8) w2 (some ⟨g, 0, none⟩) n (List.replicate n 0) := by
  refine Kd.C_of_reads (d := (0 : Int)) (h1 := fun _ => rfl) ⟨by simp, by omega, fun _ => ⟨_, rfl, fun j hj => ?_⟩⟩
  have h1 := World.ownsRow.cellAt h j (by omega)
  rw [show (Value.int IntKind.u8 0).cells = #[Value.int .u8 0] from rfl, made_at _ _ _ (by omega)] at h1
  have e : (List.replicate n (0 : Int)).getD j 0 = 0 := by
    rw [List.getD_eq_getElem?_getD, List.getElem?_replicate]; split <;> rfl
  rw [e]
  have e2 : (⟨g, 0, none⟩ : Addr).add j = ⟨g, j, none⟩ := by
    unfold Go.Addr.add
    split
    · subst_vars; rfl
    · simp
  rw [e2]
  exact h1
theorem number_st (W0 : World) (g : Nat) (A : Option Addr) (l : List Int) (c : Nat) (s : Option Int) (w : World) (hL : LShort W0) (hB : Below W0.heap.size W0 w) (hge : W0.heap.size ≤ g) (hS : St w g A l c s) (hC : Kd.C (Kd.int .u8) W0 A l.length l) (hw : ∀ x ∈ l, 0 ≤ x ∧ x < 256)
    (hl : l.length ≤ 281474976710656) (hc : l.length ≤ c) :
    Calls Tryd.prog 23 #[.pointer (some ⟨g, 0, none⟩)] w fun e w' => e = .returned (.int .i64 (numV l s)) ∧ St w' g A l c (stepV l 2 s) ∧ Below W0.heap.size W0 w' ∧ KeepBut w w' g none := by
  cases s with
  | none =>
    obtain ⟨a, tp, pv, hb⟩ := hS
    refine (number_err g A l c a tp pv w hb).mono ?_
    rintro e w' ⟨rfl, m, m2, w2, rfl, hg⟩
    refine ⟨rfl, ⟨a, tp, pv, ?_⟩, pw_below_drewN (pw_below_grown (pw_below_drewN hB m2) none (by have := hB.size; simpa using this) hg (fun _ h => by cases h)) m, keep_drewN ((keep_drewN (KeepBut.refl w g none) m2).trans (KeepBut.of_grown hg g) (.inl rfl)) m⟩
    exact blk_drewN (blk_grown (blk_drewN hb m2) hg (by simp)) m
  | some a =>
    obtain ⟨hb, h0, ha⟩ := hS
    by_cases h1 : a + 2 ≤ (l.length : Int)
    · refine (number_ok W0 g A l c a w hB hge hb hC hw h0 h1 hl hc).mono ?_
      rintro e w' ⟨rfl, m, m2, rfl⟩
      refine ⟨by (unfold numV; dsimp only; rw [if_pos h1]), ?_, pw_below_drewN (below_set (pw_below_drewN hB m2) hge) m, keep_drewN ((keep_drewN (KeepBut.refl w g none) m2).set_ 1 _) m⟩
      show St _ g A l c (if a + ((2 : Nat) : Int) ≤ (l.length : Int) then some (a + ((2 : Nat) : Int)) else none)
      rw [if_pos (by omega)]
      exact ⟨blk_drewN (blk_put (blk_drewN hb m2) 1 _ rfl) m, by omega, by omega⟩
    · refine (number_short g A l c a w (hL.below hB) hb h0 ha (by omega) hl).mono ?_
      rintro e w' ⟨rfl, tp, pv, m, m2, w2, rfl, hg⟩
      refine ⟨by (unfold numV; dsimp only; rw [if_neg h1]), ?_, pw_below_drewN (pw_below_grown (below_set (pw_below_drewN hB m2) hge) none (by have := hB.size; simpa [World.setCell] using this) hg (fun _ h => by cases h)) m, keep_drewN (((keep_drewN (KeepBut.refl w g none) m2).set_ 2 _).trans (KeepBut.of_grown hg g) (.inl rfl)) m⟩
      show St _ g A l c (if a + ((2 : Nat) : Int) ≤ (l.length : Int) then some (a + ((2 : Nat) : Int)) else none)
      rw [if_neg (by omega)]
      exact ⟨a, tp, pv, blk_drewN (blk_grown (blk_put (blk_drewN hb m2) 2 _ rfl) hg (by simp)) m⟩
theorem take_st (W0 : World) (g : Nat) (A : Option Addr) (l : List Int) (c : Nat) (s : Option Int) (n : Nat) (w : World) (hL : LShort W0) (hB : Below W0.heap.size W0 w) (hge : W0.heap.size ≤ g) (hS : St w g A l c s) (hC : Kd.C (Kd.int .u8) W0 A l.length l) (hn : n ≤ 300)
    (hl : l.length ≤ 281474976710656) (hc : l.length ≤ c) :
    Calls Tryd.prog 24 #[.pointer (some ⟨g, 0, none⟩), .int .i64 (n : Int)] w fun e w' => ∃ A2 c2, e = .returned (.slice A2 n c2) ∧ Kd.C (Kd.int .u8) w' A2 n (takeV l n s) ∧ St w' g A l c (stepV l n s) ∧ Below W0.heap.size W0 w' ∧ KeepBut w w' g none := by
  cases s with
  | none =>
    obtain ⟨a, tp, pv, hb⟩ := hS
    refine (take_err g A l c a n tp pv w hb hn).mono ?_
    rintro e w' ⟨m, w2, rfl, _, rfl, hg, ho⟩
    refine ⟨_, _, rfl, zeros_C (ws := 0) ho hn, ⟨a, tp, pv, ?_⟩, pw_below_grown (pw_below_drewN hB m) none (by have := hB.size; simpa using this) hg (fun _ h => by cases h), (keep_drewN (KeepBut.refl w g none) m).trans (KeepBut.of_grown hg g) (.inl rfl)⟩
    exact blk_grown (blk_drewN hb m) hg (by simp)
  | some a =>
    obtain ⟨hb, h0, ha⟩ := hS
    by_cases h1 : a + (n : Int) ≤ (l.length : Int)
    · refine (take_ok g A l c a n w hb h0 (by omega) (by omega) h1 hl hc).mono ?_
      rintro e w' ⟨A2, m, m2, rfl, hA, rfl⟩
      have HB2 : Below W0.heap.size W0 (((w.drewN m2).setCell ⟨g, 1, none⟩ (.int .i64 (a + n))).drewN m) := pw_below_drewN (below_set (pw_below_drewN hB m2) hge) m
      have hz : ((l.take (a + n).toNat).drop a.toNat).length = n := by rw [List.length_drop, List.length_take]; omega
      have HR := Kd.C_of_reads (h1 := fun _ => rfl) (hA _ (Kd.reads_of_C (Kd.C_below hC HB2)))
      rw [hz] at HR
      refine ⟨A2, c - a.toNat, by rw [show (a + (n : Int)).toNat - a.toNat = n by omega], ?_, ?_, HB2, keep_drewN ((keep_drewN (KeepBut.refl w g none) m2).set_ 1 _) m⟩
      · unfold takeV; dsimp only; rw [if_pos h1]; exact HR
      · show St _ g A l c (if a + (n : Int) ≤ (l.length : Int) then some (a + (n : Int)) else none)
        rw [if_pos h1]
        exact ⟨blk_drewN (blk_put (blk_drewN hb m2) 1 _ rfl) m, by omega, by omega⟩
    · refine (take_short g A l c a n w (hL.below hB) hb hn h0 ha (by omega) hl).mono ?_
      rintro e w' ⟨tp, pv, m, w2, rfl, _, rfl, hg, ho⟩
      refine ⟨_, _, rfl, ?_, ?_, pw_below_grown (below_set (pw_below_drewN hB m) hge) none (by have := hB.size; simpa [World.setCell] using this) hg (fun _ h => by cases h), ((keep_drewN (KeepBut.refl w g none) m).set_ 2 _).trans (KeepBut.of_grown hg g) (.inl rfl)⟩
      · unfold takeV; dsimp only; rw [if_neg h1]; exact zeros_C (ws := 0) ho hn
      · show St _ g A l c (if a + (n : Int) ≤ (l.length : Int) then some (a + (n : Int)) else none)
        rw [if_neg h1]
        exact ⟨a, tp, pv, blk_grown (blk_put (blk_drewN hb m) 2 _ rfl) hg (by simp)⟩
theorem two_blocks (w : World) (o1 o2 : Obj) : ∃ W1, W1 = (w.alloc o1).alloc o2 ∧ Below w.heap.size w W1 ∧ W1.heap[w.heap.size]? = some o1 ∧ W1.heap[w.heap.size + 1]? = some o2 := by
  refine ⟨_, rfl, ((Below.refl _ _).alloc (Nat.le_refl _) _).alloc (by simp) _, blk_alloc (blk_new w o1) _, ?_⟩
  have := blk_new (w.alloc o1) o2
  simpa using this
def Sg (W0 w : World) (A : Option Addr) (l : List Int) (c : Nat) (o : Obj) (s : Option Int) : Prop :=
  St w (W0.heap.size + 1) A l c s ∧ Below W0.heap.size W0 w ∧ w.heap[W0.heap.size]? = some o
theorem num_sg (W0 : World) (A : Option Addr) (l : List Int) (c : Nat) (o : Obj) (s s' : Option Int) (x : Int) (w : World) (hS : Sg W0 w A l c o s) (hx : x = numV l s) (hs : s' = stepV l 2 s) (hL : LShort W0) (hC : Kd.C (Kd.int .u8) W0 A l.length l) (hw : ∀ x ∈ l, 0 ≤ x ∧ x < 256)
    (hl : l.length ≤ 281474976710656) (hc : l.length ≤ c) :
    Calls Tryd.prog 23 #[.pointer (some ⟨W0.heap.size + 1, 0, none⟩)] w fun e w' => e = .returned (.int .i64 x) ∧ Sg W0 w' A l c o s' := by
  obtain ⟨h1, h2, h3⟩ := hS
  refine (number_st W0 (W0.heap.size + 1) A l c s w hL h2 (by omega) h1 hC hw hl hc).mono ?_
  rintro e w' ⟨rfl, k1, k2, k3⟩
  subst hx; subst hs
  exact ⟨rfl, k1, k2, k3.blk h3 (by omega) (by simp)⟩
theorem take_sg (W0 : World) (A : Option Addr) (l : List Int) (c : Nat) (o : Obj) (s s' : Option Int) (n : Nat) (m : Int) (hm : m = (n : Int)) (t : List Int) (w : World) (hS : Sg W0 w A l c o s) (ht : t = takeV l n s) (hs : s' = stepV l n s) (hL : LShort W0) (hC : Kd.C (Kd.int .u8) W0 A l.length l) (hn : n ≤ 300)
    (hl : l.length ≤ 281474976710656) (hc : l.length ≤ c) :
    Calls Tryd.prog 24 #[.pointer (some ⟨W0.heap.size + 1, 0, none⟩), .int .i64 m] w fun e w' => ∃ A2 c2, e = .returned (.slice A2 n c2) ∧ Kd.C (Kd.int .u8) w' A2 n t ∧ Sg W0 w' A l c o s' ∧ KeepBut w w' (W0.heap.size + 1) none := by
  obtain ⟨h1, h2, h3⟩ := hS
  subst hm
  refine (take_st W0 (W0.heap.size + 1) A l c s n w hL h2 (by omega) h1 hC hn hl hc).mono ?_
  rintro e w' ⟨A2, c2, rfl, k0, k1, k2, k3⟩
  subst ht; subst hs
  exact ⟨A2, c2, rfl, k0, ⟨k1, k2, k3.blk h3 (by omega) (by simp)⟩, k3⟩
theorem Sg.alloc {W0 w : World} {A : Option Addr} {l : List Int} {c : Nat} {o : Obj} {s : Option Int} (h : Sg W0 w A l c o s) (o' : Obj) : Sg W0 (w.alloc o') A l c o s := by
  obtain ⟨h1, h2, h3⟩ := h
  refine ⟨?_, below_alloc h2 _, blk_alloc h3 _⟩
  cases s with
  | none => obtain ⟨a, tp, pv, hb⟩ := h1; exact ⟨a, tp, pv, blk_alloc hb _⟩
  | some a => exact ⟨blk_alloc h1.1 _, h1.2⟩
theorem Sg.lt {W0 w : World} {A : Option Addr} {l : List Int} {c : Nat} {o : Obj} {s : Option Int} (h : Sg W0 w A l c o s) : W0.heap.size + 1 < w.heap.size := by
  obtain ⟨h1, h2, h3⟩ := h
  cases s with
  | none => obtain ⟨a, tp, pv, hb⟩ := h1; exact blk_lt hb
  | some a => exact blk_lt h1.1
theorem St.far {w w1 : World} {g : Nat} {A : Option Addr} {l : List Int} {c : Nat} {s : Option Int} (h : St w g A l c s) (hk : ∀ o, w.heap[g]? = some o → w1.heap[g]? = some o) : St w1 g A l c s := by
  cases s with
  | none => obtain ⟨a, tp, pv, hb⟩ := h; exact ⟨a, tp, pv, hk _ hb⟩
  | some a => exact ⟨hk _ h.1, h.2⟩
theorem Sg.set {W0 w : World} {A : Option Addr} {l : List Int} {c : Nat} {cs : Array Value} {t : TypeId} {s : Option Int} {gs : Nat} (h : Sg W0 w A l c (.cells cs t (0, 0)) s) (hg : W0.heap.size + 1 < gs) (j : Nat) (v : Value) : Sg W0 (w.setCell ⟨gs, j, none⟩ v) A l c (.cells cs t (0, 0)) s := by
  obtain ⟨h1, h2, h3⟩ := h
  refine ⟨h1.far (fun o ho => (Below.heap_setCell _ _ _ _ (by show _ ≠ gs; omega)).trans ho), below_set h2 (by omega), blk_far h3 (by show _ ≠ gs; omega) _⟩
theorem named (W : World) (o : Obj) : ∃ W8, W8 = W.alloc o ∧ W8.heap[W.heap.size]? = some o := ⟨_, rfl, blk_new W o⟩
theorem put7 {w : World} {g t : Nat} {a0 a1 a2 a3 a4 a5 a6 : Value} (h : w.heap[g]? = some (.cells #[a0, a1, a2, a3, a4, a5, a6] t (0, 0))) (b0 b1 b2 b3 b4 b5 b6 : Value) :
    (((((((w.setCell ⟨g, 0, none⟩ b0).setCell ⟨g, 1, none⟩ b1).setCell ⟨g, 2, none⟩ b2).setCell ⟨g, 3, none⟩ b3).setCell ⟨g, 4, none⟩ b4).setCell ⟨g, 5, none⟩ b5).setCell ⟨g, 6, none⟩ b6).heap[g]? = some (.cells #[b0, b1, b2, b3, b4, b5, b6] t (0, 0)) := by
  have h0 := blk_put (cs' := #[b0, a1, a2, a3, a4, a5, a6]) h 0 b0 rfl
  have h1 := blk_put (cs' := #[b0, b1, a2, a3, a4, a5, a6]) h0 1 b1 rfl
  have h2 := blk_put (cs' := #[b0, b1, b2, a3, a4, a5, a6]) h1 2 b2 rfl
  have h3 := blk_put (cs' := #[b0, b1, b2, b3, a4, a5, a6]) h2 3 b3 rfl
  have h4 := blk_put (cs' := #[b0, b1, b2, b3, b4, a5, a6]) h3 4 b4 rfl
  have h5 := blk_put (cs' := #[b0, b1, b2, b3, b4, b5, a6]) h4 5 b5 rfl
  exact blk_put (cs' := #[b0, b1, b2, b3, b4, b5, b6]) h5 6 b6 rfl
theorem strs_inj {a b : List Int} (ha : ∀ x ∈ a, 0 ≤ x ∧ x < 256) (hb : ∀ x ∈ b, 0 ≤ x ∧ x < 256) (h : (strOfNums a).toList = (strOfNums b).toList) : a = b := by
  have e : ∀ l : List Int, (strOfNums l).toList = l.map fun n => UInt8.ofNat n.toNat := fun l => by
    rw [ByteArray.toList_eq]; simp [strOfNums]
  rw [e, e] at h
  induction a generalizing b with
  | nil => cases b with
    | nil => rfl
    | cons y b => simp at h
  | cons x a ih => cases b with
    | nil => simp at h
    | cons y b =>
      simp only [List.map_cons, List.cons.injEq] at h
      have hx := ha x (by simp)
      have hy := hb y (by simp)
      have h1 := congrArg UInt8.toNat h.1
      simp only [UInt8.toNat_ofNat'] at h1
      rw [Nat.mod_eq_of_lt (by omega), Nat.mod_eq_of_lt (by omega)] at h1
      rw [ih (fun z hz => ha z (by simp [hz])) (fun z hz => hb z (by simp [hz])) h.2, show x = y by omega]
theorem below7 {w W : World} {g : Nat} (h : Below w.heap.size w W) (hg : w.heap.size ≤ g) (b0 b1 b2 b3 b4 b5 b6 : Value) :
    Below w.heap.size w (((((((W.setCell ⟨g, 0, none⟩ b0).setCell ⟨g, 1, none⟩ b1).setCell ⟨g, 2, none⟩ b2).setCell ⟨g, 3, none⟩ b3).setCell ⟨g, 4, none⟩ b4).setCell ⟨g, 5, none⟩ b5).setCell ⟨g, 6, none⟩ b6) :=
  below_set (below_set (below_set (below_set (below_set (below_set (below_set h hg) hg) hg) hg) hg) hg) hg
def SR (s8 : Option Int) (sv l : List Int) (x1 x2 x3 x4 x5 x6 : Int) (t3 : List Int) (w : World) (e : Ending) (w' : World) : Prop :=
  e = .returned (if s8.isSome = true ∧ sv = l then .tuple #[.agg #[.int .i64 x1, .int .i64 x2, .int .i64 x3, .int .i64 x4, .int .i64 x5, .int .i64 x6, .string (strOfNums t3)], .bool true]
    else .tuple #[.agg #[.int .i64 0, .int .i64 0, .int .i64 0, .int .i64 0, .int .i64 0, .int .i64 0, .string ⟨#[]⟩], .bool false]) ∧ Below w.heap.size w w'
set_option maxHeartbeats 4000000 in
set_option maxRecDepth 100000 in
theorem segread_calls (A : Option Addr) (c : Nat) (l : List Int) (w : World) (hL : LShort w) (hC : Kd.C (Kd.int .u8) w A l.length l) (hw : ∀ x ∈ l, 0 ≤ x ∧ x < 256) (hl : l.length ≤ 281474976710656) (hc : l.length ≤ c)
    (s1 s2 s3 s4 s5 s6 : Option Int) (x1 x2 x3 x4 x5 x6 : Int) (t3 : List Int) (hx1 : x1 = numV l (some 0)) (hs1 : s1 = stepV l 2 (some 0)) (hx2 : x2 = numV l s1) (hs2 : s2 = stepV l 2 s1) (hx3 : x3 = numV l s2) (hs3 : s3 = stepV l 2 s2)
    (hx4 : x4 = numV l s3) (hs4 : s4 = stepV l 2 s3) (hx5 : x5 = numV l s4) (hs5 : s5 = stepV l 2 s4) (hx6 : x6 = numV l s5) (hs6 : s6 = stepV l 2 s5)
    (sv : List Int) (hsv : ∀ x ∈ sv, 0 ≤ x ∧ x < 256) (hSB : ∀ W, Calls Tryd.prog 13 #[.agg #[.int .i64 x1, .int .i64 x2, .int .i64 x3, .int .i64 x4, .int .i64 x5, .int .i64 x6, .string (strOfNums t3)]] W fun e w' => ∃ v, e = .returned v ∧ Kd.R (Kd.int .u8) 5 w' W.heap.size (fun _ => True) v sv ∧ Below W.heap.size W w')
    (s7 s8 : Option Int) (d : Nat) (t1 : List Int) (ht1 : t1 = takeV l 1 s6) (hs7 : s7 = stepV l 1 s6) (hd : (d : Int) = rd t1 0) (hd2 : d ≤ 255) (ht3 : t3 = takeV l d s7) (hs8 : s8 = stepV l d s7) :
    Calls Tryd.prog 8 #[.slice A l.length c] w (SR s8 sv l x1 x2 x3 x4 x5 x6 t3 w) := by
  have HL := Aside0.mk hL
  have HC := Aside0.mk hC
  have HW := Aside0.mk hw
  have X1 := Aside0.mk hx1
  have X2 := Aside0.mk hx2
  have X3 := Aside0.mk hx3
  have X4 := Aside0.mk hx4
  have X5 := Aside0.mk hx5
  have X6 := Aside0.mk hx6
  have S1 := Aside0.mk hs1
  have S2 := Aside0.mk hs2
  have S3 := Aside0.mk hs3
  have S4 := Aside0.mk hs4
  have S5 := Aside0.mk hs5
  have S6 := Aside0.mk hs6
  have T1 := Aside0.mk ht1
  have HSB := Aside0.mk hSB
  have HSV := Aside0.mk hsv
  clear hSB hsv
  have T3 := Aside0.mk ht3
  have S7 := Aside0.mk hs7
  have S8 := Aside0.mk hs8
  have D1 := Aside0.mk hd
  clear ht1 ht3 hs7 hs8 hd
  clear hx1 hx2 hx3 hx4 hx5 hx6 hs1 hs2 hs3 hs4 hs5 hs6 hL hC hw
  obtain ⟨W1, hW1, HB1, G1, R1⟩ := two_blocks w (.cells #[.int .i64 0, .int .i64 0, .int .i64 0, .int .i64 0, .int .i64 0, .int .i64 0, .string ⟨#[]⟩] 26) (.cells #[.slice A l.length c, .int .i64 0, .nilIface] 43)
  have HS := Aside0.mk (show Sg w W1 A l c _ (some 0) from ⟨⟨R1, by omega, by omega⟩, HB1, G1⟩)
  have HW1 := Aside0.mk hW1
  clear hW1 HB1 G1 R1
  go_enter Tryd.func8, Tryd.ntmps8
  go_wp2_with fail
  rw [← HW1.out]
  (go_at_call 23; refine (num_sg w A l c _ _ _ _ W1 HS.out X1.out S1.out HL.out HC.out HW.out hl hc).mono ?_; rintro e W2 ⟨rfl, hs⟩)
  replace HS := Aside0.mk hs
  clear hs HW1
  go_wp2_with fail
  (go_at_call 23; refine (num_sg w A l c _ _ _ _ W2 HS.out X2.out S2.out HL.out HC.out HW.out hl hc).mono ?_; rintro e W3 ⟨rfl, hs⟩)
  replace HS := Aside0.mk hs
  clear hs
  go_wp2_with fail
  (go_at_call 23; refine (num_sg w A l c _ _ _ _ W3 HS.out X3.out S3.out HL.out HC.out HW.out hl hc).mono ?_; rintro e W4 ⟨rfl, hs⟩)
  replace HS := Aside0.mk hs
  clear hs
  go_wp2_with fail
  (go_at_call 23; refine (num_sg w A l c _ _ _ _ W4 HS.out X4.out S4.out HL.out HC.out HW.out hl hc).mono ?_; rintro e W5 ⟨rfl, hs⟩)
  replace HS := Aside0.mk hs
  clear hs
  go_wp2_with fail
  (go_at_call 23; refine (num_sg w A l c _ _ _ _ W5 HS.out X5.out S5.out HL.out HC.out HW.out hl hc).mono ?_; rintro e W6 ⟨rfl, hs⟩)
  replace HS := Aside0.mk hs
  clear hs
  go_wp2_with fail
  (go_at_call 23; refine (num_sg w A l c _ _ _ _ W6 HS.out X6.out S6.out HL.out HC.out HW.out hl hc).mono ?_; rintro e W7 ⟨rfl, hs⟩)
  replace HS := Aside0.mk hs
  clear hs
  go_wp2_with fail
  have hlt := HS.out.lt
  obtain ⟨W8, hW8, hb8⟩ := named W7 (.cells #[.int .i64 x1, .int .i64 x2, .int .i64 x3, .int .i64 x4, .int .i64 x5, .int .i64 x6, .string ⟨#[]⟩] 26)
  have HS8 := Aside0.mk (show Sg w W8 A l c _ s6 by rw [hW8]; exact HS.out.alloc _)
  have BS := Aside0.mk hb8
  rw [← hW8]
  clear hW8 HS hb8
  obtain ⟨gs, hgs⟩ : ∃ gs, gs = W7.heap.size := ⟨_, rfl⟩
  rw [← hgs] at hlt BS ⊢
  clear hgs
  (go_at_call 24; refine (take_sg w A l c _ _ _ 1 1 rfl _ W8 HS8.out T1.out S7.out HL.out HC.out (by omega) hl hc).mono ?_; rintro e W9 ⟨A2, c2, rfl, hC2, hs, hk⟩)
  have HS9 := Aside0.mk hs
  have BS9 := Aside0.mk (hk.blk BS.out (by omega) (by simp))
  clear hs hk HS8 BS
  obtain ⟨ad, ea, hc0⟩ := Kd.at_int hC2 0 (by omega) (by omega)
  cases ea
  rw [← D1.out] at hc0
  have e1 : IntKind.i64.wrap (d : Int) = (d : Int) := by rw [i64_w, Lib.wrap_id (by omega) (by omega)]
  simp only [show (0 : Int).toNat = 0 from rfl, Go.Addr.add, ↓reduceIte] at hc0
  clear hC2
  go_wp2_with fail
  (go_at_call 24; refine (take_sg w A l c _ _ _ d _ rfl _ W9 HS9.out T3.out S8.out HL.out HC.out (by omega) hl hc).mono ?_; rintro e W10 ⟨A3, c3, rfl, hC3, hs, hk⟩)
  have HS10 := Aside0.mk hs
  have BS10 := Aside0.mk (hk.blk BS9.out (by omega) (by simp))
  clear hs hk HS9 BS9 hc0 e1
  have hcv := Kd.C_string (P := Tryd.prog) (A := A3) (c := c3) Tryd.underlying22 Tryd.underlying5 Tryd.underlying9 hC3
  have c6 : W10.cell? ⟨gs, 6, none⟩ = some (.string ⟨#[]⟩) := (blk_cell BS10.out 6).trans rfl
  have z6 := blk_frozen BS10.out 6
  have HC3 := Aside0.mk hC3
  clear hC3
  go_wp2_with fail
  obtain ⟨W11, hW11⟩ : ∃ W11, W11 = W10.setCell ⟨gs, 6, none⟩ (.string (strOfNums t3)) := ⟨_, rfl⟩
  have HS11 := Aside0.mk (show Sg w W11 A l c _ s8 by rw [hW11]; exact HS10.out.set hlt 6 _)
  have BS11 := Aside0.mk (show W11.heap[gs]? = some (.cells #[.int .i64 x1, .int .i64 x2, .int .i64 x3, .int .i64 x4, .int .i64 x5, .int .i64 x6, .string (strOfNums t3)] 26) by rw [hW11]; exact blk_put BS10.out 6 _ rfl)
  rw [← hW11]
  clear hW11 HS10 BS10 HC3 hcv c6 z6
  cases s8 with
  | none =>
    obtain ⟨⟨a, tp, pv, hb⟩, hB, hG⟩ := HS11.out
    have c2 : W11.cell? ⟨w.heap.size + 1, 2, none⟩ = some (.iface tp pv) := (blk_cell hb 2).trans rfl
    clear hb
    have HB := Aside0.mk hB
    have GR := Aside0.mk hG
    clear hB hG
    have r0 : W11.cell? ⟨w.heap.size, 0, none⟩ = some (.int .i64 0) := (blk_cell GR.out 0).trans rfl
    have r1 : W11.cell? ⟨w.heap.size, 1, none⟩ = some (.int .i64 0) := (blk_cell GR.out 1).trans rfl
    have r2 : W11.cell? ⟨w.heap.size, 2, none⟩ = some (.int .i64 0) := (blk_cell GR.out 2).trans rfl
    have r3 : W11.cell? ⟨w.heap.size, 3, none⟩ = some (.int .i64 0) := (blk_cell GR.out 3).trans rfl
    have r4 : W11.cell? ⟨w.heap.size, 4, none⟩ = some (.int .i64 0) := (blk_cell GR.out 4).trans rfl
    have r5 : W11.cell? ⟨w.heap.size, 5, none⟩ = some (.int .i64 0) := (blk_cell GR.out 5).trans rfl
    have r6 : W11.cell? ⟨w.heap.size, 6, none⟩ = some (.string ⟨#[]⟩) := (blk_cell GR.out 6).trans rfl
    have q0 := blk_frozen GR.out 0
    have q1 := blk_frozen GR.out 1
    have q2 := blk_frozen GR.out 2
    have q3 := blk_frozen GR.out 3
    have q4 := blk_frozen GR.out 4
    have q5 := blk_frozen GR.out 5
    have q6 := blk_frozen GR.out 6
    go_quiet (fail)
    go_wp2
    refine bodyPost_ret (results_ct rfl _ _ w.heap.size 26 #[.int .i64 0, .int .i64 0, .int .i64 0, .int .i64 0, .int .i64 0, .int .i64 0, .string ⟨#[]⟩] (0, 0) _ rfl (put7 (blk_drewN GR.out _) _ _ _ _ _ _ _) Tryd.underlying26 rfl (by kernel_rfl)) rfl ?_
    exact ⟨rfl, below7 (pw_below_drewN HB.out _) (Nat.le_refl _) _ _ _ _ _ _ _⟩
  | some a =>
    obtain ⟨⟨hb, h0, ha⟩, hB, hG⟩ := HS11.out
    have c2 : W11.cell? ⟨w.heap.size + 1, 2, none⟩ = some .nilIface := (blk_cell hb 2).trans rfl
    clear hb
    have HB := Aside0.mk hB
    have GR := Aside0.mk hG
    clear hB hG
    have n0 : W11.cell? ⟨gs, 0, none⟩ = some (.int .i64 x1) := (blk_cell BS11.out 0).trans rfl
    have n1 : W11.cell? ⟨gs, 1, none⟩ = some (.int .i64 x2) := (blk_cell BS11.out 1).trans rfl
    have n2 : W11.cell? ⟨gs, 2, none⟩ = some (.int .i64 x3) := (blk_cell BS11.out 2).trans rfl
    have n3 : W11.cell? ⟨gs, 3, none⟩ = some (.int .i64 x4) := (blk_cell BS11.out 3).trans rfl
    have n4 : W11.cell? ⟨gs, 4, none⟩ = some (.int .i64 x5) := (blk_cell BS11.out 4).trans rfl
    have n5 : W11.cell? ⟨gs, 5, none⟩ = some (.int .i64 x6) := (blk_cell BS11.out 5).trans rfl
    have n6 : W11.cell? ⟨gs, 6, none⟩ = some (.string (strOfNums t3)) := (blk_cell BS11.out 6).trans rfl
    have r0 : W11.cell? ⟨w.heap.size, 0, none⟩ = some (.int .i64 0) := (blk_cell GR.out 0).trans rfl
    have r1 : W11.cell? ⟨w.heap.size, 1, none⟩ = some (.int .i64 0) := (blk_cell GR.out 1).trans rfl
    have r2 : W11.cell? ⟨w.heap.size, 2, none⟩ = some (.int .i64 0) := (blk_cell GR.out 2).trans rfl
    have r3 : W11.cell? ⟨w.heap.size, 3, none⟩ = some (.int .i64 0) := (blk_cell GR.out 3).trans rfl
    have r4 : W11.cell? ⟨w.heap.size, 4, none⟩ = some (.int .i64 0) := (blk_cell GR.out 4).trans rfl
    have r5 : W11.cell? ⟨w.heap.size, 5, none⟩ = some (.int .i64 0) := (blk_cell GR.out 5).trans rfl
    have r6 : W11.cell? ⟨w.heap.size, 6, none⟩ = some (.string ⟨#[]⟩) := (blk_cell GR.out 6).trans rfl
    have q0 := blk_frozen GR.out 0
    have q1 := blk_frozen GR.out 1
    have q2 := blk_frozen GR.out 2
    have q3 := blk_frozen GR.out 3
    have q4 := blk_frozen GR.out 4
    have q5 := blk_frozen GR.out 5
    have q6 := blk_frozen GR.out 6
    have hcb := Kd.C_string (P := Tryd.prog) (A := A) (c := c) Tryd.underlying22 Tryd.underlying5 Tryd.underlying9 (Kd.C_below HC.out (below_drew1 HB.out))
    go_region_with (go_at_call 13; refine (HSB.out _).mono ?_; rintro e W12 ⟨v, rfl, hR, hb2⟩; obtain ⟨A4, c4, rfl, hl4, hC4⟩ := Kd.R_reads hR; (have hca := Kd.C_string (P := Tryd.prog) (A := A4) (c := c4) Tryd.underlying22 Tryd.underlying5 Tryd.underlying9 hC4); (have HB2 := Aside0.mk (below_step (below_drew1 HB.out) hb2)); (have hcb2 := Kd.C_string (P := Tryd.prog) (A := A) (c := c) Tryd.underlying22 Tryd.underlying5 Tryd.underlying9 (Kd.C_below HC.out HB2.out)); (have BS12 := Aside0.mk (blk_below (blk_drew BS11.out) hb2)); (have GR12 := Aside0.mk (blk_below (blk_drew GR.out) hb2)); (have p0 : W12.cell? ⟨w.heap.size, 0, none⟩ = some (.int .i64 0) := (blk_cell GR12.out 0).trans rfl); (have u0 := blk_frozen GR12.out 0); (have p1 : W12.cell? ⟨w.heap.size, 1, none⟩ = some (.int .i64 0) := (blk_cell GR12.out 1).trans rfl); (have u1 := blk_frozen GR12.out 1); (have p2 : W12.cell? ⟨w.heap.size, 2, none⟩ = some (.int .i64 0) := (blk_cell GR12.out 2).trans rfl); (have u2 := blk_frozen GR12.out 2); (have p3 : W12.cell? ⟨w.heap.size, 3, none⟩ = some (.int .i64 0) := (blk_cell GR12.out 3).trans rfl); (have u3 := blk_frozen GR12.out 3); (have p4 : W12.cell? ⟨w.heap.size, 4, none⟩ = some (.int .i64 0) := (blk_cell GR12.out 4).trans rfl); (have u4 := blk_frozen GR12.out 4); (have p5 : W12.cell? ⟨w.heap.size, 5, none⟩ = some (.int .i64 0) := (blk_cell GR12.out 5).trans rfl); (have u5 := blk_frozen GR12.out 5); (have p6 : W12.cell? ⟨w.heap.size, 6, none⟩ = some (.string ⟨#[]⟩) := (blk_cell GR12.out 6).trans rfl); (have u6 := blk_frozen GR12.out 6); (have m0 : W12.cell? ⟨gs, 0, none⟩ = some (.int .i64 x1) := (blk_cell BS12.out 0).trans rfl); (have m1 : W12.cell? ⟨gs, 1, none⟩ = some (.int .i64 x2) := (blk_cell BS12.out 1).trans rfl); (have m2 : W12.cell? ⟨gs, 2, none⟩ = some (.int .i64 x3) := (blk_cell BS12.out 2).trans rfl); (have m3 : W12.cell? ⟨gs, 3, none⟩ = some (.int .i64 x4) := (blk_cell BS12.out 3).trans rfl); (have m4 : W12.cell? ⟨gs, 4, none⟩ = some (.int .i64 x5) := (blk_cell BS12.out 4).trans rfl); (have m5 : W12.cell? ⟨gs, 5, none⟩ = some (.int .i64 x6) := (blk_cell BS12.out 5).trans rfl); (have m6 : W12.cell? ⟨gs, 6, none⟩ = some (.string (strOfNums t3)) := (blk_cell BS12.out 6).trans rfl); clear hb2 hR hC4 hl4)
    all_goals go_wp2
    all_goals first
      | (have hne : (!(strOfNums sv).toList == (strOfNums l).toList) = true := by assumption
         have hq : ¬ (sv = l) := fun e_ => by subst e_; simp at hne
         refine bodyPost_ret (results_ct rfl _ _ w.heap.size 26 #[.int .i64 0, .int .i64 0, .int .i64 0, .int .i64 0, .int .i64 0, .int .i64 0, .string ⟨#[]⟩] (0, 0) _ rfl (put7 GR12.out _ _ _ _ _ _ _) Tryd.underlying26 rfl (by kernel_rfl)) rfl ?_
         exact ⟨by rw [if_neg (fun h_ => hq h_.2)]; rfl, below7 HB2.out (Nat.le_refl _) _ _ _ _ _ _ _⟩)
      | (have hne : (!(strOfNums sv).toList == (strOfNums l).toList) = false := by assumption
         have hq : sv = l := strs_inj HSV.out HW.out (by simpa using hne)
         refine bodyPost_ret (results_ct rfl _ _ w.heap.size 26 #[.int .i64 x1, .int .i64 x2, .int .i64 x3, .int .i64 x4, .int .i64 x5, .int .i64 x6, .string (strOfNums t3)] (0, 0) _ rfl (put7 GR12.out _ _ _ _ _ _ _) Tryd.underlying26 rfl (by kernel_rfl)) rfl ?_
         exact ⟨by rw [if_pos ⟨rfl, hq⟩]; rfl, below7 HB2.out (Nat.le_refl _) _ _ _ _ _ _ _⟩)
end
end Go.Proofs.YtdfoelhpeeanlaaDoor.Ends
