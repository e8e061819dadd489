/- FnExactBakLine: the row, out of the walk (the printed 'calls') and the plain statement: for every input the law answers true, and the input reads as it did. -/
import Derived.Test.YtlofgoahgnllkaaDoorRows
import Derived.Test.YtlofgoahgnllkaaDoorQFnExactBakLinex10
import Derived.Test.YtlofgoahgnllkaaDoorPureFnExactBakLine
import Derived.Deep.SlicePairs
import Derived.WalkKit
import Derived.ProofKit
import Derived.OpenShut
import Derived.ShutString
import Derived.ChangeOld
import Derived.Below
import Derived.SizedLaws
import Derived.Test.YtlofgoahgnllkaaDoorWSized
import Derived.Test.YtlofgoahgnllkaaDoorLaidD
import Derived.Test.YtlofgoahgnllkaaDoorTie
import Derived.Test.YtlofgoahgnllkaaDoorCards
import Derived.SevenTiedAt
import Derived.LaidMore
import Derived.Stop.LaidErr
import Derived.MakeChecks
namespace Go.Proofs.YtlofgoahgnllkaaDoor.fnExactBakLine
open Go.ChangeShapes Go.WideShapes Go.ChangeAt Go.RowKit
open Go.ChangeMaps (open_string shut_string)
open Go.Proofs.YtlofgoahgnllkaaDoorW.PrintWords Go.Proofs.YtlofgoahgnllkaaDoorW.PrintLast
set_option linter.unusedVariables false
set_option linter.unusedSimpArgs false
theorem own : ownKnob Tryd.prog.godebug = none := by kernel_rfl
theorem laidOut : laidOutB Tryd.prog = true := by kernel_rfl
theorem arr1 {α : Type} {cs : Array α} (h : cs.size = 1) : ∃ c0, cs = #[c0] := by
  obtain ⟨l⟩ := cs
  match l, h with
  | [c0], _ => exact ⟨c0, rfl⟩
theorem open_tab22_48 {H : Type} {enc : TypeId × Value → H} {W : World} {base : Nat} {sp : Nat → Bool} {held : Bool} {fuel : Nat} {cs : List Value} {x : DataW H × List MemPlace} (h : DataW.trod enc Tryd.prog W base sp held fuel 22 cs = some x) :
    ∃ (a : Option Addr) (len cap : Nat) (l : List QFnExactBakLine.S48), cs = [.slice a len cap] ∧ Kd.C QFnExactBakLine.k48 W a l.length l ∧ l.length ≤ cap ∧ len = l.length ∧ l.length ≤ 9223372036854775807 ∧ ∀ y ∈ l, (Lit.int .i64 y.f0).wf = true ∧ (Lit.int .i64 y.f1).wf = true := by
  rcases Deep.open_slice_pairs Tryd.underlying22 Tryd.underlying48 (by kernel_rfl) rfl rfl (by kernel_rfl) (by kernel_rfl) h with ⟨rfl, _⟩ | ⟨a, len, cap, m, n, V0, V1, D0, D1, P0, P1, rfl, _, hl, hm, hmm, _, hcell⟩
  · exact ⟨none, 0, 0, [], rfl, ⟨rfl, by simp, fun h => absurd h (by simp)⟩, Nat.le_refl _, rfl, by simp, fun y hy => by cases hy⟩
  · have hlm : len ≤ m := by rw [hmm]; split <;> omega
    have each : ∀ i, i < len → ∃ q : Int × Int, V0 i = .int .i64 q.1 ∧ V1 i = .int .i64 q.2 ∧ (Lit.int .i64 q.1).wf = true ∧ (Lit.int .i64 q.2).wf = true := fun i hi => by
      obtain ⟨_, _, h0, h1⟩ := hcell i (by omega)
      obtain ⟨x0, e0, _, w0⟩ := DataW.trod_int Tryd.underlying3 h0
      obtain ⟨x1, e1, _, w1⟩ := DataW.trod_int Tryd.underlying3 h1
      exact ⟨(x0, x1), by simpa using e0, by simpa using e1, w0, w1⟩
    obtain ⟨q, hq⟩ := Deep.choose_lt each
    have hlen : ((List.range len).map fun i => (⟨(q i).1, (q i).2⟩ : QFnExactBakLine.S48)).length = len := by simp
    have hM : maxLen ≤ 9223372036854775807 := by decide
    refine ⟨some a, len, cap, (List.range len).map fun i => (⟨(q i).1, (q i).2⟩ : QFnExactBakLine.S48), rfl, ⟨rfl, by omega, fun _ => ⟨a, rfl, fun j p hp => ⟨[.int .i64 p.f0, .int .i64 p.f1], rfl, QFnExactBakLine.k48_mk W p, fun i u hu => ?_⟩⟩⟩, by omega, hlen.symm, by omega, fun y hy => ?_⟩
    · rw [List.getElem?_map] at hp
      obtain ⟨j', hj, rfl⟩ := Option.map_eq_some_iff.1 hp
      obtain ⟨hjl, e⟩ := List.getElem?_eq_some_iff.1 hj
      rw [List.getElem_range] at e
      subst e
      rw [List.length_range] at hjl
      obtain ⟨c0, c1, _, _⟩ := hcell j (by omega)
      obtain ⟨v0, v1, _, _⟩ := hq j hjl
      match i, hu with
      | 0, hu => exact (c0.trans (congrArg some v0)).trans hu
      | 1, hu => exact (c1.trans (congrArg some v1)).trans hu
      | i + 2, hu => simp at hu
    · obtain ⟨i, hi, rfl⟩ := List.mem_map.1 hy
      exact ⟨(hq i (by simpa using hi)).2.2.1, (hq i (by simpa using hi)).2.2.2⟩
set_option maxRecDepth 100000 in
theorem lifted (os : Os) (started : os.Started) (H : Type) (enc : TypeId × Value → H) :
    ReturnsInHanded {} Tryd.checked os 3 .any (fun w args => (Rows.fnExactBakLineSpec.pre enc Tryd.prog Tryd.f3 [] false w args ∧ laidMetH Tryd.prog LaidD.list6 w) ∧ sizedMet enc Tryd.prog Tryd.f3 (OpenSpec.ofChange Rows.fnExactBakLineSpec) false w args) (Rows.fnExactBakLineSpec.post enc Tryd.prog Tryd.f3 false true false false) := by
  refine returnsInHanded_of_change_and (C := Tryd.checked) (X := fun w _ => laidMetH Tryd.prog LaidD.list6 w) (fun _ _ _ hh h => h.of_heap hh) own started (by kernel_rfl) Tryd.func3
    (ChangeSpec.witness_shaped (enc := enc) (C := Tryd.checked) (os := os) (X := fun w _ => laidMetH Tryd.prog LaidD.list6 w) false (World.doorLaid Tryd.prog 400 os) #[.agg #[.slice none 0 0], .string ByteArray.empty] 8 rfl (World.shaped_of_RefB (by kernel_rfl) (by kernel_rfl)) (by kernel_rfl) (by kernel_rfl) (by kernel_rfl) (LaidD.door6 os _)) ?_
  intro W base args ds gs before hval0 hW _ hsz0 hL0 _
  have hL := hL0
  rw [MakeChecks.laidMetH_plain _ _ _ (by kernel_rfl)] at hL
  have hsz : (DataW.weightsEach Tryd.prog (Tryd.f3.params.toList ++ Rows.fnExactBakLineSpec.plain.varTypes Tryd.prog) (ds ++ gs)).all (· ≤ reachBytes) = true := hsz0
  have hval : ∀ (j : Nat) t v, Tryd.f3.params[j]? = some t → args[j]? = some v → Value.okWide Tryd.prog W .any base t v := hval0
  have hW' := hW
  obtain ⟨p, q, hA0, hV, rfl, hfz, hnd⟩ := hW
  have hA : DataW.TrodAll enc Tryd.prog W 0 (fun _ => true) true Tryd.f3.params.toList args.toList ds p := hA0
  rw [Tryd.params3] at hA hval hsz
  obtain ⟨v0, vs0, d0, ds0, p0, q0, hargs, rfl, rfl, h0, r0⟩ := trodAll_cons hA
  obtain ⟨v1, vs1, d1, ds1, p1, q1, rfl, rfl, rfl, h1, r1⟩ := trodAll_cons r0
  obtain ⟨rfl, rfl, rfl⟩ := trodAll_nil r1
  obtain rfl : args = #[v0, v1] := by cases args; simp_all
  obtain ⟨hL_, pe, hve⟩ := LaidD.of6 hL
  obtain ⟨rfl, rfl⟩ := hV.unique (vars_read1 enc LaidD.gEnd rfl Tryd.underlying76 hve trivial _)
  have k0 := h0
  have lt0 : ∀ x ∈ p0, x.block < W.heap.size := by obtain ⟨m, hm⟩ := k0; exact DataW.trod_lt m _ _ _ hm
  obtain ⟨cs0, rfl, hz0⟩ := okWide_struct Tryd.underlying24 (hval 0 24 v0 rfl rfl)
  obtain ⟨c0_0, rfl⟩ := arr1 (hz0.trans (by kernel_rfl : Tryd.prog.cellsOf 24 = 1))
  obtain ⟨fuel0, hf0⟩ := h0
  simp only [Value.cells] at hf0
  obtain ⟨xs1, n1, _, _, _, hl1, hF1⟩ := DataW.trod_struct Tryd.underlying24 hf0
  have e2 := hF1 0 _ rfl
  obtain ⟨y1002, hy2⟩ : ∃ y, xs1[0]? = some y := ⟨_, List.getElem?_eq_getElem (by rw [hl1]; decide)⟩
  rw [hy2] at e2
  have g2 : Tryd.prog.cellsOf 22 = 1 := by kernel_rfl
  obtain ⟨A0_0, len0_0, cap0_0, l0_0, q2, C0_0, hc0_0, hl0_0, hm0_0, hw0_0⟩ := open_tab22_48 e2
  subst hl0_0
  simp [g2] at q2
  subst q2
  have k1 := h1
  have lt1 : ∀ x ∈ p1, x.block < W.heap.size := by obtain ⟨m, hm⟩ := k1; exact DataW.trod_lt m _ _ _ hm
  obtain ⟨a1, rfl, rfl, rfl, y1⟩ := open_string Tryd.underlying9 (hval 1 9 v1 rfl rfl) h1
  have w1 : a1.size ≤ 140737488351232 := by
    have z := sized_string hsz (j := 1) (t := 9) rfl rfl
    rw [Array.length_toList] at z
    exact z
  clear hA0 hval0 hsz0 hsz
  obtain ⟨k, hP⟩ := Pure.FnExactBakLine l0_0 a1 hm0_0 hw0_0 w1
  refine (QFnExactBakLine.laws_FnExactBakLine.calls k _ _ l0_0 a1 true W C0_0 hc0_0 hP hL_).mono fun e W' ⟨he, bel⟩ => ?_
  subst he
  exact ⟨_, rfl, _, _, _, [], _, [.cell 0 0], hW', trodAll_mk1 (shut_bool Tryd.underlying4 _), (trodAll_cons_mk (Below.trod laidOut (by kernel_rfl) (of_decide_eq_true (by kernel_rfl)) k0 bel lt0) (trodAll_cons_mk (Below.trod laidOut (by kernel_rfl) (of_decide_eq_true (by kernel_rfl)) k1 bel lt1) trodAll_mk0)), vars_read1 enc LaidD.gEnd rfl Tryd.underlying76 (LaidD.var_in hve bel) trivial _, bel.frame _, fun h => by cases h⟩
theorem over : Rows.fnExactBakLineRow.holds Tryd.pinned (OpenSpec.ofChange Rows.fnExactBakLineSpec) :=
  OpenClaim.holds_of_wide 3 Tryd.f3 rfl rfl rfl rfl rfl rfl rfl ⟨rfl, rfl, rfl, rfl, rfl⟩ rfl rfl rfl rfl rfl (by kernel_rfl) Tryd.func3 (by kernel_rfl)
    (of_decide_eq_true (by kernel_rfl)) (by unfold Func.isWrapper; first | (rw [if_pos (by decide +kernel)]; kernel_rfl) | (rw [if_neg (by decide +kernel)]; exact ⟨rfl, rfl⟩))
    (fun os started H enc _ => lifted os started H enc)
theorem proved : Rows.FnExactBakLineSaid := over
end Go.Proofs.YtlofgoahgnllkaaDoor.fnExactBakLine
namespace Go.Proofs.YtlofgoahgnllkaaDoor
open Go
/-- The tied card, for the claim. -/
theorem fnExactBakLine_holds : Rows.FnExactBakLineCardSaid :=
  Claim7.holds_tied_plain_at .later [] [.data, .data, .data, .sentinel, .sentinel, .sentinel] true (true, "fdc7a64ad4d086c2948ce7bf29c187177b2c8f5ef5918b6f4b7bd1d2f1efb23a") true
    fnExactBakLine.proved (fun _ h => by cases h) (by kernel_rfl) (fun _ h => by cases h) fnExactBakLine_row_tie rfl ⟨rfl, rfl⟩ (by kernel_rfl) rfl
    (fun f fn hf hfn => by
      obtain rfl : f = 3 := Option.some.inj ((show Tryd.prog.funcNamed "loop.example/hatchway/laws.FnExactBakLine" = some 3 by kernel_rfl).symm.trans hf) |>.symm
      obtain rfl : fn = Tryd.f3 := (Option.some.inj (Tryd.func3.symm.trans hfn)).symm
      exact ⟨by kernel_rfl, fun j t ht => by
        rw [Tryd.params3] at ht
        have hm : t ∈ [24, 9] := by simpa using Array.mem_of_getElem? ht
        have hall : ([24, 9].all fun u => !Tryd.prog.wantsStandIn u) = true := by kernel_rfl
        exact (show Tryd.prog.wantsStandIn t = false by simpa using List.all_eq_true.1 hall t hm)⟩)
    (by kernel_rfl)
#print axioms fnExactBakLine_holds
end Go.Proofs.YtlofgoahgnllkaaDoor
