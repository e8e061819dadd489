/- FnExactMapEnd: the row, out of the walk (the printed 'calls') and the plain statement: for every input the law answers true, and the input reads as it did. -/
import Derived.Test.YtlofgoahgnllkaaRows
import Derived.Test.YtlofgoahgnllkaaQFnExactMapEndx2
import Derived.Test.YtlofgoahgnllkaaPureFnExactMapEnd
import Derived.Deep.SlicePairs
import Derived.WalkKit
import Derived.ProofKit
import Derived.OpenShut
import Derived.ShutString
import Derived.ChangeOld
import Derived.Below
import Derived.SizedLaws
import Derived.Test.YtlofgoahgnllkaaWSized
namespace Go.Proofs.Ytlofgoahgnllkaa.fnExactMapEnd
open Go.ChangeShapes Go.WideShapes Go.ChangeAt Go.RowKit
open Go.ChangeMaps (open_string shut_string)
open Go.Proofs.YtlofgoahgnllkaaW.PrintWords Go.Proofs.YtlofgoahgnllkaaW.PrintLast
set_option linter.unusedVariables false
set_option linter.unusedSimpArgs false
theorem own : ownKnob Try.prog.godebug = none := by kernel_rfl
theorem laidOut : laidOutB Try.prog = true := by kernel_rfl
theorem arr1 {α : Type} {cs : Array α} (h : cs.size = 1) : ∃ c0, cs = #[c0] := by
  obtain ⟨l⟩ := cs
  match l, h with
  | [c0], _ => exact ⟨c0, rfl⟩
theorem open_tab22_37 {H : Type} {enc : TypeId × Value → H} {W : World} {base : Nat} {sp : Nat → Bool} {held : Bool} {fuel : Nat} {cs : List Value} {x : DataW H × List MemPlace} (h : DataW.trod enc Try.prog W base sp held fuel 22 cs = some x) :
    ∃ (a : Option Addr) (len cap : Nat) (l : List QFnExactMapEnd.S37), cs = [.slice a len cap] ∧ Kd.C QFnExactMapEnd.k37 W a l.length l ∧ l.length ≤ cap ∧ len = l.length ∧ l.length ≤ 9223372036854775807 ∧ ∀ y ∈ l, (Lit.int .i64 y.f0).wf = true ∧ (Lit.int .i64 y.f1).wf = true := by
  rcases Deep.open_slice_pairs Try.underlying22 Try.underlying37 (by kernel_rfl) rfl rfl (by kernel_rfl) (by kernel_rfl) h with ⟨rfl, _⟩ | ⟨a, len, cap, m, n, V0, V1, D0, D1, P0, P1, rfl, _, hl, hm, hmm, _, hcell⟩
  · exact ⟨none, 0, 0, [], rfl, ⟨rfl, by simp, fun h => absurd h (by simp)⟩, Nat.le_refl _, rfl, by simp, fun y hy => by cases hy⟩
  · have hlm : len ≤ m := by rw [hmm]; split <;> omega
    have each : ∀ i, i < len → ∃ q : Int × Int, V0 i = .int .i64 q.1 ∧ V1 i = .int .i64 q.2 ∧ (Lit.int .i64 q.1).wf = true ∧ (Lit.int .i64 q.2).wf = true := fun i hi => by
      obtain ⟨_, _, h0, h1⟩ := hcell i (by omega)
      obtain ⟨x0, e0, _, w0⟩ := DataW.trod_int Try.underlying3 h0
      obtain ⟨x1, e1, _, w1⟩ := DataW.trod_int Try.underlying3 h1
      exact ⟨(x0, x1), by simpa using e0, by simpa using e1, w0, w1⟩
    obtain ⟨q, hq⟩ := Deep.choose_lt each
    have hlen : ((List.range len).map fun i => (⟨(q i).1, (q i).2⟩ : QFnExactMapEnd.S37)).length = len := by simp
    have hM : maxLen ≤ 9223372036854775807 := by decide
    refine ⟨some a, len, cap, (List.range len).map fun i => (⟨(q i).1, (q i).2⟩ : QFnExactMapEnd.S37), rfl, ⟨rfl, by omega, fun _ => ⟨a, rfl, fun j p hp => ⟨[.int .i64 p.f0, .int .i64 p.f1], rfl, QFnExactMapEnd.k37_mk W p, fun i u hu => ?_⟩⟩⟩, by omega, hlen.symm, by omega, fun y hy => ?_⟩
    · rw [List.getElem?_map] at hp
      obtain ⟨j', hj, rfl⟩ := Option.map_eq_some_iff.1 hp
      obtain ⟨hjl, e⟩ := List.getElem?_eq_some_iff.1 hj
      rw [List.getElem_range] at e
      subst e
      rw [List.length_range] at hjl
      obtain ⟨c0, c1, _, _⟩ := hcell j (by omega)
      obtain ⟨v0, v1, _, _⟩ := hq j hjl
      match i, hu with
      | 0, hu => exact (c0.trans (congrArg some v0)).trans hu
      | 1, hu => exact (c1.trans (congrArg some v1)).trans hu
      | i + 2, hu => simp at hu
    · obtain ⟨i, hi, rfl⟩ := List.mem_map.1 hy
      exact ⟨(hq i (by simpa using hi)).2.2.1, (hq i (by simpa using hi)).2.2.2⟩
set_option maxRecDepth 100000 in
theorem lifted (os : Os) (started : os.Started) (H : Type) (enc : TypeId × Value → H) :
    ReturnsInHanded {} Try.checked os 3 .any (Rows.fnExactMapEndSpec.pre6 enc Try.prog Try.f3 Rows.fnExactMapEndRow.domain false) (Rows.fnExactMapEndSpec.post enc Try.prog Try.f3 false true false false) := by
  refine returnsInHanded_of_change_sized (C := Try.checked) own started (by kernel_rfl) Try.func3
    (ChangeSpec.witness6 (enc := enc) (C := Try.checked) false ⟨#[], #[.agg #[.slice none 0 0], .int .i64 0], []⟩ 8 (by kernel_rfl) (by kernel_rfl) (by kernel_rfl) (by kernel_rfl)) ?_
  intro W base args ds gs before hval0 hW hcnd hsz0 _
  have hsz : (DataW.weightsEach Try.prog (Try.f3.params.toList ++ Rows.fnExactMapEndSpec.plain.varTypes Try.prog) (ds ++ gs)).all (· ≤ reachBytes) = true := hsz0
  have hval : ∀ (j : Nat) t v, Try.f3.params[j]? = some t → args[j]? = some v → Value.okWide Try.prog W .any base t v := hval0
  have hW' := hW
  obtain ⟨p, q, hA0, hV, rfl, hfz, hnd⟩ := hW
  have hA : DataW.TrodAll enc Try.prog W 0 (fun _ => true) true Try.f3.params.toList args.toList ds p := hA0
  rw [Try.params3] at hA hval hsz
  obtain ⟨v0, vs0, d0, ds0, p0, q0, hargs, rfl, rfl, h0, r0⟩ := trodAll_cons hA
  obtain ⟨v1, vs1, d1, ds1, p1, q1, rfl, rfl, rfl, h1, r1⟩ := trodAll_cons r0
  obtain ⟨rfl, rfl, rfl⟩ := trodAll_nil r1
  obtain rfl : args = #[v0, v1] := by cases args; simp_all
  obtain ⟨rfl, rfl⟩ := trodVars_none hV
  have k0 := h0
  have lt0 : ∀ x ∈ p0, x.block < W.heap.size := by obtain ⟨m, hm⟩ := k0; exact DataW.trod_lt m _ _ _ hm
  obtain ⟨cs0, rfl, hz0⟩ := okWide_struct Try.underlying24 (hval 0 24 v0 rfl rfl)
  obtain ⟨c0_0, rfl⟩ := arr1 (hz0.trans (by kernel_rfl : Try.prog.cellsOf 24 = 1))
  obtain ⟨fuel0, hf0⟩ := h0
  simp only [Value.cells] at hf0
  obtain ⟨xs1, n1, _, _, _, hl1, hF1⟩ := DataW.trod_struct Try.underlying24 hf0
  have e2 := hF1 0 _ rfl
  obtain ⟨y1002, hy2⟩ : ∃ y, xs1[0]? = some y := ⟨_, List.getElem?_eq_getElem (by rw [hl1]; decide)⟩
  rw [hy2] at e2
  have g2 : Try.prog.cellsOf 22 = 1 := by kernel_rfl
  obtain ⟨A0_0, len0_0, cap0_0, l0_0, q2, C0_0, hc0_0, hl0_0, hm0_0, hw0_0⟩ := open_tab22_37 e2
  subst hl0_0
  simp [g2] at q2
  subst q2
  have k1 := h1
  have lt1 : ∀ x ∈ p1, x.block < W.heap.size := by obtain ⟨m, hm⟩ := k1; exact DataW.trod_lt m _ _ _ hm
  obtain ⟨a1, rfl, rfl, rfl, w1⟩ := open_int Try.underlying3 (hval 1 3 v1 rfl rfl) h1
  clear hA0 hval0 hsz0 hsz
  obtain ⟨k, hP⟩ := Pure.FnExactMapEnd l0_0 a1 hm0_0 hw0_0 w1
  refine (QFnExactMapEnd.laws_FnExactMapEnd.calls k _ _ l0_0 a1 true W C0_0 hc0_0 hP).mono fun e W' ⟨he, bel⟩ => ?_
  subst he
  exact ⟨_, rfl, _, _, _, [], _, [], hW', trodAll_mk1 (shut_bool Try.underlying4 _), (trodAll_cons_mk (Below.trod laidOut (by kernel_rfl) (of_decide_eq_true (by kernel_rfl)) k0 bel lt0) (trodAll_cons_mk (Below.trod laidOut (by kernel_rfl) (of_decide_eq_true (by kernel_rfl)) k1 bel lt1) trodAll_mk0)), rfl, bel.frame _, fun h => by cases h⟩
theorem over : Rows.fnExactMapEndRow.holds Try.pinned (OpenSpec.ofChange Rows.fnExactMapEndSpec) :=
  OpenClaim.holds_of_wide 3 Try.f3 rfl rfl rfl rfl rfl rfl rfl ⟨rfl, rfl, rfl, rfl, rfl⟩ rfl rfl rfl rfl rfl (by kernel_rfl) Try.func3 (by kernel_rfl)
    (of_decide_eq_true (by kernel_rfl)) (by unfold Func.isWrapper; first | (rw [if_pos (by decide +kernel)]; kernel_rfl) | (rw [if_neg (by decide +kernel)]; exact ⟨rfl, rfl⟩))
    (fun os started H enc _ => lifted os started H enc)
theorem proved : Rows.FnExactMapEndSaid := over
#print axioms proved
end Go.Proofs.Ytlofgoahgnllkaa.fnExactMapEnd
namespace Go.Proofs.Ytlofgoahgnllkaa
/-- The row, under a short name, for the claim. -/
theorem fnExactMapEnd_holds : Rows.FnExactMapEndSaid := fnExactMapEnd.proved
end Go.Proofs.Ytlofgoahgnllkaa
