/- FnExactSegBytes: the row, out of the walk (the printed 'calls') and the plain statement: for every input the law answers true, and the input reads as it did. -/
import Derived.Test.YtdfoelhpeeanlaaRows
import Derived.Test.YtdfoelhpeeanlaaQFnExactSegBytesx4
import Derived.Test.YtdfoelhpeeanlaaPureFnExactSegBytes
import Derived.WalkKit
import Derived.ProofKit
import Derived.OpenShut
import Derived.ShutString
import Derived.ChangeOld
import Derived.Below
import Derived.SizedLaws
import Derived.Test.YtdfoelhpeeanlaaWSized
namespace Go.Proofs.Ytdfoelhpeeanlaa.fnExactSegBytes
open Go.ChangeShapes Go.WideShapes Go.ChangeAt Go.RowKit
open Go.ChangeMaps (open_string shut_string)
open Go.Proofs.YtdfoelhpeeanlaaW.PrintWords Go.Proofs.YtdfoelhpeeanlaaW.PrintLast
set_option linter.unusedVariables false
set_option linter.unusedSimpArgs false
theorem own : ownKnob Try.prog.godebug = none := by kernel_rfl
theorem laidOut : laidOutB Try.prog = true := by kernel_rfl
theorem arr7 {α : Type} {cs : Array α} (h : cs.size = 7) : ∃ c0 c1 c2 c3 c4 c5 c6, cs = #[c0, c1, c2, c3, c4, c5, c6] := by
  obtain ⟨l⟩ := cs
  match l, h with
  | [c0, c1, c2, c3, c4, c5, c6], _ => exact ⟨c0, c1, c2, c3, c4, c5, c6, rfl⟩
set_option maxRecDepth 100000 in
theorem lifted (os : Os) (started : os.Started) (H : Type) (enc : TypeId × Value → H) :
    ReturnsInHanded {} Try.checked os 3 .any (Rows.fnExactSegBytesSpec.pre6 enc Try.prog Try.f3 Rows.fnExactSegBytesRow.domain false) (Rows.fnExactSegBytesSpec.post enc Try.prog Try.f3 false true false false) := by
  refine returnsInHanded_of_change_sized (C := Try.checked) own started (by kernel_rfl) Try.func3
    (ChangeSpec.witness6 (enc := enc) (C := Try.checked) false ⟨#[], #[.agg #[.int .i64 0, .int .i64 0, .int .i64 0, .int .i64 0, .int .i64 0, .int .i64 0, .string ByteArray.empty]], []⟩ 8 (by kernel_rfl) (by kernel_rfl) (by kernel_rfl) (by kernel_rfl)) ?_
  intro W base args ds gs before hval0 hW hcnd hsz0 _
  have hsz : (DataW.weightsEach Try.prog (Try.f3.params.toList ++ Rows.fnExactSegBytesSpec.plain.varTypes Try.prog) (ds ++ gs)).all (· ≤ reachBytes) = true := hsz0
  have hval : ∀ (j : Nat) t v, Try.f3.params[j]? = some t → args[j]? = some v → Value.okWide Try.prog W .any base t v := hval0
  have hW' := hW
  obtain ⟨p, q, hA0, hV, rfl, hfz, hnd⟩ := hW
  have hA : DataW.TrodAll enc Try.prog W 0 (fun _ => true) true Try.f3.params.toList args.toList ds p := hA0
  rw [Try.params3] at hA hval hsz
  obtain ⟨v0, vs0, d0, ds0, p0, q0, hargs, rfl, rfl, h0, r0⟩ := trodAll_cons hA
  obtain ⟨rfl, rfl, rfl⟩ := trodAll_nil r0
  obtain rfl : args = #[v0] := by cases args; simp_all
  obtain ⟨rfl, rfl⟩ := trodVars_none hV
  have k0 := h0
  have lt0 : ∀ x ∈ p0, x.block < W.heap.size := by obtain ⟨m, hm⟩ := k0; exact DataW.trod_lt m _ _ _ hm
  obtain ⟨cs0, rfl, hz0⟩ := okWide_struct Try.underlying25 (hval 0 25 v0 rfl rfl)
  obtain ⟨c0_0, c0_1, c0_2, c0_3, c0_4, c0_5, c0_6, rfl⟩ := arr7 (hz0.trans (by kernel_rfl : Try.prog.cellsOf 25 = 7))
  obtain ⟨fuel0, hf0⟩ := h0
  simp only [Value.cells] at hf0
  obtain ⟨xs1, n1, _, _, _, hl1, hF1⟩ := DataW.trod_struct Try.underlying25 hf0
  have e2 := hF1 0 _ rfl
  obtain ⟨y1002, hy2⟩ : ∃ y, xs1[0]? = some y := ⟨_, List.getElem?_eq_getElem (by rw [hl1]; decide)⟩
  rw [hy2] at e2
  have g2 : Try.prog.cellsOf 23 = 2 := by kernel_rfl
  simp [g2] at e2
  obtain ⟨xs3, n3, _, _, _, hl3, hF3⟩ := DataW.trod_struct Try.underlying23 e2
  have e4 := hF3 0 _ rfl
  obtain ⟨y1004, hy4⟩ : ∃ y, xs3[0]? = some y := ⟨_, List.getElem?_eq_getElem (by rw [hl3]; decide)⟩
  rw [hy4] at e4
  have g4 : Try.prog.cellsOf 3 = 1 := by kernel_rfl
  obtain ⟨a0_0, q4, _, wa0_0⟩ := DataW.trod_int Try.underlying3 e4
  simp [g4] at q4
  subst q4
  have e5 := hF3 1 _ rfl
  obtain ⟨y1005, hy5⟩ : ∃ y, xs3[1]? = some y := ⟨_, List.getElem?_eq_getElem (by rw [hl3]; decide)⟩
  rw [hy5] at e5
  have g5 : Try.prog.cellsOf 3 = 1 := by kernel_rfl
  obtain ⟨a0_1, q5, _, wa0_1⟩ := DataW.trod_int Try.underlying3 e5
  simp [g5] at q5
  subst q5
  have e6 := hF1 1 _ rfl
  obtain ⟨y1006, hy6⟩ : ∃ y, xs1[1]? = some y := ⟨_, List.getElem?_eq_getElem (by rw [hl1]; decide)⟩
  rw [hy6] at e6
  have g6 : Try.prog.cellsOf 23 = 2 := by kernel_rfl
  simp [g6] at e6
  obtain ⟨xs7, n7, _, _, _, hl7, hF7⟩ := DataW.trod_struct Try.underlying23 e6
  have e8 := hF7 0 _ rfl
  obtain ⟨y1008, hy8⟩ : ∃ y, xs7[0]? = some y := ⟨_, List.getElem?_eq_getElem (by rw [hl7]; decide)⟩
  rw [hy8] at e8
  have g8 : Try.prog.cellsOf 3 = 1 := by kernel_rfl
  obtain ⟨a0_2, q8, _, wa0_2⟩ := DataW.trod_int Try.underlying3 e8
  simp [g8] at q8
  subst q8
  have e9 := hF7 1 _ rfl
  obtain ⟨y1009, hy9⟩ : ∃ y, xs7[1]? = some y := ⟨_, List.getElem?_eq_getElem (by rw [hl7]; decide)⟩
  rw [hy9] at e9
  have g9 : Try.prog.cellsOf 3 = 1 := by kernel_rfl
  obtain ⟨a0_3, q9, _, wa0_3⟩ := DataW.trod_int Try.underlying3 e9
  simp [g9] at q9
  subst q9
  have e10 := hF1 2 _ rfl
  obtain ⟨y1010, hy10⟩ : ∃ y, xs1[2]? = some y := ⟨_, List.getElem?_eq_getElem (by rw [hl1]; decide)⟩
  rw [hy10] at e10
  have g10 : Try.prog.cellsOf 3 = 1 := by kernel_rfl
  obtain ⟨a0_4, q10, _, wa0_4⟩ := DataW.trod_int Try.underlying3 e10
  simp [g10] at q10
  subst q10
  have e11 := hF1 3 _ rfl
  obtain ⟨y1011, hy11⟩ : ∃ y, xs1[3]? = some y := ⟨_, List.getElem?_eq_getElem (by rw [hl1]; decide)⟩
  rw [hy11] at e11
  have g11 : Try.prog.cellsOf 3 = 1 := by kernel_rfl
  obtain ⟨a0_5, q11, _, wa0_5⟩ := DataW.trod_int Try.underlying3 e11
  simp [g11] at q11
  subst q11
  have e12 := hF1 4 _ rfl
  obtain ⟨y1012, hy12⟩ : ∃ y, xs1[4]? = some y := ⟨_, List.getElem?_eq_getElem (by rw [hl1]; decide)⟩
  rw [hy12] at e12
  have g12 : Try.prog.cellsOf 9 = 1 := by kernel_rfl
  obtain ⟨a0_6, q12, _, wa0_6⟩ := DataW.trod_string Try.underlying9 e12
  simp [g12] at q12
  subst q12
  clear hA0 hval0 hsz0 hsz
  obtain ⟨k, hP⟩ := Pure.FnExactSegBytes a0_0 a0_1 a0_2 a0_3 a0_4 a0_5 a0_6 wa0_0 wa0_1 wa0_2 wa0_3 wa0_4 wa0_5 wa0_6
  refine (QFnExactSegBytes.laws_FnExactSegBytes.calls k a0_0 a0_1 a0_2 a0_3 a0_4 a0_5 a0_6 true W  hP).mono fun e W' ⟨he, bel⟩ => ?_
  subst he
  exact ⟨_, rfl, _, _, _, [], _, [], hW', trodAll_mk1 (shut_bool Try.underlying4 _), (trodAll_cons_mk (Below.trod laidOut (by kernel_rfl) (of_decide_eq_true (by kernel_rfl)) k0 bel lt0) trodAll_mk0), rfl, bel.frame _, fun h => by cases h⟩
theorem over : Rows.fnExactSegBytesRow.holds Try.pinned (OpenSpec.ofChange Rows.fnExactSegBytesSpec) :=
  OpenClaim.holds_of_wide 3 Try.f3 rfl rfl rfl rfl rfl rfl rfl ⟨rfl, rfl, rfl, rfl, rfl⟩ rfl rfl rfl rfl rfl (by kernel_rfl) Try.func3 (by kernel_rfl)
    (of_decide_eq_true (by kernel_rfl)) (by unfold Func.isWrapper; first | (rw [if_pos (by decide +kernel)]; kernel_rfl) | (rw [if_neg (by decide +kernel)]; exact ⟨rfl, rfl⟩))
    (fun os started H enc _ => lifted os started H enc)
theorem proved : Rows.FnExactSegBytesSaid := over
#print axioms proved
end Go.Proofs.Ytdfoelhpeeanlaa.fnExactSegBytes
namespace Go.Proofs.Ytdfoelhpeeanlaa
/-- The row, under a short name, for the claim. -/
theorem fnExactSegBytes_holds : Rows.FnExactSegBytesSaid := fnExactSegBytes.proved
end Go.Proofs.Ytdfoelhpeeanlaa
