/- FnExactSegCut: the row, out of the walk (the printed 'calls') and the plain statement: for every input the law answers true, and the input reads as it did. -/
import Derived.Test.YtdfoelhpeeanlaaRows
import Derived.Test.YtdfoelhpeeanlaaQFnExactSegCutx6
import Derived.Test.YtdfoelhpeeanlaaPureFnExactSegCut
import Derived.WalkKit
import Derived.ProofKit
import Derived.OpenShut
import Derived.ShutString
import Derived.ChangeOld
import Derived.Below
import Derived.SizedLaws
import Derived.Test.YtdfoelhpeeanlaaWSized
namespace Go.Proofs.Ytdfoelhpeeanlaa.fnExactSegCut
open Go.ChangeShapes Go.WideShapes Go.ChangeAt Go.RowKit
open Go.ChangeMaps (open_string shut_string)
open Go.Proofs.YtdfoelhpeeanlaaW.PrintWords Go.Proofs.YtdfoelhpeeanlaaW.PrintLast
set_option linter.unusedVariables false
set_option linter.unusedSimpArgs false
theorem own : ownKnob Try.prog.godebug = none := by kernel_rfl
theorem laidOut : laidOutB Try.prog = true := by kernel_rfl
theorem arr7 {α : Type} {cs : Array α} (h : cs.size = 7) : ∃ c0 c1 c2 c3 c4 c5 c6, cs = #[c0, c1, c2, c3, c4, c5, c6] := by
  obtain ⟨l⟩ := cs
  match l, h with
  | [c0, c1, c2, c3, c4, c5, c6], _ => exact ⟨c0, c1, c2, c3, c4, c5, c6, rfl⟩
set_option maxRecDepth 100000 in
theorem lifted (os : Os) (started : os.Started) (H : Type) (enc : TypeId × Value → H) :
    ReturnsInHanded {} Try.checked os 8 .any (Rows.fnExactSegCutSpec.pre6 enc Try.prog Try.f8 Rows.fnExactSegCutRow.domain false) (Rows.fnExactSegCutSpec.post enc Try.prog Try.f8 false true false false) := by
  refine returnsInHanded_of_change_sized (C := Try.checked) own started (by kernel_rfl) Try.func8
    (ChangeSpec.witness6 (enc := enc) (C := Try.checked) false ⟨#[], #[.agg #[.int .i64 0, .int .i64 0, .int .i64 0, .int .i64 0, .int .i64 0, .int .i64 0, .string ByteArray.empty], .string ByteArray.empty, .int .i64 0], []⟩ 8 (by kernel_rfl) (by kernel_rfl) (by kernel_rfl) (by kernel_rfl)) ?_
  intro W base args ds gs before hval0 hW hcnd hsz0 _
  have hsz : (DataW.weightsEach Try.prog (Try.f8.params.toList ++ Rows.fnExactSegCutSpec.plain.varTypes Try.prog) (ds ++ gs)).all (· ≤ reachBytes) = true := hsz0
  have hval : ∀ (j : Nat) t v, Try.f8.params[j]? = some t → args[j]? = some v → Value.okWide Try.prog W .any base t v := hval0
  have hW' := hW
  obtain ⟨p, q, hA0, hV, rfl, hfz, hnd⟩ := hW
  have hA : DataW.TrodAll enc Try.prog W 0 (fun _ => true) true Try.f8.params.toList args.toList ds p := hA0
  rw [Try.params8] at hA hval hsz
  obtain ⟨v0, vs0, d0, ds0, p0, q0, hargs, rfl, rfl, h0, r0⟩ := trodAll_cons hA
  obtain ⟨v1, vs1, d1, ds1, p1, q1, rfl, rfl, rfl, h1, r1⟩ := trodAll_cons r0
  obtain ⟨v2, vs2, d2, ds2, p2, q2, rfl, rfl, rfl, h2, r2⟩ := trodAll_cons r1
  obtain ⟨rfl, rfl, rfl⟩ := trodAll_nil r2
  obtain rfl : args = #[v0, v1, v2] := by cases args; simp_all
  obtain ⟨rfl, rfl⟩ := trodVars_none hV
  have k0 := h0
  have lt0 : ∀ x ∈ p0, x.block < W.heap.size := by obtain ⟨m, hm⟩ := k0; exact DataW.trod_lt m _ _ _ hm
  obtain ⟨cs0, rfl, hz0⟩ := okWide_struct Try.underlying25 (hval 0 25 v0 rfl rfl)
  obtain ⟨c0_0, c0_1, c0_2, c0_3, c0_4, c0_5, c0_6, rfl⟩ := arr7 (hz0.trans (by kernel_rfl : Try.prog.cellsOf 25 = 7))
  obtain ⟨fuel0, hf0⟩ := h0
  simp only [Value.cells] at hf0
  obtain ⟨xs1, n1, _, _, _, hl1, hF1⟩ := DataW.trod_struct Try.underlying25 hf0
  have e2 := hF1 0 _ rfl
  obtain ⟨y1002, hy2⟩ : ∃ y, xs1[0]? = some y := ⟨_, List.getElem?_eq_getElem (by rw [hl1]; decide)⟩
  rw [hy2] at e2
  have g2 : Try.prog.cellsOf 23 = 2 := by kernel_rfl
  simp [g2] at e2
  obtain ⟨xs3, n3, _, _, _, hl3, hF3⟩ := DataW.trod_struct Try.underlying23 e2
  have e4 := hF3 0 _ rfl
  obtain ⟨y1004, hy4⟩ : ∃ y, xs3[0]? = some y := ⟨_, List.getElem?_eq_getElem (by rw [hl3]; decide)⟩
  rw [hy4] at e4
  have g4 : Try.prog.cellsOf 3 = 1 := by kernel_rfl
  obtain ⟨a0_0, q4, _, wa0_0⟩ := DataW.trod_int Try.underlying3 e4
  simp [g4] at q4
  subst q4
  have e5 := hF3 1 _ rfl
  obtain ⟨y1005, hy5⟩ : ∃ y, xs3[1]? = some y := ⟨_, List.getElem?_eq_getElem (by rw [hl3]; decide)⟩
  rw [hy5] at e5
  have g5 : Try.prog.cellsOf 3 = 1 := by kernel_rfl
  obtain ⟨a0_1, q5, _, wa0_1⟩ := DataW.trod_int Try.underlying3 e5
  simp [g5] at q5
  subst q5
  have e6 := hF1 1 _ rfl
  obtain ⟨y1006, hy6⟩ : ∃ y, xs1[1]? = some y := ⟨_, List.getElem?_eq_getElem (by rw [hl1]; decide)⟩
  rw [hy6] at e6
  have g6 : Try.prog.cellsOf 23 = 2 := by kernel_rfl
  simp [g6] at e6
  obtain ⟨xs7, n7, _, _, _, hl7, hF7⟩ := DataW.trod_struct Try.underlying23 e6
  have e8 := hF7 0 _ rfl
  obtain ⟨y1008, hy8⟩ : ∃ y, xs7[0]? = some y := ⟨_, List.getElem?_eq_getElem (by rw [hl7]; decide)⟩
  rw [hy8] at e8
  have g8 : Try.prog.cellsOf 3 = 1 := by kernel_rfl
  obtain ⟨a0_2, q8, _, wa0_2⟩ := DataW.trod_int Try.underlying3 e8
  simp [g8] at q8
  subst q8
  have e9 := hF7 1 _ rfl
  obtain ⟨y1009, hy9⟩ : ∃ y, xs7[1]? = some y := ⟨_, List.getElem?_eq_getElem (by rw [hl7]; decide)⟩
  rw [hy9] at e9
  have g9 : Try.prog.cellsOf 3 = 1 := by kernel_rfl
  obtain ⟨a0_3, q9, _, wa0_3⟩ := DataW.trod_int Try.underlying3 e9
  simp [g9] at q9
  subst q9
  have e10 := hF1 2 _ rfl
  obtain ⟨y1010, hy10⟩ : ∃ y, xs1[2]? = some y := ⟨_, List.getElem?_eq_getElem (by rw [hl1]; decide)⟩
  rw [hy10] at e10
  have g10 : Try.prog.cellsOf 3 = 1 := by kernel_rfl
  obtain ⟨a0_4, q10, _, wa0_4⟩ := DataW.trod_int Try.underlying3 e10
  simp [g10] at q10
  subst q10
  have e11 := hF1 3 _ rfl
  obtain ⟨y1011, hy11⟩ : ∃ y, xs1[3]? = some y := ⟨_, List.getElem?_eq_getElem (by rw [hl1]; decide)⟩
  rw [hy11] at e11
  have g11 : Try.prog.cellsOf 3 = 1 := by kernel_rfl
  obtain ⟨a0_5, q11, _, wa0_5⟩ := DataW.trod_int Try.underlying3 e11
  simp [g11] at q11
  subst q11
  have e12 := hF1 4 _ rfl
  obtain ⟨y1012, hy12⟩ : ∃ y, xs1[4]? = some y := ⟨_, List.getElem?_eq_getElem (by rw [hl1]; decide)⟩
  rw [hy12] at e12
  have g12 : Try.prog.cellsOf 9 = 1 := by kernel_rfl
  obtain ⟨a0_6, q12, _, wa0_6⟩ := DataW.trod_string Try.underlying9 e12
  simp [g12] at q12
  subst q12
  have k1 := h1
  have lt1 : ∀ x ∈ p1, x.block < W.heap.size := by obtain ⟨m, hm⟩ := k1; exact DataW.trod_lt m _ _ _ hm
  obtain ⟨a1, rfl, rfl, rfl, y1⟩ := open_string Try.underlying9 (hval 1 9 v1 rfl rfl) h1
  have w1 : a1.size ≤ 140737488351232 := by
    have z := sized_string hsz (j := 1) (t := 9) rfl rfl
    rw [Array.length_toList] at z
    exact z
  have k2 := h2
  have lt2 : ∀ x ∈ p2, x.block < W.heap.size := by obtain ⟨m, hm⟩ := k2; exact DataW.trod_lt m _ _ _ hm
  obtain ⟨a2, rfl, rfl, rfl, w2⟩ := open_int Try.underlying3 (hval 2 3 v2 rfl rfl) h2
  clear hA0 hval0 hsz0 hsz
  obtain ⟨k, hP⟩ := Pure.FnExactSegCut a0_0 a0_1 a0_2 a0_3 a0_4 a0_5 a0_6 a1 a2 wa0_0 wa0_1 wa0_2 wa0_3 wa0_4 wa0_5 wa0_6 w1 w2
  refine (QFnExactSegCut.laws_FnExactSegCut.calls k a0_0 a0_1 a0_2 a0_3 a0_4 a0_5 a0_6 a1 a2 true W  hP).mono fun e W' ⟨he, bel⟩ => ?_
  subst he
  exact ⟨_, rfl, _, _, _, [], _, [], hW', trodAll_mk1 (shut_bool Try.underlying4 _), (trodAll_cons_mk (Below.trod laidOut (by kernel_rfl) (of_decide_eq_true (by kernel_rfl)) k0 bel lt0) (trodAll_cons_mk (Below.trod laidOut (by kernel_rfl) (of_decide_eq_true (by kernel_rfl)) k1 bel lt1) (trodAll_cons_mk (Below.trod laidOut (by kernel_rfl) (of_decide_eq_true (by kernel_rfl)) k2 bel lt2) trodAll_mk0))), rfl, bel.frame _, fun h => by cases h⟩
theorem over : Rows.fnExactSegCutRow.holds Try.pinned (OpenSpec.ofChange Rows.fnExactSegCutSpec) :=
  OpenClaim.holds_of_wide 8 Try.f8 rfl rfl rfl rfl rfl rfl rfl ⟨rfl, rfl, rfl, rfl, rfl⟩ rfl rfl rfl rfl rfl (by kernel_rfl) Try.func8 (by kernel_rfl)
    (of_decide_eq_true (by kernel_rfl)) (by unfold Func.isWrapper; first | (rw [if_pos (by decide +kernel)]; kernel_rfl) | (rw [if_neg (by decide +kernel)]; exact ⟨rfl, rfl⟩))
    (fun os started H enc _ => lifted os started H enc)
theorem proved : Rows.FnExactSegCutSaid := over
#print axioms proved
end Go.Proofs.Ytdfoelhpeeanlaa.fnExactSegCut
namespace Go.Proofs.Ytdfoelhpeeanlaa
/-- The row, under a short name, for the claim. -/
theorem fnExactSegCut_holds : Rows.FnExactSegCutSaid := fnExactSegCut.proved
end Go.Proofs.Ytdfoelhpeeanlaa
