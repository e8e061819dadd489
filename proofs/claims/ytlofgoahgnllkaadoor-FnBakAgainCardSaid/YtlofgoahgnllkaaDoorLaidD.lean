import Derived.Test.YtlofgoahgnllkaaDoorRows
import Derived.Test.YtlofgoahgnllkaaDoorEnds
import Derived.LaidMore
import Derived.OpenShut
import Derived.Stop.Joined
import Derived.Stop.LaidErr
import Derived.Lib.LaidTab
set_option linter.unusedVariables false
namespace Go.Proofs.YtlofgoahgnllkaaDoor.LaidD
open Go.ChangeShapes Go.WideShapes Go.ChangeAt Go.RowKit
open Go.Proofs.YtlofgoahgnllkaaDoor.Ends (LTab LErr)
abbrev list3 : List (String × DataW Unit) := [("math/bits.deBruijn32tab", Rows.laid_math_bits_deBruijn32tab), ("math/bits.deBruijn64tab", Rows.laid_math_bits_deBruijn64tab), ("internal/strconv.uint64pow10", Rows.laid_internal_strconv_uint64pow10)]
abbrev list6 : List (String × DataW Unit) := list3 ++ [("strconv.ErrRange", Rows.laid_strconv_ErrRange), ("strconv.ErrSyntax", Rows.laid_strconv_ErrSyntax), ("loop.example/hatchway/impl.errEnd", Rows.laid_loop_example_hatchway_impl_errEnd)]
set_option maxRecDepth 100000 in
theorem door6 (os : Os) (args : Array Value) : laidMetH Tryd.prog list6 ((World.doorLaid Tryd.prog 400 os).forCall (fun _ _ => 0) ⟨#[], args, []⟩).memory :=
  laidMetH_of_parts3 (fuel := 8) (laidMet_of_run' 8 (by kernel_rfl) (by kernel_rfl)) (by kernel_rfl) (by kernel_rfl)
theorem tab_data : (Rows.laid_internal_strconv_uint64pow10 : DataW Unit) = Go.Lib.tabData .u64 Go.Lib.pow10Tab := by
  unfold Rows.laid_internal_strconv_uint64pow10 Go.Lib.tabData Go.Lib.pow10Tab
  rfl
theorem gPow : Tryd.prog.globalNamed "internal/strconv.uint64pow10" = some 1 := by kernel_rfl
theorem gSyn : Tryd.prog.globalNamed "strconv.ErrSyntax" = some 3 := by kernel_rfl
theorem gRng : Tryd.prog.globalNamed "strconv.ErrRange" = some 4 := by kernel_rfl
theorem gEnd : Tryd.prog.globalNamed "loop.example/hatchway/impl.errEnd" = some 0 := by kernel_rfl
theorem tab_of {r : List (String × DataW Unit)} {W : World} (h : laidMet Tryd.prog (list3 ++ r) W) : LTab W := by
  have h2 : laidMet Tryd.prog (("internal/strconv.uint64pow10", Rows.laid_internal_strconv_uint64pow10) :: r) W := h.tail.tail
  rw [tab_data] at h2
  exact Go.Lib.tabIs_of_head gPow (by kernel_rfl) Tryd.underlying117 Tryd.underlying104 (by kernel_rfl) (by kernel_rfl) h2
theorem var_in {W W' : World} {n : String} {cs : Array Value} (h : W.var? Tryd.prog n = some cs) (hb : Below W.heap.size W W') : W'.var? Tryd.prog n = some cs := Go.Proofs.YtlofgoahgnllkaaDoor.Ends.var_below h hb
theorem star : "*" ++ "errors.errorString" = "*errors.errorString" := by decide
theorem rowE (u : TypeId) (h : Tryd.prog.typeName? 3 u = some "*errors.errorString") : u = 133 :=
  typeName_ptr_named (nm := "errors.errorString") (by rw [star]; kernel_rfl) (by kernel_rfl) (by decide) u (by rw [star]; exact h)
theorem of6 {W : World} (h : laidMet Tryd.prog list6 W) : LErr W ∧ ∃ a, W.var? Tryd.prog "loop.example/hatchway/impl.errEnd" = some #[.iface 133 (.pointer (some a))] := by
  have hr : laidMet Tryd.prog [("strconv.ErrRange", Rows.laid_strconv_ErrRange), ("strconv.ErrSyntax", Rows.laid_strconv_ErrSyntax), ("loop.example/hatchway/impl.errEnd", Rows.laid_loop_example_hatchway_impl_errEnd)] W := h.tail.tail.tail
  obtain ⟨a1, _, v1, _⟩ := laid_sentinel hr gRng (by kernel_rfl) Tryd.underlying76 rowE Tryd.underlying133 Tryd.underlying135 rfl rfl Tryd.underlying9 (by kernel_rfl) (by kernel_rfl)
  obtain ⟨a2, _, v2, _⟩ := laid_sentinel hr.tail gSyn (by kernel_rfl) Tryd.underlying76 rowE Tryd.underlying133 Tryd.underlying135 rfl rfl Tryd.underlying9 (by kernel_rfl) (by kernel_rfl)
  obtain ⟨a3, _, v3, _⟩ := laid_sentinel hr.tail.tail gEnd (by kernel_rfl) Tryd.underlying76 rowE Tryd.underlying133 Tryd.underlying135 rfl rfl Tryd.underlying9 (by kernel_rfl) (by kernel_rfl)
  exact ⟨⟨tab_of h, ⟨_, _, v2⟩, ⟨_, _, v1⟩, ⟨_, _, v3⟩⟩, a3, v3⟩
end Go.Proofs.YtlofgoahgnllkaaDoor.LaidD
