import Derived.Test.YtdfoelhpeeanlaaDoorRows
import Derived.Test.YtdfoelhpeeanlaaDoorSaid
import Derived.LaidMore
import Derived.ProofKit
import Derived.ChangeOld
import Derived.Below
import Derived.OpenShut
import Derived.Stop.Joined
import Derived.Stop.LaidErr
import Derived.Lib.LaidTab
set_option linter.unusedVariables false
namespace Go.Proofs.YtdfoelhpeeanlaaDoor.LaidD
open Go.ChangeShapes Go.WideShapes Go.ChangeAt Go.RowKit
open Go.Proofs.YtdfoelhpeeanlaaDoor.Ends (LShort)
abbrev list6 : List (String × DataW Unit) := [("loop.example/hatchway/impl.errShort", Rows.laid_loop_example_hatchway_impl_errShort)]
set_option maxRecDepth 100000 in
theorem door6 (os : Os) (args : Array Value) : laidMetH Tryd.prog list6 ((World.doorLaid Tryd.prog 400 os).forCall (fun _ _ => 0) ⟨#[], args, []⟩).memory :=
  laidMetH_of_parts3 (fuel := 8) (laidMet_of_run' 8 (by kernel_rfl) (by kernel_rfl)) (by kernel_rfl) (by kernel_rfl)
theorem gEnd : Tryd.prog.globalNamed "loop.example/hatchway/impl.errShort" = some 0 := by kernel_rfl
theorem var_in {W W' : World} {n : String} {cs : Array Value} (h : W.var? Tryd.prog n = some cs) (hb : Below W.heap.size W W') : W'.var? Tryd.prog n = some cs := Go.Proofs.YtdfoelhpeeanlaaDoor.Ends.var_below h hb
theorem star : "*" ++ "errors.errorString" = "*errors.errorString" := by decide
theorem rowE (u : TypeId) (h : Tryd.prog.typeName? 3 u = some "*errors.errorString") : u = 69 :=
  typeName_ptr_named (nm := "errors.errorString") (by rw [star]; kernel_rfl) (by kernel_rfl) (by decide) u (by rw [star]; exact h)
theorem of6 {W : World} (h : laidMet Tryd.prog list6 W) : LShort W ∧ ∃ a, W.var? Tryd.prog "loop.example/hatchway/impl.errShort" = some #[.iface 69 (.pointer (some a))] := by
  obtain ⟨a3, _, v3, _⟩ := laid_sentinel h gEnd (by kernel_rfl) Tryd.underlying41 rowE Tryd.underlying69 Tryd.underlying87 rfl rfl Tryd.underlying9 (by kernel_rfl) (by kernel_rfl)
  exact ⟨⟨_, _, v3⟩, a3, v3⟩
end Go.Proofs.YtdfoelhpeeanlaaDoor.LaidD
