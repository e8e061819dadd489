-- Laid by a program of this repo (wip/tools/sprint.py): print.py's functions and walks; the contracts named 'BY HAND' are proved by hand.
import Derived.Test.YtlofgoahgnllkaaDoorProg
import Derived.Below
import Derived.Deep.Draws
import Derived.Deep.AppendLies
import Derived.Maps.AppendAt
import Derived.OwnWalk
import Derived.Laws.BytesArg
import Derived.Laws.MakeOwn
import Derived.Laws.OwnMore
import Derived.Deep.OwnRows
import Derived.Tactics
import Derived.Lib.ConvBytes
import Derived.Laws.Slices
import Derived.WalkKit
import Derived.KernelRfl
import Derived.RowKit3
import Derived.Deep.LoopGhost
import Derived.Deep.QuietTactic
import Derived.BigQuiet
import Derived.WideLaws
import Derived.Deep.DeepCutAuto
import Derived.Deep.CutBlock
import Derived.Deep.RegionHeld3
import Derived.Laws.Rows
import Derived.Lib.AppendStr
import Derived.ArgAppend
import Derived.Laws.IdiomCopy
import Derived.OrdersHeld
import Derived.Laws.BitsLemmas
import Derived.RowKit
import Derived.Test.YtlofgoahgnllkaaDoorLib
import Derived.Test.YtlofgoahgnllkaaDoorShelf
import Derived.Test.YtlofgoahgnllkaaDoorSaid
import Derived.Test.YtlofgoahgnllkaaDoorPorts
import Derived.Test.YtlofgoahgnllkaaDoorWWords
import Derived.Test.YtlofgoahgnllkaaDoorWLast
import Derived.Test.YtlofgoahgnllkaaDoorWTab
import Derived.Test.YtlofgoahgnllkaaDoorWFour
import Derived.Test.YtlofgoahgnllkaaDoorWQPut
import Derived.Test.YtlofgoahgnllkaaDoorWApart
import Derived.Test.YtlofgoahgnllkaaDoorWArr
import Derived.Test.YtlofgoahgnllkaaDoorWZeros
import Derived.Test.YtlofgoahgnllkaaDoorWFoot
import Derived.Test.YtlofgoahgnllkaaDoorWKept
import Derived.Test.YtlofgoahgnllkaaDoorWShare
import Derived.Test.YtlofgoahgnllkaaDoorWN
import Derived.Test.YtlofgoahgnllkaaDoorWFootNe
import Derived.Test.YtlofgoahgnllkaaDoorWAt
import Derived.Test.YtlofgoahgnllkaaDoorWEqStruct
import Derived.Test.YtlofgoahgnllkaaDoorWRepsOne
import Derived.Test.YtlofgoahgnllkaaDoorWInv
import Derived.Test.YtlofgoahgnllkaaDoorWInvWords
import Derived.Test.YtlofgoahgnllkaaDoorWGuard
import Derived.Test.YtlofgoahgnllkaaDoorWNEv
import Derived.Test.YtlofgoahgnllkaaDoorWMore
namespace Go.Proofs.YtlofgoahgnllkaaDoor.QFnLinBox
open Go.RowKit Go.Proofs.YtlofgoahgnllkaaDoorW.PrintWords Go.Proofs.YtlofgoahgnllkaaDoorW.PrintLast Go.Proofs.YtlofgoahgnllkaaDoorW.PrintMore
attribute [local go_sem] max2_int min2_int max_two min_two max_three min_three max_four min_four   -- for this text's walks alone
set_option linter.unusedVariables false
set_option linter.unusedSimpArgs false



def errW : Option Int → Value
  | none => .nilIface
  | some c => .iface 0 (.int .i64 c)
theorem errW_none : errW none = .nilIface := rfl
theorem errW_some (c : Int) : errW (some c) = .iface 0 (.int .i64 c) := rfl

theorem info3 : (Tryd.prog.info? 3).map (fun i => (i.zero, i.size, i.bytes)) = some (some (.int .i64 0), 1, 8) := by kernel_rfl
theorem info5 : (Tryd.prog.info? 5).map (fun i => (i.zero, i.size, i.bytes)) = some (some (.int .u8 0), 1, 1) := by kernel_rfl
theorem info9 : (Tryd.prog.info? 9).map (fun i => (i.zero, i.size, i.bytes)) = some (some (.string ⟨#[]⟩), 1, 16) := by kernel_rfl
-- the values' own types

end Go.Proofs.YtlofgoahgnllkaaDoor.QFnLinBox
