-- Laid by a program of this repo (wip/tools/sprint.py): print.py's functions and walks; the contracts named 'BY HAND' are proved by hand.
import Derived.Test.YtdfoelhpeeanlaaDoorProg
import Derived.Below
import Derived.Deep.Draws
import Derived.Deep.AppendLies
import Derived.Maps.AppendAt
import Derived.OwnWalk
import Derived.Laws.BytesArg
import Derived.Laws.MakeOwn
import Derived.Laws.OwnMore
import Derived.Deep.OwnRows
import Derived.Tactics
import Derived.Lib.ConvBytes
import Derived.Laws.Slices
import Derived.WalkKit
import Derived.KernelRfl
import Derived.RowKit3
import Derived.Deep.LoopGhost
import Derived.Deep.QuietTactic
import Derived.BigQuiet
import Derived.WideLaws
import Derived.Deep.DeepCutAuto
import Derived.Deep.CutBlock
import Derived.Deep.RegionHeld3
import Derived.Laws.Rows
import Derived.Lib.AppendStr
import Derived.ArgAppend
import Derived.Laws.IdiomCopy
import Derived.OrdersHeld
import Derived.Laws.BitsLemmas
import Derived.RowKit
import Derived.Test.YtdfoelhpeeanlaaDoorLib
import Derived.Test.YtdfoelhpeeanlaaDoorSaid
import Derived.Test.YtdfoelhpeeanlaaDoorWWords
import Derived.Test.YtdfoelhpeeanlaaDoorWLast
import Derived.Test.YtdfoelhpeeanlaaDoorWTab
import Derived.Test.YtdfoelhpeeanlaaDoorWFour
import Derived.Test.YtdfoelhpeeanlaaDoorWQPut
import Derived.Test.YtdfoelhpeeanlaaDoorWApart
import Derived.Test.YtdfoelhpeeanlaaDoorWArr
import Derived.Test.YtdfoelhpeeanlaaDoorWZeros
import Derived.Test.YtdfoelhpeeanlaaDoorWFoot
import Derived.Test.YtdfoelhpeeanlaaDoorWKept
import Derived.Test.YtdfoelhpeeanlaaDoorWShare
import Derived.Test.YtdfoelhpeeanlaaDoorWN
import Derived.Test.YtdfoelhpeeanlaaDoorWFootNe
import Derived.Test.YtdfoelhpeeanlaaDoorWAt
import Derived.Test.YtdfoelhpeeanlaaDoorWEqStruct
import Derived.Test.YtdfoelhpeeanlaaDoorWRepsOne
import Derived.Test.YtdfoelhpeeanlaaDoorWInv
import Derived.Test.YtdfoelhpeeanlaaDoorWInvWords
import Derived.Test.YtdfoelhpeeanlaaDoorWGuard
import Derived.Test.YtdfoelhpeeanlaaDoorWNEv
import Derived.Test.YtdfoelhpeeanlaaDoorWMore
namespace Go.Proofs.YtdfoelhpeeanlaaDoor.QFnExactSegRead
open Go.RowKit Go.Proofs.YtdfoelhpeeanlaaDoorW.PrintWords Go.Proofs.YtdfoelhpeeanlaaDoorW.PrintLast Go.Proofs.YtdfoelhpeeanlaaDoorW.PrintMore
attribute [local go_sem] max2_int min2_int max_two min_two max_three min_three max_four min_four   -- for this text's walks alone
set_option linter.unusedVariables false
set_option linter.unusedSimpArgs false



def errW : Option Int → Value
  | none => .nilIface
  | some c => .iface 0 (.int .i64 c)
theorem errW_none : errW none = .nilIface := rfl
theorem errW_some (c : Int) : errW (some c) = .iface 0 (.int .i64 c) := rfl

theorem info3 : (Tryd.prog.info? 3).map (fun i => (i.zero, i.size, i.bytes)) = some (some (.int .i64 0), 1, 8) := by kernel_rfl
theorem info5 : (Tryd.prog.info? 5).map (fun i => (i.zero, i.size, i.bytes)) = some (some (.int .u8 0), 1, 1) := by kernel_rfl
-- the values' own types

end Go.Proofs.YtdfoelhpeeanlaaDoor.QFnExactSegRead
