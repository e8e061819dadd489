-- Laid by a program of this repo (wip/tools/sprint.py): print.py's functions and walks; the contracts named 'BY HAND' are proved by hand.
import Derived.Test.YtdfoelhpeeanlaaProg
import Derived.Below
import Derived.Deep.Draws
import Derived.Deep.AppendLies
import Derived.Maps.AppendAt
import Derived.OwnWalk
import Derived.Laws.BytesArg
import Derived.Laws.MakeOwn
import Derived.Laws.OwnMore
import Derived.Deep.OwnRows
import Derived.Tactics
import Derived.Lib.ConvBytes
import Derived.Laws.Slices
import Derived.WalkKit
import Derived.KernelRfl
import Derived.RowKit3
import Derived.Deep.LoopGhost
import Derived.Deep.QuietTactic
import Derived.BigQuiet
import Derived.WideLaws
import Derived.Deep.DeepCutAuto
import Derived.Deep.CutBlock
import Derived.Deep.RegionHeld3
import Derived.Laws.Rows
import Derived.Lib.AppendStr
import Derived.ArgAppend
import Derived.Laws.IdiomCopy
import Derived.OrdersHeld
import Derived.Laws.BitsLemmas
import Derived.RowKit
import Derived.Test.YtdfoelhpeeanlaaLib
import Derived.Test.YtdfoelhpeeanlaaShelf
import Derived.Test.YtdfoelhpeeanlaaWWords
import Derived.Test.YtdfoelhpeeanlaaWLast
import Derived.Test.YtdfoelhpeeanlaaWTab
import Derived.Test.YtdfoelhpeeanlaaWFour
import Derived.Test.YtdfoelhpeeanlaaWQPut
import Derived.Test.YtdfoelhpeeanlaaWApart
import Derived.Test.YtdfoelhpeeanlaaWArr
import Derived.Test.YtdfoelhpeeanlaaWZeros
import Derived.Test.YtdfoelhpeeanlaaWFoot
import Derived.Test.YtdfoelhpeeanlaaWKept
import Derived.Test.YtdfoelhpeeanlaaWShare
import Derived.Test.YtdfoelhpeeanlaaWN
import Derived.Test.YtdfoelhpeeanlaaWFootNe
import Derived.Test.YtdfoelhpeeanlaaWAt
import Derived.Test.YtdfoelhpeeanlaaWEqStruct
import Derived.Test.YtdfoelhpeeanlaaWRepsOne
import Derived.Test.YtdfoelhpeeanlaaWInv
import Derived.Test.YtdfoelhpeeanlaaWInvWords
import Derived.Test.YtdfoelhpeeanlaaWGuard
import Derived.Test.YtdfoelhpeeanlaaWNEv
import Derived.Test.YtdfoelhpeeanlaaWMore
namespace Go.Proofs.Ytdfoelhpeeanlaa.QFnExactSegBytes
open Go.RowKit Go.Proofs.YtdfoelhpeeanlaaW.PrintWords Go.Proofs.YtdfoelhpeeanlaaW.PrintLast Go.Proofs.YtdfoelhpeeanlaaW.PrintMore
attribute [local go_sem] max2_int min2_int max_two min_two max_three min_three max_four min_four   -- for this text's walks alone
set_option linter.unusedVariables false
set_option linter.unusedSimpArgs false



def errW : Option Int → Value
  | none => .nilIface
  | some c => .iface 0 (.int .i64 c)
theorem errW_none : errW none = .nilIface := rfl
theorem errW_some (c : Int) : errW (some c) = .iface 0 (.int .i64 c) := rfl

theorem info3 : (Try.prog.info? 3).map (fun i => (i.zero, i.size, i.bytes)) = some (some (.int .i64 0), 1, 8) := by kernel_rfl
theorem info5 : (Try.prog.info? 5).map (fun i => (i.zero, i.size, i.bytes)) = some (some (.int .u8 0), 1, 1) := by kernel_rfl
-- the values' own types

end Go.Proofs.Ytdfoelhpeeanlaa.QFnExactSegBytes
