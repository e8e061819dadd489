import Derived.Test.YtlofgoahgnllkaaDoorWInv
import Derived.Test.YtlofgoahgnllkaaDoorWFootNe
namespace Go.Proofs.YtlofgoahgnllkaaDoorW.PrintWords
open Go.RowKit
end Go.Proofs.YtlofgoahgnllkaaDoorW.PrintWords
namespace Go.Proofs.YtlofgoahgnllkaaDoorW.PrintLast
section
variable {ops : Array Oper} {a : Act} {o og : Oper} {g : Nat} {t : Tmp} {u : Bool}
end
end Go.Proofs.YtlofgoahgnllkaaDoorW.PrintLast
