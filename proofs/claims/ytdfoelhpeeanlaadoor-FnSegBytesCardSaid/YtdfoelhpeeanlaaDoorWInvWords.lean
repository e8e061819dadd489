import Derived.Test.YtdfoelhpeeanlaaDoorWInv
import Derived.Test.YtdfoelhpeeanlaaDoorWFootNe
namespace Go.Proofs.YtdfoelhpeeanlaaDoorW.PrintWords
open Go.RowKit
end Go.Proofs.YtdfoelhpeeanlaaDoorW.PrintWords
namespace Go.Proofs.YtdfoelhpeeanlaaDoorW.PrintLast
section
variable {ops : Array Oper} {a : Act} {o og : Oper} {g : Nat} {t : Tmp} {u : Bool}
end
end Go.Proofs.YtdfoelhpeeanlaaDoorW.PrintLast
