import Derived.Test.YtmahgffkkdggcaaWInv
import Derived.Test.YtmahgffkkdggcaaWFootNe
namespace Go.Proofs.YtmahgffkkdggcaaW.PrintWords
open Go.RowKit
end Go.Proofs.YtmahgffkkdggcaaW.PrintWords
namespace Go.Proofs.YtmahgffkkdggcaaW.PrintLast
section
variable {ops : Array Oper} {a : Act} {o og : Oper} {g : Nat} {t : Tmp} {u : Bool}
end
end Go.Proofs.YtmahgffkkdggcaaW.PrintLast
