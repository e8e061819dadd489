/- FnExactConstants: the law holds (it has no argument). -/
import Derived.Test.YtndfmhcfeojahaaPFnExactConstantsx1
namespace Go.Proofs.Ytndfmhcfeojahaa.Pure
open Go.RowKit Go.Proofs.Ytndfmhcfeojahaa.PFnExactConstants Go.Proofs.YtndfmhcfeojahaaW.PrintWords Go.Proofs.YtndfmhcfeojahaaW.PrintLast

theorem FnExactConstants : laws_FnExactConstants.Pure := rfl

end Go.Proofs.Ytndfmhcfeojahaa.Pure
