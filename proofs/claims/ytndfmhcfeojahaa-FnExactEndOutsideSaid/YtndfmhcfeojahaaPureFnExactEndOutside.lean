/- FnExactEndOutside: for every end the program's EndOutside is the reference's. -/
import Derived.Test.YtndfmhcfeojahaaPFnExactEndOutsidex1
namespace Go.Proofs.Ytndfmhcfeojahaa.Pure
open Go.RowKit Go.Proofs.Ytndfmhcfeojahaa.PFnExactEndOutside Go.Proofs.YtndfmhcfeojahaaW.PrintWords Go.Proofs.YtndfmhcfeojahaaW.PrintLast

theorem FnExactEndOutside (a p : Int) (_ : (Lit.int .i64 a).wf = true) (_ : (Lit.int .i64 p).wf = true) : laws_FnExactEndOutside.f a p = some true := by
  simp only [laws_FnExactEndOutside.f, laws_toEndPoint.f, spec_EndOutside.f, impl_EndOutside.f, spec_l1In.f, impl_outside.f, impl_portOk.f, impl_within.f, Option.bind_some]
  by_cases h1 : a ≥ 100 <;> by_cases h2 : a ≤ 109 <;> by_cases h3 : p ≥ 1 <;> simp [h1, h2, h3]

end Go.Proofs.Ytndfmhcfeojahaa.Pure
