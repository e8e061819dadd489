/- FnExactEndInside: for every end the program's EndInside is the reference's. -/
import Derived.Test.YtndfmhcfeojahaaPFnExactEndInsidex1
namespace Go.Proofs.Ytndfmhcfeojahaa.Pure
open Go.RowKit Go.Proofs.Ytndfmhcfeojahaa.PFnExactEndInside Go.Proofs.YtndfmhcfeojahaaW.PrintWords Go.Proofs.YtndfmhcfeojahaaW.PrintLast

theorem FnExactEndInside (a p : Int) (_ : (Lit.int .i64 a).wf = true) (_ : (Lit.int .i64 p).wf = true) : laws_FnExactEndInside.f a p = some true := by
  simp only [laws_FnExactEndInside.f, laws_toEndPoint.f, spec_EndInside.f, impl_EndInside.f, spec_l1In.f, impl_inside.f, impl_portOk.f, impl_within.f, Option.bind_some]
  by_cases h1 : a ≥ 1 <;> by_cases h2 : a ≤ 9 <;> by_cases h3 : p ≥ 1 <;> simp [h1, h2, h3]

end Go.Proofs.Ytndfmhcfeojahaa.Pure
