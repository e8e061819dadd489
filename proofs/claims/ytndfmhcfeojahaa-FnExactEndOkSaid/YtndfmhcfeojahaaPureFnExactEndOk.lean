/- FnExactEndOk: for every end the program's EndOk is the reference's. -/
import Derived.Test.YtndfmhcfeojahaaPFnExactEndOkx1
namespace Go.Proofs.Ytndfmhcfeojahaa.Pure
open Go.RowKit Go.Proofs.Ytndfmhcfeojahaa.PFnExactEndOk Go.Proofs.YtndfmhcfeojahaaW.PrintWords Go.Proofs.YtndfmhcfeojahaaW.PrintLast

theorem FnExactEndOk (a p : Int) (_ : (Lit.int .i64 a).wf = true) (_ : (Lit.int .i64 p).wf = true) : laws_FnExactEndOk.f a p = some true := by
  simp only [laws_FnExactEndOk.f, laws_toEndPoint.f, spec_EndOk.f, spec_EndInside.f, spec_EndOutside.f, impl_EndOk.f, spec_l1In.f, impl_inside.f, impl_outside.f, impl_portOk.f, impl_within.f, Option.bind_some]
  by_cases h1 : a ≥ 1 <;> by_cases h2 : a ≤ 9 <;> by_cases h3 : p ≥ 1 <;> by_cases h4 : p ≤ 999 <;> by_cases h5 : a ≥ 100 <;> by_cases h6 : a ≤ 109 <;> by_cases h7 : a = 50 <;> simp [h1, h2, h3, h4, h5, h6, h7] <;> omega

end Go.Proofs.Ytndfmhcfeojahaa.Pure
