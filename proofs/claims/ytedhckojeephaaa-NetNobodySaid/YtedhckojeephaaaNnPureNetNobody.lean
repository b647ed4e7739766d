/- NetNobody, the plain part: nothing is left to show. -/
import Derived.Test.YtedhckojeephaaaNnK6
import Derived.Test.YtedhckojeephaaaNnOps
namespace Go.Proofs.Ytedhckojeephaaa.Pure
open Go.RowKit Go.Proofs.Ytedhckojeephaaa.P Go.Proofs.Ytedhckojeephaaa.Ops
set_option linter.unusedVariables false
theorem NetNobody (x0 : S67) (w0 : wf67 x0) : trefoillaw12_NetNobody.f x0.f0 x0.f1 x0.f2 x0.f3 x0.f4 x0.f5 = some true := rfl
end Go.Proofs.Ytedhckojeephaaa.Pure
