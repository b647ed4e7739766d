/- NetTrue, the plain part: nothing is left to show. -/
import Derived.Test.YtedhckojeephaaaNtK8
import Derived.Test.YtedhckojeephaaaNtOps
namespace Go.Proofs.Ytedhckojeephaaa.Pure
open Go.RowKit Go.Proofs.Ytedhckojeephaaa.P Go.Proofs.Ytedhckojeephaaa.Ops
set_option linter.unusedVariables false
theorem NetTrue (x0 : List S67) (w0 : x0.length ≤ maxLen ∧ ∀ y ∈ x0, wf67 y) : trefoillaw12_NetTrue.f x0 = some true := rfl
end Go.Proofs.Ytedhckojeephaaa.Pure
