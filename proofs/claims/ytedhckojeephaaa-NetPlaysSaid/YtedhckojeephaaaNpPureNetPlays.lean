/- NetPlays, the plain part: nothing is left to show. -/
import Derived.Test.YtedhckojeephaaaNpK24
import Derived.Test.YtedhckojeephaaaNpOps
namespace Go.Proofs.Ytedhckojeephaaa.Pure
open Go.RowKit Go.Proofs.Ytedhckojeephaaa.P Go.Proofs.Ytedhckojeephaaa.Ops
set_option linter.unusedVariables false
theorem NetPlays (x0 : List S67) (w0 : x0.length ≤ maxLen ∧ ∀ y ∈ x0, wf67 y) : trefoillaw12_NetPlays.f x0 = some true := rfl
end Go.Proofs.Ytedhckojeephaaa.Pure
