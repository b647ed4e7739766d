/- CheckNobody, the plain part: nothing is left to show. -/
import Derived.Test.YtbednnnjahpmlaaCnK2
import Derived.Test.YtbednnnjahpmlaaCnOps
namespace Go.Proofs.Ytbednnnjahpmlaa.Pure
open Go.RowKit Go.Proofs.Ytbednnnjahpmlaa.P Go.Proofs.Ytbednnnjahpmlaa.Ops Go.Proofs.YtbednnnjahpmlaaW.PrintWords Go.Proofs.YtbednnnjahpmlaaW.PrintMore
set_option linter.unusedVariables false
theorem CheckNobody (x0 : S23) (x1 : List (S43)) (w0 : wf23 x0) (w1 : (x1.length ≤ maxLen ∧ ∀ y ∈ x1, wf43 y)) : trefoillaw30_CheckNobody.f x0.f0 x0.f1 x0.f2 x0.f3 x0.f4 x1 = some true := rfl
end Go.Proofs.Ytbednnnjahpmlaa.Pure
