/- ServeChecks, the plain part: nothing is left to show. -/
import Derived.Test.YtmeafbjnjiadnaaVcK2
import Derived.Test.YtmeafbjnjiadnaaVcOps
namespace Go.Proofs.Ytmeafbjnjiadnaa.Pure
open Go.RowKit Go.Proofs.Ytmeafbjnjiadnaa.P Go.Proofs.Ytmeafbjnjiadnaa.Ops Go.Proofs.YtmeafbjnjiadnaaW.PrintWords Go.Proofs.YtmeafbjnjiadnaaW.PrintMore
set_option linter.unusedVariables false
theorem ServeChecks (x0 : S25) (w0 : wf25 x0) : trefoillaw33_ServeChecks.f x0.f0 x0.f1.f0 x0.f1.f1 x0.f1.f2 x0.f1.f3 x0.f1.f4 x0.f2 = some true := rfl
end Go.Proofs.Ytmeafbjnjiadnaa.Pure
