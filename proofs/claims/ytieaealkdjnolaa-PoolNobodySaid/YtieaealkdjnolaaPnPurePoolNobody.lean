/- PoolNobody, the plain part: nothing is left to show. -/
import Derived.Test.YtieaealkdjnolaaPnK5
import Derived.Test.YtieaealkdjnolaaPnOps
namespace Go.Proofs.Ytieaealkdjnolaa.Pure
open Go.RowKit Go.Proofs.Ytieaealkdjnolaa.P Go.Proofs.Ytieaealkdjnolaa.Ops Go.Proofs.YtieaealkdjnolaaW.PrintWords Go.Proofs.YtieaealkdjnolaaW.PrintMore
set_option linter.unusedVariables false
theorem PoolNobody (x0 : S39) (w0 : wf39 x0) : trefoillaw32_PoolNobody.f x0.f0 x0.f1.f0 x0.f1.f1 x0.f1.f2 x0.f1.f3 x0.f1.f4 x0.f2 x0.f3 x0.f4 = some true := rfl
end Go.Proofs.Ytieaealkdjnolaa.Pure
