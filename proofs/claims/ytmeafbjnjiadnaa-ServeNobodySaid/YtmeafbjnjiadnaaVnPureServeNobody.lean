/- ServeNobody, the plain part: a ticket's number is one. -/
import Derived.Test.YtmeafbjnjiadnaaVnK2
import Derived.Test.YtmeafbjnjiadnaaVnOps
namespace Go.Proofs.Ytmeafbjnjiadnaa.Pure
open Go.RowKit Go.Proofs.Ytmeafbjnjiadnaa.P Go.Proofs.Ytmeafbjnjiadnaa.Ops Go.Proofs.YtmeafbjnjiadnaaW.PrintWords Go.Proofs.YtmeafbjnjiadnaaW.PrintMore
set_option linter.unusedVariables false
theorem ServeNobody (x0 : S34) (w0 : wf34 x0) : trefoillaw33_ServeNobody.f x0.f0 x0.f1.f0 x0.f1.f1.f0 x0.f1.f1.f1 x0.f1.f1.f2 x0.f1.f1.f3 x0.f1.f1.f4 x0.f1.f2 x0.f2.f0 x0.f2.f1 x0.f2.f2 x0.f3 = some true := by
  unfold trefoillaw33_ServeNobody.f
  rw [if_pos w0.2.1.1]
end Go.Proofs.Ytmeafbjnjiadnaa.Pure
