/- WindowNobody, the plain part: nothing is left to show. -/
import Derived.Test.YtedhckojeephaaaWnK8
namespace Go.Proofs.Ytedhckojeephaaa.Pure
open Go.RowKit Go.Proofs.Ytedhckojeephaaa.P
set_option linter.unusedVariables false
theorem WindowNobody (x0 : Int) (x1 : ByteArray) (w0 : (Lit.int .u32 x0).wf = true) (w1 : x1.size ≤ maxLen) : trefoillaw13_WindowNobody.f x0 x1 = some true := rfl
end Go.Proofs.Ytedhckojeephaaa.Pure
