/- WindowOut, the plain part: nothing is left to show but that what came in is well formed. -/
import Derived.Test.YtedhckojeephaaaWxK21
import Derived.Test.YtedhckojeephaaaWxOps
namespace Go.Proofs.Ytedhckojeephaaa.Pure
open Go.RowKit Go.Proofs.Ytedhckojeephaaa.P Go.Proofs.Ytedhckojeephaaa.Ops
set_option linter.unusedVariables false
theorem WindowOut (x0 : Int) (x1 : List S31) (w0 : (Lit.int .u32 x0).wf = true) (w1 : x1.length ≤ maxLen ∧ ∀ y ∈ x1, wf31 y) : trefoillaw13_WindowOut.f x0 x1 = some true := if_pos ⟨w0, fun x hx => (w1.2 x hx).2.1⟩
end Go.Proofs.Ytedhckojeephaaa.Pure
