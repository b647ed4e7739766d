/- WindowOnce, the plain part: nothing is left to show but that what came in is well formed. -/
import Derived.Test.YtedhckojeephaaaWoK17
import Derived.Test.YtedhckojeephaaaWoOps
namespace Go.Proofs.Ytedhckojeephaaa.Pure
open Go.RowKit Go.Proofs.Ytedhckojeephaaa.P Go.Proofs.Ytedhckojeephaaa.Ops
set_option linter.unusedVariables false
theorem WindowOnce (x0 : List ByteArray) (x1 : List Int) (x2 : List Bool) (w0 : x0.length ≤ maxLen ∧ ∀ y ∈ x0, y.size ≤ maxLen) (w1 : x1.length ≤ maxLen ∧ ∀ y ∈ x1, (Lit.int .u8 y).wf = true) (w2 : x2.length ≤ maxLen ∧ ∀ y ∈ x2, True) : trefoillaw13_WindowOnce.f x0 x1 x2 = some true := if_pos ⟨w0.2, w1.2⟩
end Go.Proofs.Ytedhckojeephaaa.Pure
