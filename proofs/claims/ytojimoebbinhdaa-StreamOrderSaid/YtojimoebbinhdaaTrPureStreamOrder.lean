/- StreamOrder, the plain part: nothing is left to show but that what came in is well formed. -/
import Derived.Test.YtojimoebbinhdaaTrK11
namespace Go.Proofs.Ytojimoebbinhdaa.Pure
open Go.RowKit Go.Proofs.Ytojimoebbinhdaa.P
set_option linter.unusedVariables false
theorem StreamOrder (x0 : Int) (x1 : Int) (x2 : List Int) (x3 : Int) (w0 : (Lit.int .u64 x0).wf = true) (w1 : (Lit.int .u16 x1).wf = true) (w2 : (x2.length ≤ maxLen ∧ ∀ y ∈ x2, (Lit.int .u64 y).wf = true)) (w3 : (Lit.int .u8 x3).wf = true) : trefoillaw20_StreamOrder.f x0 x1 x2 x3 = some true := if_pos ⟨w0, w1, w3⟩
end Go.Proofs.Ytojimoebbinhdaa.Pure
