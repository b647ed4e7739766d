/- PoolAlike, the plain part: the bytes are bytes. -/
import Derived.Test.YtieaealkdjnolaaPaK4
import Derived.Test.YtieaealkdjnolaaPaOps
namespace Go.Proofs.Ytieaealkdjnolaa.Pure
open Go.RowKit Go.Proofs.Ytieaealkdjnolaa.P Go.Proofs.Ytieaealkdjnolaa.Ops Go.Proofs.YtieaealkdjnolaaW.PrintWords Go.Proofs.YtieaealkdjnolaaW.PrintMore
set_option linter.unusedVariables false
theorem PoolAlike (x0 : List (Int)) (x1 : List (Int)) (w0 : (x0.length ≤ maxLen ∧ ∀ y ∈ x0, (Lit.int .u8 y).wf = true)) (w1 : (x1.length ≤ maxLen ∧ ∀ y ∈ x1, (Lit.int .u8 y).wf = true)) : trefoillaw32_PoolAlike.f x0 x1 = some true := by
  unfold trefoillaw32_PoolAlike.f
  rw [if_pos ⟨w0.2, w1.2⟩]
end Go.Proofs.Ytieaealkdjnolaa.Pure
