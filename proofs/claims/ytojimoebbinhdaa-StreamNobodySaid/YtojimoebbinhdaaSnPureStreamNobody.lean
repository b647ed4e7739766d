/- StreamNobody, the plain part: the chapter's example comes true. -/
import Derived.Test.YtojimoebbinhdaaSnK0
import Derived.Test.YtojimoebbinhdaaSnK1
namespace Go.Proofs.Ytojimoebbinhdaa.Pure
open Go.RowKit Go.Proofs.Ytojimoebbinhdaa.P
set_option linter.unusedVariables false
theorem StreamNobody (x0 : Int) (x1 : List (Int)) (w0 : (Lit.int .i64 x0).wf = true) (w1 : (x1.length ≤ maxLen ∧ ∀ y ∈ x1, (Lit.int .u64 y).wf = true)) : ∃ k, trefoillaw20_StreamNobody.f k x0 x1 = some true := by
  refine ⟨20, ?_⟩
  unfold trefoillaw20_StreamNobody.f
  have e : trefoillaw20_awake.f 20 = some true := by kernel_rfl
  rw [e]; rfl
end Go.Proofs.Ytojimoebbinhdaa.Pure
