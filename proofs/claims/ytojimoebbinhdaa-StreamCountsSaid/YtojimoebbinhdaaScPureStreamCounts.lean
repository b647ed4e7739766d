/- StreamCounts, the plain part: the chapter's example comes true. -/
import Derived.Test.YtojimoebbinhdaaScK0
import Derived.Test.YtojimoebbinhdaaScK2
namespace Go.Proofs.Ytojimoebbinhdaa.Pure
open Go.RowKit Go.Proofs.Ytojimoebbinhdaa.P
set_option linter.unusedVariables false
theorem StreamCounts (x0 : List Int) (w0 : x0.length ≤ maxLen ∧ ∀ y ∈ x0, (Lit.int .i64 y).wf = true) : ∃ k, trefoillaw20_StreamCounts.f k x0 = some true := by
  refine ⟨20, ?_⟩
  unfold trefoillaw20_StreamCounts.f
  have e : trefoillaw20_awake.f 20 = some true := by kernel_rfl
  rw [e]; rfl
end Go.Proofs.Ytojimoebbinhdaa.Pure
