/- SampleOf, the plain part: nothing is left to show but that what came in is within reach. -/
import Derived.Test.YtojimoebbinhdaaSoK5
import Derived.Test.YtojimoebbinhdaaSoSized
namespace Go.Proofs.Ytojimoebbinhdaa.Pure
open Go.RowKit Go.Proofs.Ytojimoebbinhdaa.P Go.Proofs.Ytojimoebbinhdaa.Ops Go.Proofs.Ytojimoebbinhdaa.Opens
set_option linter.unusedVariables false
theorem SampleOf (x0 : List S52) (x1 : List Int) (w0 : x0.length * Try.prog.bytesOf 52 ≤ reachBytes ∧ ∀ y ∈ x0, wfB52 y) (w1 : x1.length ≤ maxLen ∧ ∀ y ∈ x1, (Lit.int .i64 y).wf = true) : trefoillaw29_SampleOf.f x0 x1 = some true := by
  have hr : reachBytes = 140737488351232 := rfl
  unfold trefoillaw29_SampleOf.f
  refine if_pos (fun x hx => ?_)
  obtain ⟨⟨h0, -⟩, ⟨h1, -⟩, ⟨h2, -⟩⟩ := w0.2 x hx
  rw [bytes22, hr] at h0 h1 h2
  exact ⟨by omega, by omega, by omega⟩
end Go.Proofs.Ytojimoebbinhdaa.Pure
