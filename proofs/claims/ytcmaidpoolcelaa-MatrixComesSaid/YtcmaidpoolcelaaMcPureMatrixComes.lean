/- The plain statement of MatrixComes. -/
import Derived.Test.YtcmaidpoolcelaaMcK13
import Derived.Test.YtcmaidpoolcelaaMcL2
import Derived.Test.YtcmaidpoolcelaaMcOps
namespace Go.Proofs.Ytcmaidpoolcelaa.Pure
open Go.RowKit Go.Proofs.Ytcmaidpoolcelaa.P Go.Proofs.Ytcmaidpoolcelaa.Num Go.Proofs.Ytcmaidpoolcelaa.Lem Go.Proofs.Ytcmaidpoolcelaa.Ops Go.Proofs.YtcmaidpoolcelaaW.PrintWords Go.Proofs.YtcmaidpoolcelaaW.PrintMore
set_option linter.unusedVariables false
open DabitRightsL
/-- The plain statement of MatrixComes. -/
theorem MatrixComes (x0 : S23) (x1 : Int) (x2 x3 x4 : List Int) (w0 : wf23 x0) (w1 : (Lit.int .u8 x1).wf = true) (w2 : x2.length ≤ maxLen ∧ ∀ y ∈ x2, (Lit.int .u64 y).wf = true) (w3 : x3.length ≤ maxLen ∧ ∀ y ∈ x3, (Lit.int .u64 y).wf = true) (w4 : x4.length ≤ maxLen ∧ ∀ y ∈ x4, (Lit.int .u64 y).wf = true) :
    trefoillaw23_MatrixComes.f x0.f0 x0.f1 x0.f2 x0.f3 x0.f4 x1 x2 x3 x4 = some true := by
  have h1 := bounds_u8 w1
  unfold trefoillaw23_MatrixComes.f
  rw [if_pos ⟨⟨by omega, by omega⟩, mcU_iff.2 (u64s_of w2), mcU_iff.2 (u64s_of w3), mcU_iff.2 (u64s_of w4)⟩]
end Go.Proofs.Ytcmaidpoolcelaa.Pure
