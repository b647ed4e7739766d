/- MatrixRights, the plain part. -/
import Derived.Test.YtcmaidpoolcelaaMrK9
import Derived.Test.YtcmaidpoolcelaaMrPureRights
import Derived.Test.YtcmaidpoolcelaaMrPureMatrixSides
namespace Go.Proofs.Ytcmaidpoolcelaa.Pure
open Go.RowKit Go.Proofs.Ytcmaidpoolcelaa.P Go.Proofs.Ytcmaidpoolcelaa.Lem Go.Proofs.Ytcmaidpoolcelaa.Num Go.Proofs.Ytcmaidpoolcelaa.Ops Go.Proofs.YtcmaidpoolcelaaW.PrintWords Go.Proofs.YtcmaidpoolcelaaW.PrintMore
set_option linter.unusedVariables false
open RightsL DabitRightsL

/-- The plain statement of MatrixRights. -/
theorem MatrixRights (x0 : S23) (x1 x2 : S26) (w0 : wf23 x0) (w1 : wf26 x1) (w2 : wf26 x2) :
    ∃ k, trefoillaw23_MatrixRights.f k x0.f0 x0.f1 x0.f2 x0.f3 x0.f4 x1.f0 x1.f1 x1.f2 x2.f0 x2.f1 x2.f2 = some true := by
  refine ⟨20003, ?_⟩
  obtain ⟨k, hk⟩ : ∃ k, k = 20003 := ⟨_, rfl⟩
  rw [← hk]
  obtain ⟨b, eb, hb⟩ := MatrixSidesL.small_f k (by omega) [⟨x1.f0, x1.f1, x1.f2⟩, ⟨x2.f0, x2.f1, x2.f2⟩]
  have ea := MatrixSidesL.awake23 k (by omega)
  unfold trefoillaw23_MatrixRights.f
  rw [eb, Option.bind_some, ea, Option.bind_some]
  by_cases hbt : b = true
  · obtain ⟨_, hs⟩ := hb hbt
    obtain ⟨s1, s2, s3⟩ := hs ⟨x1.f0, x1.f1, x1.f2⟩ (by simp)
    obtain ⟨s4, s5, s6⟩ := hs ⟨x2.f0, x2.f1, x2.f2⟩ (by simp)
    obtain ⟨a1, a2, a3⟩ := w1
    obtain ⟨b1, b2, b3⟩ := w2
    simp only at s1 s2 s3 s4 s5 s6
    obtain ⟨r, e1, e2⟩ := both23 k (by omega) x0.f0 x0.f1 x0.f2 x0.f3 x0.f4 _ _ _ _ _ _ (u64s_of a1) (u64s_of a2) (u64s_of a3) (u64s_of b1) (u64s_of b2) (u64s_of b3) (by omega) (by omega) (by omega) (by omega) (by omega) (by omega)
    rw [if_pos hbt, e1, Option.bind_some, e2, Option.bind_some]
    simp
  · rw [if_neg hbt]
end Go.Proofs.Ytcmaidpoolcelaa.Pure
