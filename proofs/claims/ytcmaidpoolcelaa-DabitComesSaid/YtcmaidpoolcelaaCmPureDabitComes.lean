/- The plain statement of DabitComes. -/
import Derived.Test.YtcmaidpoolcelaaCmLemCom
import Derived.Test.YtcmaidpoolcelaaCmPureDabitRights
namespace Go.Proofs.Ytcmaidpoolcelaa.Pure
open Go.RowKit Go.Proofs.Ytcmaidpoolcelaa.P Go.Proofs.Ytcmaidpoolcelaa.Num Go.Proofs.Ytcmaidpoolcelaa.Lem Go.Proofs.YtcmaidpoolcelaaW.PrintWords Go.Proofs.YtcmaidpoolcelaaW.PrintMore
set_option linter.unusedVariables false
open DabitRightsL

/-- The plain statement of DabitComes. -/
theorem DabitComes (x0 : Int) (x1 x2 : List Bool) (x3 : List Int) (w0 : (Lit.int .i64 x0).wf = true) (w1 : (x1.length ≤ maxLen ∧ ∀ y ∈ x1, True)) (w2 : (x2.length ≤ maxLen ∧ ∀ y ∈ x2, True)) (w3 : x3.length ≤ maxLen ∧ ∀ y ∈ x3, (Lit.int .u64 y).wf = true) :
    ∃ k, trefoillaw25_DabitComes.f k x0 x1 x2 x3 = some true := ⟨10000, com_f 10000 (by omega) x0 x1 x2 x3 (u64s_of w3)⟩

end Go.Proofs.Ytcmaidpoolcelaa.Pure
