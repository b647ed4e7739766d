/- DabitRights, the plain part: whether two shares are of one bit, the program and the document say the same. -/
import Derived.Test.YtcmaidpoolcelaaMsLemFits
import Derived.Test.YtcmaidpoolcelaaMsLemRing
import Derived.Test.YtcmaidpoolcelaaMsOps
namespace Go.Proofs.Ytcmaidpoolcelaa.Pure
open Go.RowKit Go.Proofs.Ytcmaidpoolcelaa.P Go.Proofs.Ytcmaidpoolcelaa.Lem Go.Proofs.Ytcmaidpoolcelaa.Num Go.Proofs.Ytcmaidpoolcelaa.Ops Go.Proofs.YtcmaidpoolcelaaW.PrintWords Go.Proofs.YtcmaidpoolcelaaW.PrintMore
set_option linter.unusedVariables false
namespace DabitRightsL

theorem u64s_of {l : List Int} (h : l.length ≤ maxLen ∧ ∀ y ∈ l, (Lit.int .u64 y).wf = true) : U64s l := fun x hx => by
  have := bounds_u64 (h.2 x hx)
  omega

end DabitRightsL
open DabitRightsL

end Go.Proofs.Ytcmaidpoolcelaa.Pure
