/- DabitRights, the plain part: whether two shares are of one bit, the program and the document say the same. -/
import Derived.Test.YtcmaidpoolcelaaMfK1
import Derived.Test.YtcmaidpoolcelaaMfLemFits
import Derived.Test.YtcmaidpoolcelaaMfLemRing
import Derived.Test.YtcmaidpoolcelaaMfOps
namespace Go.Proofs.Ytcmaidpoolcelaa.Pure
open Go.RowKit Go.Proofs.Ytcmaidpoolcelaa.P Go.Proofs.Ytcmaidpoolcelaa.Lem Go.Proofs.Ytcmaidpoolcelaa.Num Go.Proofs.Ytcmaidpoolcelaa.Ops Go.Proofs.YtcmaidpoolcelaaW.PrintWords Go.Proofs.YtcmaidpoolcelaaW.PrintMore
set_option linter.unusedVariables false
namespace DabitRightsL

theorem u64s_of {l : List Int} (h : l.length ≤ maxLen ∧ ∀ y ∈ l, (Lit.int .u64 y).wf = true) : U64s l := fun x hx => by
  have := bounds_u64 (h.2 x hx)
  omega

theorem add_r' (k l a b : Nat) (hk : 100 ≤ k) (h1 : l ≤ 64) (ha : a < 18446744073709551616) (hb : b < 18446744073709551616) : trefoilref03_Add.f k (l : Int) (a : Int) (b : Int) = some (((a + b) % 2 ^ l : Nat) : Int) := by
  rw [add_r k hk l a b ha hb, min64 h1]

end DabitRightsL
open DabitRightsL

end Go.Proofs.Ytcmaidpoolcelaa.Pure
