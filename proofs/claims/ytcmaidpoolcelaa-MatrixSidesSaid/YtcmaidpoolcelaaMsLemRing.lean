/- Numbers of so many bits: the program's sums and the document's, bit by bit, come to the same. -/
import Derived.Test.YtcmaidpoolcelaaMsK1
import Derived.Test.YtcmaidpoolcelaaMsNum
namespace Go.Proofs.Ytcmaidpoolcelaa.Lem
open Go.RowKit Go.Proofs.Ytcmaidpoolcelaa.P Go.Proofs.Ytcmaidpoolcelaa.Num Go.Proofs.YtcmaidpoolcelaaW.PrintWords Go.Proofs.YtcmaidpoolcelaaW.PrintMore
set_option linter.unusedVariables false

theorem mask_f (l : Nat) (h0 : 1 ≤ l) (h1 : l ≤ 64) : ring_mask.f (l : Int) = some ((2 ^ l - 1 : Nat) : Int) := by
  unfold ring_mask.f ring_Mask.f
  have e : 0 ≤ IntKind.u64.wrap (wrap64 (64 - (l : Int))) := by rw [w64 (by omega) (by omega), wu64 (by omega) (by omega)]; omega
  rw [if_neg (by omega), if_neg (by omega), if_pos e, mask_nat l h0 h1]; rfl

theorem min64 {l : Nat} (h : l ≤ 64) : min 64 (l : Int).toNat = l := by rw [Int.toNat_natCast]; exact Nat.min_eq_right h
end Go.Proofs.Ytcmaidpoolcelaa.Lem
