/- Shares of products: what is wrong with them, what is chosen and what is spread; the program and the document do the same. -/
import Derived.Test.YtcmaidpoolcelaaMrPx0
import Derived.Test.YtcmaidpoolcelaaMrLemSpread
namespace Go.Proofs.Ytcmaidpoolcelaa.Lem
open Go.RowKit Go.Proofs.Ytcmaidpoolcelaa.P Go.Proofs.Ytcmaidpoolcelaa.Num Go.Proofs.YtcmaidpoolcelaaW.PrintWords Go.Proofs.YtcmaidpoolcelaaW.PrintMore
set_option linter.unusedVariables false

theorem sh_at (xs : List S26) (i : Nat) (h : i < xs.length) : rd_T26 xs (i : Int) = xs[i] := by
  simp only [rd_T26, Int.toNat_natCast]
  rw [List.getD_eq_getElem?_getD, List.getElem?_eq_getElem h]; rfl
theorem w_succ (i : Nat) (h : i ≤ 100000) : wrap64 ((i : Int) + 1) = ((i + 1 : Nat) : Int) := by rw [w64 (by omega) (by omega)]; omega
/-- the program's parts of single products -/
theorem one_of {a : List Int} (h : a.length = 1) : [rd a 0] = a := by
  match a, h with
  | [x], _ => rfl
end Go.Proofs.Ytcmaidpoolcelaa.Lem
