/- Gilboa's trick: what the program and the document spread is the same. -/
import Derived.Test.YtcmaidpoolcelaaMfLemGil
namespace Go.Proofs.Ytcmaidpoolcelaa.Lem
open Go.RowKit Go.Proofs.Ytcmaidpoolcelaa.P Go.Proofs.Ytcmaidpoolcelaa.Num Go.Proofs.YtcmaidpoolcelaaW.PrintWords Go.Proofs.YtcmaidpoolcelaaW.PrintMore
set_option linter.unusedVariables false

theorem cut_mid (pre g rest : List Int) : ((pre ++ (g ++ rest)).take (pre.length + g.length)).drop pre.length = g := by
  rw [← List.append_assoc, List.take_left' (by rw [List.length_append]), List.drop_left]
end Go.Proofs.Ytcmaidpoolcelaa.Lem
