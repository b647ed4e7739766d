/- Shares of products: what is spread, in the document and in the program. -/
import Derived.Test.YtcmaidpoolcelaaMfPx0
import Derived.Test.YtcmaidpoolcelaaMfLemPart
namespace Go.Proofs.Ytcmaidpoolcelaa.Lem
open Go.RowKit Go.Proofs.Ytcmaidpoolcelaa.P Go.Proofs.Ytcmaidpoolcelaa.Num Go.Proofs.YtcmaidpoolcelaaW.PrintWords Go.Proofs.YtcmaidpoolcelaaW.PrintMore
set_option linter.unusedVariables false

theorem wrong_all {ck : Int} {l r q c : Nat} {xs : List S26} (h : wrongOf ck l r q c xs = 0) : ck = 0 ∧ xs.all (okSh l r q c) = true := by
  unfold wrongOf at h
  by_cases h1 : ck = 0
  · rw [if_pos h1] at h
    by_cases h2 : xs.all (okSh l r q c) = true
    · exact ⟨h1, h2⟩
    · rw [if_neg h2] at h; omega
  · rw [if_neg h1] at h; exact absurd h h1

end Go.Proofs.Ytcmaidpoolcelaa.Lem
