/- ServeOnce, the plain part: the tickets' numbers are numbers. -/
import Derived.Test.YtdifkcbiifhkeaaOoK7
import Derived.Test.YtdifkcbiifhkeaaOoOps
namespace Go.Proofs.Ytdifkcbiifhkeaa.Pure
open Go.RowKit Go.Proofs.Ytdifkcbiifhkeaa.P Go.Proofs.Ytdifkcbiifhkeaa.Ops Go.Proofs.YtdifkcbiifhkeaaW.PrintWords Go.Proofs.YtdifkcbiifhkeaaW.PrintMore
set_option linter.unusedVariables false
theorem ServeOnce (x0 : Int) (x1 : S23) (x2 : Int) (x3 : List (S42)) (w0 : (Lit.int .i64 x0).wf = true) (w1 : wf23 x1) (w2 : (Lit.int .i64 x2).wf = true) (w3 : (x3.length ≤ maxLen ∧ ∀ y ∈ x3, wf42 y)) : trefoillaw33_ServeOnce.f x0 x1.f0 x1.f1 x1.f2 x2 x3 = some true := by
  unfold trefoillaw33_ServeOnce.f
  rw [if_pos ⟨w0, fun y hy => (w3.2 y hy).2.1.1⟩]
end Go.Proofs.Ytdifkcbiifhkeaa.Pure
