/- What the parameters of the laws open to. -/
import Derived.Test.YtojimoebbinhdaaTrOpens
import Derived.Test.YtojimoebbinhdaaTrPx0
namespace Go.Proofs.Ytojimoebbinhdaa.Ops
open Go.RowKit Go.ChangeShapes Go.Proofs.Ytojimoebbinhdaa.P Go.Proofs.Ytojimoebbinhdaa.Opens Go.Proofs.YtojimoebbinhdaaW.PrintWords
set_option linter.unusedVariables false
theorem op22 : Opens Try.prog 22 (Kd.int .u64) (fun x => (Lit.int .u64 x).wf = true) := opens_int Try.underlying22 (by kernel_rfl)
theorem op50 : Opens Try.prog 50 (Kd.slice 22 (Kd.int .u64)) (fun x => (x.length ≤ maxLen ∧ ∀ y ∈ x, (Lit.int .u64 y).wf = true)) := opens_slice Try.underlying50 (by kernel_rfl) op22
end Go.Proofs.Ytojimoebbinhdaa.Ops
