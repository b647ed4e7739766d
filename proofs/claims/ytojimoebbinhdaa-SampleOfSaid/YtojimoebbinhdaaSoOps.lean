/- What the parameters of the laws open to. -/
import Derived.Test.YtojimoebbinhdaaSoOpens
import Derived.Test.YtojimoebbinhdaaSoPx0
namespace Go.Proofs.Ytojimoebbinhdaa.Ops
open Go.RowKit Go.ChangeShapes Go.Proofs.Ytojimoebbinhdaa.P Go.Proofs.Ytojimoebbinhdaa.Opens Go.Proofs.YtojimoebbinhdaaW.PrintWords
set_option linter.unusedVariables false
theorem op22 : Opens Try.prog 22 (Kd.int .u64) (fun x => (Lit.int .u64 x).wf = true) := opens_int Try.underlying22 (by kernel_rfl)
theorem op3 : Opens Try.prog 3 (Kd.int .i64) (fun x => (Lit.int .i64 x).wf = true) := opens_int Try.underlying3 (by kernel_rfl)
theorem op35 : Opens Try.prog 35 (Kd.slice 3 (Kd.int .i64)) (fun x => (x.length ≤ maxLen ∧ ∀ y ∈ x, (Lit.int .i64 y).wf = true)) := opens_slice Try.underlying35 (by kernel_rfl) op3
end Go.Proofs.Ytojimoebbinhdaa.Ops
