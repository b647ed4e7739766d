/- What the parameters of the laws open to. -/
import Derived.Test.YtcmaidpoolcelaaCmOpens
import Derived.Test.YtcmaidpoolcelaaCmPx0
namespace Go.Proofs.Ytcmaidpoolcelaa.Ops
open Go.RowKit Go.ChangeShapes Go.Proofs.Ytcmaidpoolcelaa.P Go.Proofs.Ytcmaidpoolcelaa.Opens Go.Proofs.YtcmaidpoolcelaaW.PrintWords
set_option linter.unusedVariables false
theorem op35 : Opens Try.prog 35 (Kd.int .u64) (fun x => (Lit.int .u64 x).wf = true) := opens_int Try.underlying35 (by kernel_rfl)
theorem op24 : Opens Try.prog 24 (Kd.slice 35 (Kd.int .u64)) (fun x => (x.length ≤ maxLen ∧ ∀ y ∈ x, (Lit.int .u64 y).wf = true)) := opens_slice Try.underlying24 (by kernel_rfl) op35
theorem op4 : Opens Try.prog 4 Kd.bool (fun x => True) := opens_bool Try.underlying4 (by kernel_rfl)
theorem op32 : Opens Try.prog 32 (Kd.slice 4 Kd.bool) (fun x => (x.length ≤ maxLen ∧ ∀ y ∈ x, True)) := opens_slice Try.underlying32 (by kernel_rfl) op4
end Go.Proofs.Ytcmaidpoolcelaa.Ops
