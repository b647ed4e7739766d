/- What the parameters of the laws open to. -/
import Derived.Test.YtedhckojeephaaaWoOpens
import Derived.Test.YtedhckojeephaaaWoPx0
namespace Go.Proofs.Ytedhckojeephaaa.Ops
open Go.RowKit Go.ChangeShapes Go.Proofs.Ytedhckojeephaaa.P Go.Proofs.Ytedhckojeephaaa.Opens Go.Proofs.YtedhckojeephaaaW.PrintWords
set_option linter.unusedVariables false
theorem op9 : Opens Try.prog 9 Kd.string (fun x => x.size ≤ maxLen) := opens_string Try.underlying9 (by kernel_rfl)
theorem op27 : Opens Try.prog 27 (Kd.slice 9 Kd.string) (fun x => (x.length ≤ maxLen ∧ ∀ y ∈ x, y.size ≤ maxLen)) := opens_slice Try.underlying27 (by kernel_rfl) op9
theorem op5 : Opens Try.prog 5 (Kd.int .u8) (fun x => (Lit.int .u8 x).wf = true) := opens_int Try.underlying5 (by kernel_rfl)
theorem op49 : Opens Try.prog 49 (Kd.slice 5 (Kd.int .u8)) (fun x => (x.length ≤ maxLen ∧ ∀ y ∈ x, (Lit.int .u8 y).wf = true)) := opens_slice Try.underlying49 (by kernel_rfl) op5
theorem op4 : Opens Try.prog 4 Kd.bool (fun x => True) := opens_bool Try.underlying4 (by kernel_rfl)
theorem op50 : Opens Try.prog 50 (Kd.slice 4 Kd.bool) (fun x => (x.length ≤ maxLen ∧ ∀ y ∈ x, True)) := opens_slice Try.underlying50 (by kernel_rfl) op4
end Go.Proofs.Ytedhckojeephaaa.Ops
