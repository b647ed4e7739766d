/- What the parameters of the laws open to. -/
import Derived.Test.YtieaealkdjnolaaPaOpens
import Derived.Test.YtieaealkdjnolaaPaPx0
namespace Go.Proofs.Ytieaealkdjnolaa.Ops
open Go.RowKit Go.ChangeShapes Go.Proofs.Ytieaealkdjnolaa.P Go.Proofs.Ytieaealkdjnolaa.Opens Go.Proofs.YtieaealkdjnolaaW.PrintWords
set_option linter.unusedVariables false
theorem op5 : Opens Try.prog 5 (Kd.int .u8) (fun x => (Lit.int .u8 x).wf = true) := opens_int Try.underlying5 (by kernel_rfl)
theorem op47 : Opens Try.prog 47 (Kd.slice 5 (Kd.int .u8)) (fun x => (x.length ≤ maxLen ∧ ∀ y ∈ x, (Lit.int .u8 y).wf = true)) := opens_slice Try.underlying47 (by kernel_rfl) op5
end Go.Proofs.Ytieaealkdjnolaa.Ops
