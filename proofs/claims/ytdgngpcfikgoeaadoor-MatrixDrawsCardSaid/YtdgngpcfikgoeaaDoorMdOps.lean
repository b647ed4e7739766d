/- What the parameters of the laws open to. -/
import Derived.Test.YtdgngpcfikgoeaaDoorMdOpens
import Derived.Test.YtdgngpcfikgoeaaDoorMdPx0
namespace Go.Proofs.YtdgngpcfikgoeaaDoor.Ops
open Go.RowKit Go.ChangeShapes Go.Proofs.YtdgngpcfikgoeaaDoor.P Go.Proofs.YtdgngpcfikgoeaaDoor.Opens Go.Proofs.YtdgngpcfikgoeaaDoorW.PrintWords
set_option linter.unusedVariables false
theorem op35 : Opens Tryd.prog 35 (Kd.int .u64) (fun x => (Lit.int .u64 x).wf = true) := opens_int Tryd.underlying35 (by kernel_rfl)
theorem op22 : Opens Tryd.prog 22 (Kd.slice 35 (Kd.int .u64)) (fun x => (x.length ≤ maxLen ∧ ∀ y ∈ x, (Lit.int .u64 y).wf = true)) := opens_slice Tryd.underlying22 (by kernel_rfl) op35
theorem op3 : Opens Tryd.prog 3 (Kd.int .i64) (fun x => (Lit.int .i64 x).wf = true) := opens_int Tryd.underlying3 (by kernel_rfl)
def wf62 (x : S62) : Prop := (Lit.int .i64 x.f0).wf = true ∧ (Lit.int .i64 x.f1).wf = true ∧ (Lit.int .i64 x.f2).wf = true ∧ (Lit.int .i64 x.f3).wf = true ∧ (Lit.int .i64 x.f4).wf = true
theorem op62 : Opens Tryd.prog 62 k62 wf62 := opens_struct (fun x : S62 => (x.f0, x.f1, x.f2, x.f3, x.f4)) (fun p => ⟨p.1, p.2.1, p.2.2.1, p.2.2.2.1, p.2.2.2.2⟩) (fun _ => rfl) Tryd.underlying62 (by kernel_rfl) _ rfl (opensFs_cons rfl rfl op3 (opensFs_cons rfl rfl op3 (opensFs_cons rfl rfl op3 (opensFs_cons rfl rfl op3 (opensFs_last rfl op3)))))
end Go.Proofs.YtdgngpcfikgoeaaDoor.Ops
