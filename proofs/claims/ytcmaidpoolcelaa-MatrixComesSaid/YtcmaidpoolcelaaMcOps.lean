/- What the parameters of the laws open to. -/
import Derived.Test.YtcmaidpoolcelaaMcL1
import Derived.Test.YtcmaidpoolcelaaMcPx0
namespace Go.Proofs.Ytcmaidpoolcelaa.Ops
open Go.RowKit Go.ChangeShapes Go.Proofs.Ytcmaidpoolcelaa.P Go.Proofs.Ytcmaidpoolcelaa.Opens Go.Proofs.YtcmaidpoolcelaaW.PrintWords
set_option linter.unusedVariables false
theorem op3 : Opens Try.prog 3 (Kd.int .i64) (fun x => (Lit.int .i64 x).wf = true) := opens_int Try.underlying3 (by kernel_rfl)
def wf23 (x : S23) : Prop := (Lit.int .i64 x.f0).wf = true ∧ (Lit.int .i64 x.f1).wf = true ∧ (Lit.int .i64 x.f2).wf = true ∧ (Lit.int .i64 x.f3).wf = true ∧ (Lit.int .i64 x.f4).wf = true
theorem op23 : Opens Try.prog 23 k23 wf23 := opens_struct (fun x : S23 => (x.f0, x.f1, x.f2, x.f3, x.f4)) (fun p => ⟨p.1, p.2.1, p.2.2.1, p.2.2.2.1, p.2.2.2.2⟩) (fun _ => rfl) Try.underlying23 (by kernel_rfl) _ rfl (opensFs_cons rfl rfl op3 (opensFs_cons rfl rfl op3 (opensFs_cons rfl rfl op3 (opensFs_cons rfl rfl op3 (opensFs_last rfl op3)))))
theorem op35 : Opens Try.prog 35 (Kd.int .u64) (fun x => (Lit.int .u64 x).wf = true) := opens_int Try.underlying35 (by kernel_rfl)
theorem op24 : Opens Try.prog 24 (Kd.slice 35 (Kd.int .u64)) (fun x => (x.length ≤ maxLen ∧ ∀ y ∈ x, (Lit.int .u64 y).wf = true)) := opens_slice Try.underlying24 (by kernel_rfl) op35
end Go.Proofs.Ytcmaidpoolcelaa.Ops
