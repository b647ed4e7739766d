/- What the parameters of the laws open to. -/
import Derived.Test.YtbednnnjahpmlaaCnOpens
import Derived.Test.YtbednnnjahpmlaaCnPx0
namespace Go.Proofs.Ytbednnnjahpmlaa.Ops
open Go.RowKit Go.ChangeShapes Go.Proofs.Ytbednnnjahpmlaa.P Go.Proofs.Ytbednnnjahpmlaa.Opens Go.Proofs.YtbednnnjahpmlaaW.PrintWords
set_option linter.unusedVariables false
theorem op3 : Opens Try.prog 3 (Kd.int .i64) (fun x => (Lit.int .i64 x).wf = true) := opens_int Try.underlying3 (by kernel_rfl)
def wf23 (x : S23) : Prop := (Lit.int .i64 x.f0).wf = true ∧ (Lit.int .i64 x.f1).wf = true ∧ (Lit.int .i64 x.f2).wf = true ∧ (Lit.int .i64 x.f3).wf = true ∧ (Lit.int .i64 x.f4).wf = true
theorem op23 : Opens Try.prog 23 k23 wf23 := opens_struct (fun x : S23 => (x.f0, x.f1, x.f2, x.f3, x.f4)) (fun p => ⟨p.1, p.2.1, p.2.2.1, p.2.2.2.1, p.2.2.2.2⟩) (fun _ => rfl) Try.underlying23 (by kernel_rfl) _ rfl (opensFs_cons rfl rfl op3 (opensFs_cons rfl rfl op3 (opensFs_cons rfl rfl op3 (opensFs_cons rfl rfl op3 (opensFs_last rfl op3)))))
theorem op52 : Opens Try.prog 52 (Kd.int .u64) (fun x => (Lit.int .u64 x).wf = true) := opens_int Try.underlying52 (by kernel_rfl)
theorem op41 : Opens Try.prog 41 (Kd.slice 52 (Kd.int .u64)) (fun x => (x.length ≤ maxLen ∧ ∀ y ∈ x, (Lit.int .u64 y).wf = true)) := opens_slice Try.underlying41 (by kernel_rfl) op52
def wf43 (x : S43) : Prop := (x.f0.length ≤ maxLen ∧ ∀ y ∈ x.f0, (Lit.int .u64 y).wf = true) ∧ (x.f1.length ≤ maxLen ∧ ∀ y ∈ x.f1, (Lit.int .u64 y).wf = true) ∧ (x.f2.length ≤ maxLen ∧ ∀ y ∈ x.f2, (Lit.int .u64 y).wf = true)
theorem op43 : Opens Try.prog 43 k43 wf43 := opens_struct (fun x : S43 => (x.f0, x.f1, x.f2)) (fun p => ⟨p.1, p.2.1, p.2.2⟩) (fun _ => rfl) Try.underlying43 (by kernel_rfl) _ rfl (opensFs_cons rfl rfl op41 (opensFs_cons rfl rfl op41 (opensFs_last rfl op41)))
theorem op24 : Opens Try.prog 24 (Kd.slice 43 k43) (fun x => (x.length ≤ maxLen ∧ ∀ y ∈ x, wf43 y)) := opens_slice Try.underlying24 (by kernel_rfl) op43
end Go.Proofs.Ytbednnnjahpmlaa.Ops
