/- What the parameters of the laws open to. -/
import Derived.Test.YtieaealkdjnolaaPnOpens
import Derived.Test.YtieaealkdjnolaaPnPx0
namespace Go.Proofs.Ytieaealkdjnolaa.Ops
open Go.RowKit Go.ChangeShapes Go.Proofs.Ytieaealkdjnolaa.P Go.Proofs.Ytieaealkdjnolaa.Opens Go.Proofs.YtieaealkdjnolaaW.PrintWords
set_option linter.unusedVariables false
theorem op3 : Opens Try.prog 3 (Kd.int .i64) (fun x => (Lit.int .i64 x).wf = true) := opens_int Try.underlying3 (by kernel_rfl)
def wf26 (x : S26) : Prop := (Lit.int .i64 x.f0).wf = true ∧ (Lit.int .i64 x.f1).wf = true ∧ (Lit.int .i64 x.f2).wf = true ∧ (Lit.int .i64 x.f3).wf = true ∧ (Lit.int .i64 x.f4).wf = true
theorem op26 : Opens Try.prog 26 k26 wf26 := opens_struct (fun x : S26 => (x.f0, x.f1, x.f2, x.f3, x.f4)) (fun p => ⟨p.1, p.2.1, p.2.2.1, p.2.2.2.1, p.2.2.2.2⟩) (fun _ => rfl) Try.underlying26 (by kernel_rfl) _ rfl (opensFs_cons rfl rfl op3 (opensFs_cons rfl rfl op3 (opensFs_cons rfl rfl op3 (opensFs_cons rfl rfl op3 (opensFs_last rfl op3)))))
theorem op34 : Opens Try.prog 34 (Kd.int .u64) (fun x => (Lit.int .u64 x).wf = true) := opens_int Try.underlying34 (by kernel_rfl)
theorem op30 : Opens Try.prog 30 (Kd.slice 34 (Kd.int .u64)) (fun x => (x.length ≤ maxLen ∧ ∀ y ∈ x, (Lit.int .u64 y).wf = true)) := opens_slice Try.underlying30 (by kernel_rfl) op34
def wf32 (x : S32) : Prop := (x.f0.length ≤ maxLen ∧ ∀ y ∈ x.f0, (Lit.int .u64 y).wf = true) ∧ (x.f1.length ≤ maxLen ∧ ∀ y ∈ x.f1, (Lit.int .u64 y).wf = true) ∧ (x.f2.length ≤ maxLen ∧ ∀ y ∈ x.f2, (Lit.int .u64 y).wf = true)
theorem op32 : Opens Try.prog 32 k32 wf32 := opens_struct (fun x : S32 => (x.f0, x.f1, x.f2)) (fun p => ⟨p.1, p.2.1, p.2.2⟩) (fun _ => rfl) Try.underlying32 (by kernel_rfl) _ rfl (opensFs_cons rfl rfl op30 (opensFs_cons rfl rfl op30 (opensFs_last rfl op30)))
theorem op35 : Opens Try.prog 35 (Kd.slice 32 k32) (fun x => (x.length ≤ maxLen ∧ ∀ y ∈ x, wf32 y)) := opens_slice Try.underlying35 (by kernel_rfl) op32
def wf39 (x : S39) : Prop := (Lit.int .i64 x.f0).wf = true ∧ wf26 x.f1 ∧ (x.f2.length ≤ maxLen ∧ ∀ y ∈ x.f2, wf32 y) ∧ (Lit.int .i64 x.f3).wf = true ∧ (Lit.int .i64 x.f4).wf = true
theorem op39 : Opens Try.prog 39 k39 wf39 := opens_struct (fun x : S39 => (x.f0, x.f1, x.f2, x.f3, x.f4)) (fun p => ⟨p.1, p.2.1, p.2.2.1, p.2.2.2.1, p.2.2.2.2⟩) (fun _ => rfl) Try.underlying39 (by kernel_rfl) _ rfl (opensFs_cons rfl rfl op3 (opensFs_cons rfl rfl op26 (opensFs_cons rfl rfl op35 (opensFs_cons rfl rfl op3 (opensFs_last rfl op3)))))
end Go.Proofs.Ytieaealkdjnolaa.Ops
