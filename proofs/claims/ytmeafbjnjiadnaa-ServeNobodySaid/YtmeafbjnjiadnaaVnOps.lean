/- What the parameters of the laws open to. -/
import Derived.Test.YtmeafbjnjiadnaaVnOpens
import Derived.Test.YtmeafbjnjiadnaaVnPx0
namespace Go.Proofs.Ytmeafbjnjiadnaa.Ops
open Go.RowKit Go.ChangeShapes Go.Proofs.Ytmeafbjnjiadnaa.P Go.Proofs.Ytmeafbjnjiadnaa.Opens Go.Proofs.YtmeafbjnjiadnaaW.PrintWords
set_option linter.unusedVariables false
theorem op3 : Opens Try.prog 3 (Kd.int .i64) (fun x => (Lit.int .i64 x).wf = true) := opens_int Try.underlying3 (by kernel_rfl)
def wf23 (x : S23) : Prop := (Lit.int .i64 x.f0).wf = true ∧ (Lit.int .i64 x.f1).wf = true ∧ (Lit.int .i64 x.f2).wf = true ∧ (Lit.int .i64 x.f3).wf = true ∧ (Lit.int .i64 x.f4).wf = true
theorem op23 : Opens Try.prog 23 k23 wf23 := opens_struct (fun x : S23 => (x.f0, x.f1, x.f2, x.f3, x.f4)) (fun p => ⟨p.1, p.2.1, p.2.2.1, p.2.2.2.1, p.2.2.2.2⟩) (fun _ => rfl) Try.underlying23 (by kernel_rfl) _ rfl (opensFs_cons rfl rfl op3 (opensFs_cons rfl rfl op3 (opensFs_cons rfl rfl op3 (opensFs_cons rfl rfl op3 (opensFs_last rfl op3)))))
def wf25 (x : S25) : Prop := (Lit.int .i64 x.f0).wf = true ∧ wf23 x.f1 ∧ (Lit.int .i64 x.f2).wf = true
theorem op25 : Opens Try.prog 25 k25 wf25 := opens_struct (fun x : S25 => (x.f0, x.f1, x.f2)) (fun p => ⟨p.1, p.2.1, p.2.2⟩) (fun _ => rfl) Try.underlying25 (by kernel_rfl) _ rfl (opensFs_cons rfl rfl op3 (opensFs_cons rfl rfl op23 (opensFs_last rfl op3)))
def wf32 (x : S32) : Prop := (Lit.int .i64 x.f0).wf = true ∧ (Lit.int .i64 x.f1).wf = true ∧ (Lit.int .i64 x.f2).wf = true
theorem op32 : Opens Try.prog 32 k32 wf32 := opens_struct (fun x : S32 => (x.f0, x.f1, x.f2)) (fun p => ⟨p.1, p.2.1, p.2.2⟩) (fun _ => rfl) Try.underlying32 (by kernel_rfl) _ rfl (opensFs_cons rfl rfl op3 (opensFs_cons rfl rfl op3 (opensFs_last rfl op3)))
def wf34 (x : S34) : Prop := (Lit.int .i64 x.f0).wf = true ∧ wf25 x.f1 ∧ wf32 x.f2 ∧ (Lit.int .i64 x.f3).wf = true
theorem op34 : Opens Try.prog 34 k34 wf34 := opens_struct (fun x : S34 => (x.f0, x.f1, x.f2, x.f3)) (fun p => ⟨p.1, p.2.1, p.2.2.1, p.2.2.2⟩) (fun _ => rfl) Try.underlying34 (by kernel_rfl) _ rfl (opensFs_cons rfl rfl op3 (opensFs_cons rfl rfl op25 (opensFs_cons rfl rfl op32 (opensFs_last rfl op3))))
end Go.Proofs.Ytmeafbjnjiadnaa.Ops
