/- What the parameters of the laws open to. -/
import Derived.Test.YtdifkcbiifhkeaaOoOpens
import Derived.Test.YtdifkcbiifhkeaaOoPx0
namespace Go.Proofs.Ytdifkcbiifhkeaa.Ops
open Go.RowKit Go.ChangeShapes Go.Proofs.Ytdifkcbiifhkeaa.P Go.Proofs.Ytdifkcbiifhkeaa.Opens Go.Proofs.YtdifkcbiifhkeaaW.PrintWords
set_option linter.unusedVariables false
theorem op3 : Opens Try.prog 3 (Kd.int .i64) (fun x => (Lit.int .i64 x).wf = true) := opens_int Try.underlying3 (by kernel_rfl)
def wf23 (x : S23) : Prop := (Lit.int .i64 x.f0).wf = true ∧ (Lit.int .i64 x.f1).wf = true ∧ (Lit.int .i64 x.f2).wf = true
theorem op23 : Opens Try.prog 23 k23 wf23 := opens_struct (fun x : S23 => (x.f0, x.f1, x.f2)) (fun p => ⟨p.1, p.2.1, p.2.2⟩) (fun _ => rfl) Try.underlying23 (by kernel_rfl) _ rfl (opensFs_cons rfl rfl op3 (opensFs_cons rfl rfl op3 (opensFs_last rfl op3)))
def wf28 (x : S28) : Prop := (Lit.int .i64 x.f0).wf = true ∧ (Lit.int .i64 x.f1).wf = true ∧ (Lit.int .i64 x.f2).wf = true ∧ (Lit.int .i64 x.f3).wf = true ∧ (Lit.int .i64 x.f4).wf = true
theorem op28 : Opens Try.prog 28 k28 wf28 := opens_struct (fun x : S28 => (x.f0, x.f1, x.f2, x.f3, x.f4)) (fun p => ⟨p.1, p.2.1, p.2.2.1, p.2.2.2.1, p.2.2.2.2⟩) (fun _ => rfl) Try.underlying28 (by kernel_rfl) _ rfl (opensFs_cons rfl rfl op3 (opensFs_cons rfl rfl op3 (opensFs_cons rfl rfl op3 (opensFs_cons rfl rfl op3 (opensFs_last rfl op3)))))
def wf30 (x : S30) : Prop := (Lit.int .i64 x.f0).wf = true ∧ wf28 x.f1 ∧ (Lit.int .i64 x.f2).wf = true
theorem op30 : Opens Try.prog 30 k30 wf30 := opens_struct (fun x : S30 => (x.f0, x.f1, x.f2)) (fun p => ⟨p.1, p.2.1, p.2.2⟩) (fun _ => rfl) Try.underlying30 (by kernel_rfl) _ rfl (opensFs_cons rfl rfl op3 (opensFs_cons rfl rfl op28 (opensFs_last rfl op3)))
def wf42 (x : S42) : Prop := (Lit.int .i64 x.f0).wf = true ∧ wf30 x.f1 ∧ wf23 x.f2 ∧ (Lit.int .i64 x.f3).wf = true
theorem op42 : Opens Try.prog 42 k42 wf42 := opens_struct (fun x : S42 => (x.f0, x.f1, x.f2, x.f3)) (fun p => ⟨p.1, p.2.1, p.2.2.1, p.2.2.2⟩) (fun _ => rfl) Try.underlying42 (by kernel_rfl) _ rfl (opensFs_cons rfl rfl op3 (opensFs_cons rfl rfl op30 (opensFs_cons rfl rfl op23 (opensFs_last rfl op3))))
theorem op24 : Opens Try.prog 24 (Kd.slice 42 k42) (fun x => (x.length ≤ maxLen ∧ ∀ y ∈ x, wf42 y)) := opens_slice Try.underlying24 (by kernel_rfl) op42
end Go.Proofs.Ytdifkcbiifhkeaa.Ops
