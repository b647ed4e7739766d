/- What the parameters of the laws open to. -/
import Derived.Test.YtedhckojeephaaaNpOpens
import Derived.Test.YtedhckojeephaaaNpPx0
namespace Go.Proofs.Ytedhckojeephaaa.Ops
open Go.RowKit Go.ChangeShapes Go.Proofs.Ytedhckojeephaaa.P Go.Proofs.Ytedhckojeephaaa.Opens Go.Proofs.YtedhckojeephaaaW.PrintWords
set_option linter.unusedVariables false
theorem op3 : Opens Try.prog 3 (Kd.int .i64) (fun x => (Lit.int .i64 x).wf = true) := opens_int Try.underlying3 (by kernel_rfl)
theorem op9 : Opens Try.prog 9 Kd.string (fun x => x.size ≤ maxLen) := opens_string Try.underlying9 (by kernel_rfl)
theorem op5 : Opens Try.prog 5 (Kd.int .u8) (fun x => (Lit.int .u8 x).wf = true) := opens_int Try.underlying5 (by kernel_rfl)
def wf67 (x : S67) : Prop := (Lit.int .i64 x.f0).wf = true ∧ (Lit.int .i64 x.f1).wf = true ∧ (Lit.int .i64 x.f2).wf = true ∧ (Lit.int .i64 x.f3).wf = true ∧ x.f4.size ≤ maxLen ∧ (Lit.int .u8 x.f5).wf = true
theorem op67 : Opens Try.prog 67 k67 wf67 := opens_struct (fun x : S67 => (x.f0, x.f1, x.f2, x.f3, x.f4, x.f5)) (fun p => ⟨p.1, p.2.1, p.2.2.1, p.2.2.2.1, p.2.2.2.2.1, p.2.2.2.2.2⟩) (fun _ => rfl) Try.underlying67 (by kernel_rfl) _ rfl (opensFs_cons rfl rfl op3 (opensFs_cons rfl rfl op3 (opensFs_cons rfl rfl op3 (opensFs_cons rfl rfl op3 (opensFs_cons rfl rfl op9 (opensFs_last rfl op5))))))
theorem op62 : Opens Try.prog 62 (Kd.slice 67 k67) (fun x => (x.length ≤ maxLen ∧ ∀ y ∈ x, wf67 y)) := opens_slice Try.underlying62 (by kernel_rfl) op67
end Go.Proofs.Ytedhckojeephaaa.Ops
