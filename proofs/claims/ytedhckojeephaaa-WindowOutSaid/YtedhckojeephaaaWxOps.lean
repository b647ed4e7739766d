/- What the parameters of the laws open to. -/
import Derived.Test.YtedhckojeephaaaWxOpens
import Derived.Test.YtedhckojeephaaaWxPx0
namespace Go.Proofs.Ytedhckojeephaaa.Ops
open Go.RowKit Go.ChangeShapes Go.Proofs.Ytedhckojeephaaa.P Go.Proofs.Ytedhckojeephaaa.Opens Go.Proofs.YtedhckojeephaaaW.PrintWords
set_option linter.unusedVariables false
theorem op22 : Opens Try.prog 22 (Kd.int .u32) (fun x => (Lit.int .u32 x).wf = true) := opens_int Try.underlying22 (by kernel_rfl)
theorem op3 : Opens Try.prog 3 (Kd.int .i64) (fun x => (Lit.int .i64 x).wf = true) := opens_int Try.underlying3 (by kernel_rfl)
theorem op9 : Opens Try.prog 9 Kd.string (fun x => x.size ≤ maxLen) := opens_string Try.underlying9 (by kernel_rfl)
def wf31 (x : S31) : Prop := (Lit.int .i64 x.f0).wf = true ∧ (Lit.int .u32 x.f1).wf = true ∧ x.f2.size ≤ maxLen
theorem op31 : Opens Try.prog 31 k31 wf31 := opens_struct (fun x : S31 => (x.f0, x.f1, x.f2)) (fun p => ⟨p.1, p.2.1, p.2.2⟩) (fun _ => rfl) Try.underlying31 (by kernel_rfl) _ rfl (opensFs_cons rfl rfl op3 (opensFs_cons rfl rfl op22 (opensFs_last rfl op9)))
theorem op23 : Opens Try.prog 23 (Kd.slice 31 k31) (fun x => (x.length ≤ maxLen ∧ ∀ y ∈ x, wf31 y)) := opens_slice Try.underlying23 (by kernel_rfl) op31
end Go.Proofs.Ytedhckojeephaaa.Ops
