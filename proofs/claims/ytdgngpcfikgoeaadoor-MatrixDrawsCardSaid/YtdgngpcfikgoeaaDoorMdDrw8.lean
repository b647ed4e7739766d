/- Rows of shares that read another row: they grow, and are read. -/
import Derived.Test.YtdgngpcfikgoeaaDoorMdDrw6
namespace Go.Proofs.YtdgngpcfikgoeaaDoor.P
open Go.RowKit Go.Extern.Stop Go.Stop Go.Extern Go.Proofs.YtdgngpcfikgoeaaDoorW.PrintWords Go.Proofs.YtdgngpcfikgoeaaDoorW.PrintLast Go.Proofs.YtdgngpcfikgoeaaDoorW.PrintMore
set_option linter.unusedVariables false
/-- an own row of shares whose parts lie in rows of an earlier world w2 -/
def KF (B : Nat) (w w2 : World) (v : Value) (xs : List S86) : Prop := OwnRow (k86.K w2) 86 3 w B v xs
theorem KF.nil (B : Nat) (w w2 : World) : KF B w w2 (.slice none 0 0) [] := OwnRow.none_ _ _ _ _ _
theorem KF.C {B : Nat} {w w2 : World} {v : Value} {xs : List S86} (h : KF B w w2 v xs) (hb : Below w2.heap.size w2 w) : ∃ A c, v = .slice A xs.length c ∧ xs.length ≤ c ∧ Kd.C k86 w A xs.length xs := by
  obtain ⟨inner, ho, hr⟩ := h
  obtain ⟨A, c, he, hl, hr⟩ := OwnRow.reads (R := k86.K w) ⟨inner, ho, hr.imp_ (fun _ _ hp => Kd.K_below _ hb hp)⟩
  exact ⟨A, c, he, hl, hr⟩
section
variable {ops : Array Oper} {o : Oper} {a : Act} {Q : Exit → Act → World → Prop} {Kc : Act → World → Prop}
end
end Go.Proofs.YtdgngpcfikgoeaaDoor.P
