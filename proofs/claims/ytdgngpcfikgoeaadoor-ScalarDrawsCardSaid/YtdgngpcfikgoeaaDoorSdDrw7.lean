/- The document's Draw of ref22, where the class or the tape is wrong. -/
import Derived.Test.YtdgngpcfikgoeaaDoorSdDrw5
import Derived.Test.YtdgngpcfikgoeaaDoorSdDrw2
import Derived.Test.YtdgngpcfikgoeaaDoorSdPly1
namespace Go.Proofs.YtdgngpcfikgoeaaDoor.P
open Go.RowKit Go.Extern.Stop Go.Stop Go.Extern Go.Proofs.YtdgngpcfikgoeaaDoorW.PrintWords Go.Proofs.YtdgngpcfikgoeaaDoorW.PrintLast Go.Proofs.YtdgngpcfikgoeaaDoorW.PrintMore
set_option linter.unusedVariables false
set_option linter.unusedSimpArgs false
attribute [local go_sem ↓] Go.wp_at_zero Go.wp_at_succ
theorem sides1 (c1 c2 c3 c4 : Int) (w : World) : Calls Tryd.prog 48 #[cV 1 c1 c2 c3 c4] w fun e w' => e = .returned (.tuple #[.int .i64 1, .int .i64 1, .int .i64 1]) ∧ Below w.heap.size w w' :=
  (trefoilref22_Sides.calls 1 c1 c2 c3 c4 1 1 1 w (by unfold trefoilref22_Sides.f; rw [if_neg (by decide)])).mono fun e w' ⟨he, hw⟩ => ⟨he, by first | exact hw | exact hw.below⟩
end Go.Proofs.YtdgngpcfikgoeaaDoor.P
