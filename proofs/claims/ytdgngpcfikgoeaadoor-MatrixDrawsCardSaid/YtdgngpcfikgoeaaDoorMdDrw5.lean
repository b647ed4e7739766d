/- The program's scalar.Draw, where it fails; the checks. -/
import Derived.Test.YtdgngpcfikgoeaaDoorMdDrw1
import Derived.Test.YtdgngpcfikgoeaaDoorMdLemShape
namespace Go.Proofs.YtdgngpcfikgoeaaDoor.Lem
open Go.RowKit Go.Proofs.YtdgngpcfikgoeaaDoor.P Go.Proofs.YtdgngpcfikgoeaaDoor.Num Go.Proofs.YtdgngpcfikgoeaaDoorW.PrintWords Go.Proofs.YtdgngpcfikgoeaaDoorW.PrintMore
set_option linter.unusedVariables false
end Go.Proofs.YtdgngpcfikgoeaaDoor.Lem
namespace Go.Proofs.YtdgngpcfikgoeaaDoor.P
open Go.RowKit Go.Extern.Stop Go.Stop Go.Extern Go.Proofs.YtdgngpcfikgoeaaDoorW.PrintWords Go.Proofs.YtdgngpcfikgoeaaDoorW.PrintLast Go.Proofs.YtdgngpcfikgoeaaDoorW.PrintMore
set_option linter.unusedVariables false
set_option linter.unusedSimpArgs false
attribute [local go_sem ↓] Go.wp_at_zero Go.wp_at_succ
/-! ### the program's scalar.Draw -/
end Go.Proofs.YtdgngpcfikgoeaaDoor.P
