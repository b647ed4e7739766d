/- The document's Draw of ref22, where the class or the tape is wrong. -/
import Derived.Test.YtdgngpcfikgoeaaDoorMdDrw5
import Derived.Test.YtdgngpcfikgoeaaDoorMdDrw2
import Derived.Test.YtdgngpcfikgoeaaDoorMdPly1
namespace Go.Proofs.YtdgngpcfikgoeaaDoor.P
open Go.RowKit Go.Extern.Stop Go.Stop Go.Extern Go.Proofs.YtdgngpcfikgoeaaDoorW.PrintWords Go.Proofs.YtdgngpcfikgoeaaDoorW.PrintLast Go.Proofs.YtdgngpcfikgoeaaDoorW.PrintMore
set_option linter.unusedVariables false
set_option linter.unusedSimpArgs false
attribute [local go_sem ↓] Go.wp_at_zero Go.wp_at_succ
end Go.Proofs.YtdgngpcfikgoeaaDoor.P
