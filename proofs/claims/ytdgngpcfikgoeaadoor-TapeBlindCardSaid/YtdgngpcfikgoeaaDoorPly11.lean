/- does: all its kinds. -/
import Derived.Test.YtdgngpcfikgoeaaDoorPlyA
import Derived.Test.YtdgngpcfikgoeaaDoorPly5
import Derived.Test.YtdgngpcfikgoeaaDoorPly6
import Derived.Test.YtdgngpcfikgoeaaDoorPly7
import Derived.Test.YtdgngpcfikgoeaaDoorPly8
import Derived.Test.YtdgngpcfikgoeaaDoorPly9
import Derived.Test.YtdgngpcfikgoeaaDoorPly10
namespace Go.Proofs.YtdgngpcfikgoeaaDoor.P
open Go.RowKit Go.Extern.Stop Go.Stop Go.Extern Go.Proofs.YtdgngpcfikgoeaaDoorW.PrintWords Go.Proofs.YtdgngpcfikgoeaaDoorW.PrintLast Go.Proofs.YtdgngpcfikgoeaaDoorW.PrintMore
set_option linter.unusedVariables false
theorem does_any : DoesAny := by
  intro w B g gr v l A c a k N b h hc hu
  unfold actA
  by_cases h0 : k = 0
  · subst h0
    rw [if_pos rfl]
    exact does_take w B g gr v l A c a N b h hc hu
  rw [if_neg h0]
  by_cases h1 : k = 1
  · subst h1
    rw [if_pos rfl]
    exact does_next w B g gr v l A c a N b h hc hu
  rw [if_neg h1]
  by_cases h2 : k = 2
  · subst h2
    rw [if_pos rfl]
    exact does_numbers w B g gr v l A c a N b h hc hu
  rw [if_neg h2]
  by_cases h3 : k = 3
  · subst h3
    rw [if_pos rfl]
    exact does_bits w B g gr v l A c a N b h hc hu
  rw [if_neg h3]
  by_cases h4 : k = 4
  · subst h4
    rw [if_pos rfl]
    exact does_seed w B g gr v l A c a N b h hc hu
  rw [if_neg h4]
  exact does_skip w B g gr v l A c a k N b h0 h1 h2 h3 h4 h hc hu
end Go.Proofs.YtdgngpcfikgoeaaDoor.P
