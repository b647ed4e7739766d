/- Nothing of this text is named here; its imports stand. -/
import Derived.Ground.Names2Prog
import Derived.Shelf.Slices.Delete
import Derived.Shelf.Slices.Cells
import Derived.Test.YtedhckojeephaaaProg
