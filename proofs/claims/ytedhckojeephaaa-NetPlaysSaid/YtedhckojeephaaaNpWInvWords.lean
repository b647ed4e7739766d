/- Nothing of this text is named here; its imports stand. -/
import Derived.Test.YtedhckojeephaaaNpWInv
import Derived.Test.YtedhckojeephaaaNpWFootNe
