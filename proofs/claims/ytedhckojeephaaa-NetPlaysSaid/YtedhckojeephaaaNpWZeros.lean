/- Nothing of this text is named here; its imports stand. -/
import Derived.Test.YtedhckojeephaaaNpWApart
import Derived.Test.YtedhckojeephaaaNpWArr
