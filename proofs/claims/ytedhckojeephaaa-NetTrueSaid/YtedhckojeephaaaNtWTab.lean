/- Nothing of this text is named here; its imports stand. -/
import Derived.Test.YtedhckojeephaaaNtWLast
import Derived.Test.YtedhckojeephaaaNtWWords
