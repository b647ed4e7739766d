/- Nothing of this text is named here; its imports stand. -/
import Derived.Test.YtcmaidpoolcelaaMrPx0
import Derived.Test.YtcmaidpoolcelaaMrLemSides2
