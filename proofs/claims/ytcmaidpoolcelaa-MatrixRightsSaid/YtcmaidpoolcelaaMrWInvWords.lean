/- Nothing of this text is named here; its imports stand. -/
import Derived.Test.YtcmaidpoolcelaaMrWInv
import Derived.Test.YtcmaidpoolcelaaMrWFootNe
