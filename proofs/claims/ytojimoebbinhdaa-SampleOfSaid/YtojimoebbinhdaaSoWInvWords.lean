/- Nothing of this text is named here; its imports stand. -/
import Derived.Test.YtojimoebbinhdaaSoWInv
import Derived.Test.YtojimoebbinhdaaSoWFootNe
