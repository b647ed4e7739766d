/- Nothing of this text is named here; its imports stand. -/
import Derived.Test.YtojimoebbinhdaaTrWLast
import Derived.Test.YtojimoebbinhdaaTrWWords
