/- All contracts, gathered. -/
import Derived.Test.YtgkgekaiajjcaaaT1
import Derived.Test.YtgkgekaiajjcaaaT2
import Derived.Test.YtgkgekaiajjcaaaT3
import Derived.Test.YtgkgekaiajjcaaaT4
