/- All contracts, gathered. -/
import Derived.Test.YtmmaojclfggioaaT1
import Derived.Test.YtmmaojclfggioaaT2
import Derived.Test.YtmmaojclfggioaaT3
import Derived.Test.YtmmaojclfggioaaT4
import Derived.Test.YtmmaojclfggioaaT5
import Derived.Test.YtmmaojclfggioaaT6
import Derived.Test.YtmmaojclfggioaaT7
import Derived.Test.YtmmaojclfggioaaT8
import Derived.Test.YtmmaojclfggioaaT9
import Derived.Test.YtmmaojclfggioaaT10
import Derived.Test.YtmmaojclfggioaaT11
import Derived.Test.YtmmaojclfggioaaT12
import Derived.Test.YtmmaojclfggioaaT13
import Derived.Test.YtmmaojclfggioaaT14
