/- All contracts, gathered. -/
import Derived.Test.YtfoffhdckcdjdaaDoorT1
import Derived.Test.YtfoffhdckcdjdaaDoorT2
import Derived.Test.YtfoffhdckcdjdaaDoorT3
import Derived.Test.YtfoffhdckcdjdaaDoorT4
import Derived.Test.YtfoffhdckcdjdaaDoorT5
