/- All contracts, gathered. -/
import Derived.Test.YtaiadolmjmacfaaDoorT1
import Derived.Test.YtaiadolmjmacfaaDoorT2
import Derived.Test.YtaiadolmjmacfaaDoorT3
import Derived.Test.YtaiadolmjmacfaaDoorT4
import Derived.Test.YtaiadolmjmacfaaDoorT5
import Derived.Test.YtaiadolmjmacfaaDoorT6
import Derived.Test.YtaiadolmjmacfaaDoorT7
import Derived.Test.YtaiadolmjmacfaaDoorT8
import Derived.Test.YtaiadolmjmacfaaDoorT9
import Derived.Test.YtaiadolmjmacfaaDoorT10
import Derived.Test.YtaiadolmjmacfaaDoorT11
import Derived.Test.YtaiadolmjmacfaaDoorT12
