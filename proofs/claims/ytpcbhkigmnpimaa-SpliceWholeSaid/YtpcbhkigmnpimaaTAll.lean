/- All contracts, gathered. -/
import Derived.Test.YtpcbhkigmnpimaaT1
import Derived.Test.YtpcbhkigmnpimaaT2
import Derived.Test.YtpcbhkigmnpimaaT3
import Derived.Test.YtpcbhkigmnpimaaT4
import Derived.Test.YtpcbhkigmnpimaaT5
import Derived.Test.YtpcbhkigmnpimaaT6
import Derived.Test.YtpcbhkigmnpimaaT7
import Derived.Test.YtpcbhkigmnpimaaT8
import Derived.Test.YtpcbhkigmnpimaaT9
import Derived.Test.YtpcbhkigmnpimaaT10
import Derived.Test.YtpcbhkigmnpimaaT11
import Derived.Test.YtpcbhkigmnpimaaT12
import Derived.Test.YtpcbhkigmnpimaaT13
import Derived.Test.YtpcbhkigmnpimaaT14
