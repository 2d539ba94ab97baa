/- All contracts, gathered. -/
import Derived.Test.YtjjceikmimhpnaaDoorT1
import Derived.Test.YtjjceikmimhpnaaDoorT2
import Derived.Test.YtjjceikmimhpnaaDoorT3
import Derived.Test.YtjjceikmimhpnaaDoorT4
import Derived.Test.YtjjceikmimhpnaaDoorT5
import Derived.Test.YtjjceikmimhpnaaDoorT6
import Derived.Test.YtjjceikmimhpnaaDoorT7
import Derived.Test.YtjjceikmimhpnaaDoorT8
import Derived.Test.YtjjceikmimhpnaaDoorT9
import Derived.Test.YtjjceikmimhpnaaDoorT10
import Derived.Test.YtjjceikmimhpnaaDoorT11
import Derived.Test.YtjjceikmimhpnaaDoorT12
import Derived.Test.YtjjceikmimhpnaaDoorT13
