/- All contracts, gathered. -/
import Derived.Test.YthjaancddmecpaaT1
import Derived.Test.YthjaancddmecpaaT2
import Derived.Test.YthjaancddmecpaaT3
import Derived.Test.YthjaancddmecpaaT4
import Derived.Test.YthjaancddmecpaaT5
import Derived.Test.YthjaancddmecpaaT6
import Derived.Test.YthjaancddmecpaaT7
import Derived.Test.YthjaancddmecpaaT8
import Derived.Test.YthjaancddmecpaaT9
