/- All contracts, gathered. -/
import Derived.Test.YtlpjgmbbcibkjaaT1
import Derived.Test.YtlpjgmbbcibkjaaT2
import Derived.Test.YtlpjgmbbcibkjaaT3
import Derived.Test.YtlpjgmbbcibkjaaT4
import Derived.Test.YtlpjgmbbcibkjaaT5
import Derived.Test.YtlpjgmbbcibkjaaT6
import Derived.Test.YtlpjgmbbcibkjaaT7
import Derived.Test.YtlpjgmbbcibkjaaT8
import Derived.Test.YtlpjgmbbcibkjaaT9
