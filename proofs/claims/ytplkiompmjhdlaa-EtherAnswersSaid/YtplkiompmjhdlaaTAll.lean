/- All contracts, gathered. -/
import Derived.Test.YtplkiompmjhdlaaT1
import Derived.Test.YtplkiompmjhdlaaT2
import Derived.Test.YtplkiompmjhdlaaT3
import Derived.Test.YtplkiompmjhdlaaT4
import Derived.Test.YtplkiompmjhdlaaT5
import Derived.Test.YtplkiompmjhdlaaT6
import Derived.Test.YtplkiompmjhdlaaT7
