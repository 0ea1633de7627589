/- The copies of plain structs that the laws make, together. -/
import Derived.Test.YtnfodkhfoegnaaaOk2
import Derived.Test.YtnfodkhfoegnaaaTMp
import Derived.Test.YtnfodkhfoegnaaaTGst
import Derived.Test.YtnfodkhfoegnaaaTRec
