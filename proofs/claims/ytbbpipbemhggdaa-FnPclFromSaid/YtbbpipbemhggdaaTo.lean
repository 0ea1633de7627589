/- The copies of plain structs that the laws make, together. -/
import Derived.Test.YtbbpipbemhggdaaOk2
import Derived.Test.YtbbpipbemhggdaaTMp
import Derived.Test.YtbbpipbemhggdaaTGst
import Derived.Test.YtbbpipbemhggdaaTRec
