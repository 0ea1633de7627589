/- The laws' helpers at OrdOrder, and at slices of it: copies, equality of equals, sizes, marks. -/
import Derived.Test.YtbbpipbemhggdaaMem
import Derived.Test.YtbbpipbemhggdaaSeg
import Derived.Test.YtbbpipbemhggdaaScal
namespace Go.Proofs.Ytbbpipbemhggdaa
open Go.RowKit

end Go.Proofs.Ytbbpipbemhggdaa
