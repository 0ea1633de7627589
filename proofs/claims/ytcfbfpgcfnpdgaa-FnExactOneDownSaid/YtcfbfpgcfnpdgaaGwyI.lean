/- The gateway's book that is ok: the program's test. -/
import Derived.Test.YtcfbfpgcfnpdgaaGwyR
namespace Go.Proofs.Ytcfbfpgcfnpdgaa
open Go.RowKit
set_option linter.unusedSimpArgs false
set_option linter.unusedVariables false

end Go.Proofs.Ytcfbfpgcfnpdgaa
