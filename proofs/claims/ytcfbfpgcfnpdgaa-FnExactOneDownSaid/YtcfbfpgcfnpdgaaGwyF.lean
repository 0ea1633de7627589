/- The place of a walker's row in the gateway's book; copies of the book. -/
import Derived.Test.YtcfbfpgcfnpdgaaTGwy
import Derived.Test.YtcfbfpgcfnpdgaaWlkF
namespace Go.Proofs.Ytcfbfpgcfnpdgaa
open Go.RowKit
set_option linter.unusedSimpArgs false
set_option linter.unusedVariables false

def isWho (who : Int) (x : Row) : Bool := x.who == who
def rowPlace (xs : List Row) (who : Int) : Int := idxFrom (isWho who) 0 xs






end Go.Proofs.Ytcfbfpgcfnpdgaa
