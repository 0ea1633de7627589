/- The laws' helpers at GwyRow, and at slices of it: copies, equality of equals, sizes, marks. -/
import Derived.Test.YtcfbfpgcfnpdgaaTOrd
namespace Go.Proofs.Ytcfbfpgcfnpdgaa
open Go.RowKit
















def Row.mk' (q : Int) : Row := ⟨q, q + 1, ((q + 1 + 1) % 3 == 0), ⟨q + 1 + 1 + 1, q + 1 + 1 + 1 + 1, q + 1 + 1 + 1 + 1 + 1, q + 1 + 1 + 1 + 1 + 1 + 1, q + 1 + 1 + 1 + 1 + 1 + 1 + 1⟩, q + 1 + 1 + 1 + 1 + 1 + 1 + 1 + 1, q + 1 + 1 + 1 + 1 + 1 + 1 + 1 + 1 + 1⟩



end Go.Proofs.Ytcfbfpgcfnpdgaa
