/- The laws' helpers at PclParcel, and at slices of it: copies, equality of equals, sizes, marks. -/
import Derived.Test.YtcfbfpgcfnpdgaaTWlk
namespace Go.Proofs.Ytcfbfpgcfnpdgaa
open Go.RowKit
















def Pcl.mk' (q : Int) : Pcl := ⟨q, q + 1, ⟨q + 1 + 1, q + 1 + 1 + 1, q + 1 + 1 + 1 + 1, q + 1 + 1 + 1 + 1 + 1, q + 1 + 1 + 1 + 1 + 1 + 1⟩, q + 1 + 1 + 1 + 1 + 1 + 1 + 1⟩



end Go.Proofs.Ytcfbfpgcfnpdgaa
