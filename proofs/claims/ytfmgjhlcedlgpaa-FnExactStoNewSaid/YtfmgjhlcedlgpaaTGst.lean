/- The laws' helpers at GstGhost, and at slices of it: copies, equality of equals, sizes, marks. -/
import Derived.Test.YtfmgjhlcedlgpaaTWlk
namespace Go.Proofs.Ytfmgjhlcedlgpaa
open Go.RowKit

def Gst.mk' (q : Int) : Gst := ⟨q, q + 1, ⟨q + 1 + 1, q + 1 + 1 + 1, q + 1 + 1 + 1 + 1, q + 1 + 1 + 1 + 1 + 1, q + 1 + 1 + 1 + 1 + 1 + 1⟩⟩
end Go.Proofs.Ytfmgjhlcedlgpaa
