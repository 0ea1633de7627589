/- The laws' helpers at LogRec, and at slices of it: copies, equality of equals, sizes, marks. -/
import Derived.Test.YtnfodkhfoegnaaaTOrd
import Derived.Test.YtnfodkhfoegnaaaTPcl
namespace Go.Proofs.Ytnfodkhfoegnaaa
open Go.RowKit

def Rec.mk' (q : Int) : Rec := ⟨q, ⟨q + 1, q + 1 + 1, q + 1 + 1 + 1, q + 1 + 1 + 1 + 1, q + 1 + 1 + 1 + 1 + 1⟩, q + 1 + 1 + 1 + 1 + 1 + 1, ⟨q + 1 + 1 + 1 + 1 + 1 + 1 + 1, q + 1 + 1 + 1 + 1 + 1 + 1 + 1 + 1, ⟨q + 1 + 1 + 1 + 1 + 1 + 1 + 1 + 1 + 1, q + 1 + 1 + 1 + 1 + 1 + 1 + 1 + 1 + 1 + 1, q + 1 + 1 + 1 + 1 + 1 + 1 + 1 + 1 + 1 + 1 + 1, q + 1 + 1 + 1 + 1 + 1 + 1 + 1 + 1 + 1 + 1 + 1 + 1, q + 1 + 1 + 1 + 1 + 1 + 1 + 1 + 1 + 1 + 1 + 1 + 1 + 1⟩, q + 1 + 1 + 1 + 1 + 1 + 1 + 1 + 1 + 1 + 1 + 1 + 1 + 1 + 1⟩, q + 1 + 1 + 1 + 1 + 1 + 1 + 1 + 1 + 1 + 1 + 1 + 1 + 1 + 1 + 1⟩
end Go.Proofs.Ytnfodkhfoegnaaa
