/- Ghosts and records that are ok. -/
import Derived.Test.YtnfodkhfoegnaaaTo
import Derived.Test.YtnfodkhfoegnaaaGstO
namespace Go.Proofs.Ytnfodkhfoegnaaa
open Go.RowKit

def ordZero (o : Ord) : Bool := (o.who == 0) && (o.seq == 0) && (o.kind == 0) && (o.to_ == 0) && (o.n == 0)
def pclZero (p : Pcl) : Bool := (p.n == 0) && (p.kind == 0) && wlkZero p.wk && (p.coins == 0)
def gstZero (g : Gst) : Bool := (g.src == 0) && (g.count == 0) && wlkZero g.wk
def recFormed (r : Rec) : Bool :=
  if r.kind = 1 then ordOk r.ord && (r.side == 0) && pclZero r.pcl && (r.n == 0)
  else if r.kind = 2 then inB r.side 0 1 && ordZero r.ord && (r.n == 0)
  else if r.kind = 3 then inB r.side 0 1 && inB r.n 1 5000 && ordZero r.ord && pclZero r.pcl
  else false
def logOk (m : Mp) (r : Rec) : Bool := plcOk m && recFormed r && ((r.kind != 2) || pclOk m r.pcl)

end Go.Proofs.Ytnfodkhfoegnaaa
