/- Ghosts that are ok. -/
import Derived.Test.YtdogknbkcididaaOk2
namespace Go.Proofs.Ytdogknbkcididaa
open Go.RowKit

def gstOk (m : Mp) (g : Gst) : Bool := inB g.count 0 250 && wlkOk m g.wk && (plcCell m g.wk.at_ == g.src) && (plcEdge m g.wk.at_ 0 || plcEdge m g.wk.at_ 1)
end Go.Proofs.Ytdogknbkcididaa
