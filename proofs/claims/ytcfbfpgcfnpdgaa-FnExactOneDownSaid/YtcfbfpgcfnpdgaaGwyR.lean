/- The gateway's book that is ok: its rows are, and they stand in the order of their walkers. -/
import Derived.Test.YtcfbfpgcfnpdgaaTGwy
import Derived.Test.YtcfbfpgcfnpdgaaWlkL
namespace Go.Proofs.Ytcfbfpgcfnpdgaa
open Go.RowKit
set_option linter.unusedSimpArgs false
set_option linter.unusedVariables false

def ordZ (o : Ord) : Bool := (o.who == 0) && ((o.seq == 0) && ((o.kind == 0) && ((o.to_ == 0) && (o.n == 0))))
theorem bne_of_f {a b : Int} (h : (a == b) = false) : (a != b) = true := by simp [bne, h]
theorem bne_of_t {a b : Int} (h : (a == b) = true) : (a != b) = false := by simp [bne, h]
def rowNum (m : Mp) (x : Row) : Bool := inB x.who 1 9 && inB x.cell 0 (wrap64 (m.c - 1)) && inB x.seq 0 900 && inB x.code 0 9
def rowOrd (x : Row) : Bool := if x.busy then ordOk x.ord && (x.ord.who == x.who) && (x.ord.seq == x.seq + 1) else ordZ x.ord
def gwyRow (m : Mp) (x : Row) : Bool := rowNum m x && rowOrd x
def gwyAt (m : Mp) (xs : List Row) (i : Nat) (x : Row) : Bool := gwyRow m x && ordAt Row.who xs i x
def gwyAll (m : Mp) (xs : List Row) : Bool := allI (gwyAt m xs) 0 xs
def gwyOk (m : Mp) (xs : List Row) : Bool := gwyAll m xs && plcOk m

end Go.Proofs.Ytcfbfpgcfnpdgaa
