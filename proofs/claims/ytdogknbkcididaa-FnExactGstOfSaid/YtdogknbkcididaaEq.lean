/- Go's == on the plain struct types, as one Bool. -/
import Derived.Test.YtdogknbkcididaaTypes
namespace Go.Proofs.Ytdogknbkcididaa
open Go.RowKit

def eqWlk (x y : Wlk) : Bool := (x.id == y.id) && (x.at_ == y.at_) && (x.coins == y.coins) && (x.seq == y.seq) && (x.last == y.last)
theorem eqWlk_iff {x y : Wlk} : eqWlk x y = true ↔ x = y := by
  cases x; cases y; simp [eqWlk, and_assoc]
theorem run_eq_Wlk (d : Nat) (w : World) (a0 a1 a2 a3 a4 b0 b1 b2 b3 b4 : Int) : (Op.equalIn (d + 2) 65 (.agg #[.int .i64 a0, .int .i64 a1, .int .i64 a2, .int .i64 a3, .int .i64 a4]) (.agg #[.int .i64 b0, .int .i64 b1, .int .i64 b2, .int .i64 b3, .int .i64 b4])).run Try.prog w = .ok ((a0 == b0) && ((a1 == b1) && ((a2 == b2) && ((a3 == b3) && ((a4 == b4)))))) w := by
  go_simp
  (repeat' split) <;> simp_all
attribute [go_sem high] run_eq_Wlk

def eqOrd (x y : Ord) : Bool := (x.who == y.who) && (x.seq == y.seq) && (x.kind == y.kind) && (x.to_ == y.to_) && (x.n == y.n)
theorem eqOrd_iff {x y : Ord} : eqOrd x y = true ↔ x = y := by
  cases x; cases y; simp [eqOrd, and_assoc]
def eqPcl (x y : Pcl) : Bool := (x.n == y.n) && (x.kind == y.kind) && eqWlk x.wk y.wk && (x.coins == y.coins)
theorem eqPcl_iff {x y : Pcl} : eqPcl x y = true ↔ x = y := by
  cases x; cases y; simp [eqPcl, eqWlk_iff, and_assoc]
theorem run_eq_Pcl (d : Nat) (w : World) (a0 a1 a2 a3 a4 a5 a6 a7 b0 b1 b2 b3 b4 b5 b6 b7 : Int) : (Op.equalIn (d + 3) 118 (.agg #[.int .i64 a0, .int .i64 a1, .int .i64 a2, .int .i64 a3, .int .i64 a4, .int .i64 a5, .int .i64 a6, .int .i64 a7]) (.agg #[.int .i64 b0, .int .i64 b1, .int .i64 b2, .int .i64 b3, .int .i64 b4, .int .i64 b5, .int .i64 b6, .int .i64 b7])).run Try.prog w = .ok ((a0 == b0) && ((a1 == b1) && (((a2 == b2) && ((a3 == b3) && ((a4 == b4) && ((a5 == b5) && ((a6 == b6)))))) && ((a7 == b7))))) w := by
  go_simp
  (repeat' split) <;> simp_all
attribute [go_sem high] run_eq_Pcl

def eqGst (x y : Gst) : Bool := (x.src == y.src) && (x.count == y.count) && eqWlk x.wk y.wk
theorem eqGst_iff {x y : Gst} : eqGst x y = true ↔ x = y := by
  cases x; cases y; simp [eqGst, eqWlk_iff, and_assoc]
theorem run_eq_Gst (d : Nat) (w : World) (a0 a1 a2 a3 a4 a5 a6 b0 b1 b2 b3 b4 b5 b6 : Int) : (Op.equalIn (d + 3) 68 (.agg #[.int .i64 a0, .int .i64 a1, .int .i64 a2, .int .i64 a3, .int .i64 a4, .int .i64 a5, .int .i64 a6]) (.agg #[.int .i64 b0, .int .i64 b1, .int .i64 b2, .int .i64 b3, .int .i64 b4, .int .i64 b5, .int .i64 b6])).run Try.prog w = .ok ((a0 == b0) && ((a1 == b1) && (((a2 == b2) && ((a3 == b3) && ((a4 == b4) && ((a5 == b5) && ((a6 == b6))))))))) w := by
  go_simp
  (repeat' split) <;> simp_all
attribute [go_sem high] run_eq_Gst

def eqMsg (x y : Msg) : Bool := (x.kind == y.kind) && (x.to_ == y.to_) && (x.cell == y.cell) && (x.side == y.side) && (x.n == y.n) && eqOrd x.ord y.ord && eqPcl x.pcl y.pcl && eqGst x.gst y.gst
theorem eqMsg_iff {x y : Msg} : eqMsg x y = true ↔ x = y := by
  cases x; cases y; simp [eqMsg, eqOrd_iff, eqPcl_iff, eqGst_iff, and_assoc]
def eqRec (x y : Rec) : Bool := (x.kind == y.kind) && eqOrd x.ord y.ord && (x.side == y.side) && eqPcl x.pcl y.pcl && (x.n == y.n)
theorem eqRec_iff {x y : Rec} : eqRec x y = true ↔ x = y := by
  cases x; cases y; simp [eqRec, eqOrd_iff, eqPcl_iff, and_assoc]
end Go.Proofs.Ytdogknbkcididaa
