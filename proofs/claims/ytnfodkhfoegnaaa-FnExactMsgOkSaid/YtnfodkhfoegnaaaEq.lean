/- Go's == on the plain struct types, as one Bool. -/
import Derived.Test.YtnfodkhfoegnaaaTypes
namespace Go.Proofs.Ytnfodkhfoegnaaa
open Go.RowKit

def eqWlk (x y : Wlk) : Bool := (x.id == y.id) && (x.at_ == y.at_) && (x.coins == y.coins) && (x.seq == y.seq) && (x.last == y.last)
theorem eqWlk_iff {x y : Wlk} : eqWlk x y = true ↔ x = y := by
  cases x; cases y; simp [eqWlk, and_assoc]
theorem run_eq_Wlk (d : Nat) (w : World) (a0 a1 a2 a3 a4 b0 b1 b2 b3 b4 : Int) : (Op.equalIn (d + 2) 38 (.agg #[.int .i64 a0, .int .i64 a1, .int .i64 a2, .int .i64 a3, .int .i64 a4]) (.agg #[.int .i64 b0, .int .i64 b1, .int .i64 b2, .int .i64 b3, .int .i64 b4])).run Try.prog w = .ok ((a0 == b0) && ((a1 == b1) && ((a2 == b2) && ((a3 == b3) && ((a4 == b4)))))) w := by
  go_simp
  (repeat' split) <;> simp_all
attribute [go_sem high] run_eq_Wlk

def eqOrd (x y : Ord) : Bool := (x.who == y.who) && (x.seq == y.seq) && (x.kind == y.kind) && (x.to_ == y.to_) && (x.n == y.n)
theorem eqOrd_iff {x y : Ord} : eqOrd x y = true ↔ x = y := by
  cases x; cases y; simp [eqOrd, and_assoc]
theorem run_eq_Ord (d : Nat) (w : World) (a0 a1 a2 a3 a4 b0 b1 b2 b3 b4 : Int) : (Op.equalIn (d + 2) 37 (.agg #[.int .i64 a0, .int .i64 a1, .int .i64 a2, .int .i64 a3, .int .i64 a4]) (.agg #[.int .i64 b0, .int .i64 b1, .int .i64 b2, .int .i64 b3, .int .i64 b4])).run Try.prog w = .ok ((a0 == b0) && ((a1 == b1) && ((a2 == b2) && ((a3 == b3) && ((a4 == b4)))))) w := by
  go_simp
  (repeat' split) <;> simp_all
attribute [go_sem high] run_eq_Ord

def eqPcl (x y : Pcl) : Bool := (x.n == y.n) && (x.kind == y.kind) && eqWlk x.wk y.wk && (x.coins == y.coins)
theorem eqPcl_iff {x y : Pcl} : eqPcl x y = true ↔ x = y := by
  cases x; cases y; simp [eqPcl, eqWlk_iff, and_assoc]
theorem run_eq_Pcl (d : Nat) (w : World) (a0 a1 a2 a3 a4 a5 a6 a7 b0 b1 b2 b3 b4 b5 b6 b7 : Int) : (Op.equalIn (d + 3) 40 (.agg #[.int .i64 a0, .int .i64 a1, .int .i64 a2, .int .i64 a3, .int .i64 a4, .int .i64 a5, .int .i64 a6, .int .i64 a7]) (.agg #[.int .i64 b0, .int .i64 b1, .int .i64 b2, .int .i64 b3, .int .i64 b4, .int .i64 b5, .int .i64 b6, .int .i64 b7])).run Try.prog w = .ok ((a0 == b0) && ((a1 == b1) && (((a2 == b2) && ((a3 == b3) && ((a4 == b4) && ((a5 == b5) && ((a6 == b6)))))) && ((a7 == b7))))) w := by
  go_simp
  (repeat' split) <;> simp_all
attribute [go_sem high] run_eq_Pcl

def eqGst (x y : Gst) : Bool := (x.src == y.src) && (x.count == y.count) && eqWlk x.wk y.wk
theorem eqGst_iff {x y : Gst} : eqGst x y = true ↔ x = y := by
  cases x; cases y; simp [eqGst, eqWlk_iff, and_assoc]
theorem run_eq_Gst (d : Nat) (w : World) (a0 a1 a2 a3 a4 a5 a6 b0 b1 b2 b3 b4 b5 b6 : Int) : (Op.equalIn (d + 3) 42 (.agg #[.int .i64 a0, .int .i64 a1, .int .i64 a2, .int .i64 a3, .int .i64 a4, .int .i64 a5, .int .i64 a6]) (.agg #[.int .i64 b0, .int .i64 b1, .int .i64 b2, .int .i64 b3, .int .i64 b4, .int .i64 b5, .int .i64 b6])).run Try.prog w = .ok ((a0 == b0) && ((a1 == b1) && (((a2 == b2) && ((a3 == b3) && ((a4 == b4) && ((a5 == b5) && ((a6 == b6))))))))) w := by
  go_simp
  (repeat' split) <;> simp_all
attribute [go_sem high] run_eq_Gst

def eqMsg (x y : Msg) : Bool := (x.kind == y.kind) && (x.to_ == y.to_) && (x.cell == y.cell) && (x.side == y.side) && (x.n == y.n) && eqOrd x.ord y.ord && eqPcl x.pcl y.pcl && eqGst x.gst y.gst
theorem eqMsg_iff {x y : Msg} : eqMsg x y = true ↔ x = y := by
  cases x; cases y; simp [eqMsg, eqOrd_iff, eqPcl_iff, eqGst_iff, and_assoc]
theorem run_eq_Msg (d : Nat) (w : World) (a0 a1 a2 a3 a4 a5 a6 a7 a8 a9 a10 a11 a12 a13 a14 a15 a16 a17 a18 a19 a20 a21 a22 a23 a24 b0 b1 b2 b3 b4 b5 b6 b7 b8 b9 b10 b11 b12 b13 b14 b15 b16 b17 b18 b19 b20 b21 b22 b23 b24 : Int) : (Op.equalIn (d + 4) 44 (.agg #[.int .i64 a0, .int .i64 a1, .int .i64 a2, .int .i64 a3, .int .i64 a4, .int .i64 a5, .int .i64 a6, .int .i64 a7, .int .i64 a8, .int .i64 a9, .int .i64 a10, .int .i64 a11, .int .i64 a12, .int .i64 a13, .int .i64 a14, .int .i64 a15, .int .i64 a16, .int .i64 a17, .int .i64 a18, .int .i64 a19, .int .i64 a20, .int .i64 a21, .int .i64 a22, .int .i64 a23, .int .i64 a24]) (.agg #[.int .i64 b0, .int .i64 b1, .int .i64 b2, .int .i64 b3, .int .i64 b4, .int .i64 b5, .int .i64 b6, .int .i64 b7, .int .i64 b8, .int .i64 b9, .int .i64 b10, .int .i64 b11, .int .i64 b12, .int .i64 b13, .int .i64 b14, .int .i64 b15, .int .i64 b16, .int .i64 b17, .int .i64 b18, .int .i64 b19, .int .i64 b20, .int .i64 b21, .int .i64 b22, .int .i64 b23, .int .i64 b24])).run Try.prog w = .ok ((a0 == b0) && ((a1 == b1) && ((a2 == b2) && ((a3 == b3) && ((a4 == b4) && (((a5 == b5) && ((a6 == b6) && ((a7 == b7) && ((a8 == b8) && ((a9 == b9)))))) && (((a10 == b10) && ((a11 == b11) && (((a12 == b12) && ((a13 == b13) && ((a14 == b14) && ((a15 == b15) && ((a16 == b16)))))) && ((a17 == b17))))) && (((a18 == b18) && ((a19 == b19) && (((a20 == b20) && ((a21 == b21) && ((a22 == b22) && ((a23 == b23) && ((a24 == b24))))))))))))))))) w := by
  go_simp
  (repeat' split) <;> simp_all
attribute [go_sem high] run_eq_Msg

def eqRec (x y : Rec) : Bool := (x.kind == y.kind) && eqOrd x.ord y.ord && (x.side == y.side) && eqPcl x.pcl y.pcl && (x.n == y.n)
theorem eqRec_iff {x y : Rec} : eqRec x y = true ↔ x = y := by
  cases x; cases y; simp [eqRec, eqOrd_iff, eqPcl_iff, and_assoc]
end Go.Proofs.Ytnfodkhfoegnaaa
