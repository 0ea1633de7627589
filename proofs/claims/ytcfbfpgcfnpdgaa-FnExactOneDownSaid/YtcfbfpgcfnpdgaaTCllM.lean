/- The law's marks in a cell: put, and looked for. -/
import Derived.Test.YtcfbfpgcfnpdgaaTCll
import Derived.Test.YtcfbfpgcfnpdgaaSSm
namespace Go.Proofs.Ytcfbfpgcfnpdgaa
open Go.RowKit
set_option linter.unusedSimpArgs false
set_option linter.unusedVariables false

theorem ownL_int_mk {w : World} {fs : List Sch} {vs : List Value} {ds : List Dat} {B : List Nat} {n : Int} (h : OwnL w fs vs ds B) : OwnL w (.int :: fs) (.int .i64 n :: vs) (.i n :: ds) B :=
  ownL_mk (s := .int) (v1 := [.int .i64 n]) (d1 := .i n) (B1 := []) (by unfold Own; exact ⟨⟨n, rfl, rfl⟩, rfl⟩) h
theorem ownL_sl_mk {w : World} {e : Sch} {fs : List Sch} {v : Value} {vs : List Value} {d : Dat} {ds : List Dat} {B1 B2 : List Nat} (h1 : Own w (.sl e) [v] d B1) (h2 : OwnL w fs vs ds B2) : OwnL w (.sl e :: fs) (v :: vs) (d :: ds) (B1 ++ B2) := ownL_mk h1 h2
def cllMarks (c : Cll) (q S : Int) : Cll where
  cell := c.cell
  wk := marksOf Wlk.mk' 5 q c.wk.length
  ground := c.ground
  outs := marks2 Pcl.mk' 8 (q + 5 * (c.wk.length : Int)) (c.outs.map List.length)
  next := marksOf imk 1 (q + 5 * (c.wk.length : Int) + S) c.next.length
  ins := marksOf imk 1 (q + 5 * (c.wk.length : Int) + S + (c.next.length : Int)) c.ins.length
theorem cllMarks_cells (c : Cll) (h : CllH) (q S : Int) : cllCells (cllMarks c q S) h = cllCells c h := by
  simp [cllCells, cllMarks, marksOf_length, marks2_length]


end Go.Proofs.Ytcfbfpgcfnpdgaa
