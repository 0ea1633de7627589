/- The laws' helpers at GwyBook. -/
import Derived.Test.YtcfbfpgcfnpdgaaSt
import Derived.Test.YtcfbfpgcfnpdgaaTRow
namespace Go.Proofs.Ytcfbfpgcfnpdgaa
open Go.RowKit

def sGwy : Sch := .st [.sl sRow]
def gwyDat  (xs0 : List Row) : Dat := .s [.l (xs0.map Row.dat)]
def MadeGwy (w : World)  (n0 : Nat) (xs0 : List Row) (e : Ending) (w' : World) : Prop :=
  ∃ a0 c0, e = .returned (.agg #[.slice a0 n0 c0]) ∧ Ext w w' ∧ OwnR w.heap.size w'.heap.size w' sGwy [.slice a0 n0 c0] (gwyDat xs0)

theorem re_Gwy {w : World} {a0 : Option Addr} {n0 c0 : Nat} {xs0 : List Row}  (h : Re w sGwy [.slice a0 n0 c0] (gwyDat xs0)) : Re w (.sl sRow) [.slice a0 n0 c0] (.l (xs0.map Row.dat)) := by
  unfold Re sGwy gwyDat Rd at h
  obtain ⟨ds, hd, h⟩ := h
  simp only [Dat.s.injEq] at hd
  subst hd
  unfold RdL at h; obtain ⟨v1, v2, d1, d2, e1, e2, g0, h⟩ := h
  simp only [List.cons.injEq] at e2
  obtain ⟨rfl, rfl⟩ := e2
  obtain ⟨_, _, rfl⟩ := Re.slice g0
  simp only [List.singleton_append, List.cons.injEq] at e1
  obtain ⟨e1, rfl⟩ := e1
  rw [← e1] at g0
  exact g0

theorem open_Gwy {w : World} {vs : List Value} {d : Dat} (h : Rd w.heap.size w sGwy vs d) : ∃  (a0 : Option Addr) (n0 c0 : Nat) (xs0 : List Row), vs = [.slice a0 n0 c0] ∧ Re w (.sl sRow) [.slice a0 n0 c0] (.l (xs0.map Row.dat)) := by
  unfold sGwy Rd at h
  obtain ⟨ds, hd, h⟩ := h
  subst hd
  unfold RdL at h; obtain ⟨v1, v2, d1, d2, rfl, rfl, g0, h⟩ := h
  obtain ⟨a0, c0, xs0, rfl, rfl, _⟩ := rdS_Row g0
  unfold RdL at h; obtain ⟨rfl, rfl⟩ := h
  exact ⟨a0, _, c0, xs0, rfl, g0⟩




def gwyMarks  (n0 : Nat) (q : Int) : Dat := gwyDat (marksOf Row.mk' 10 (q) n0)



end Go.Proofs.Ytcfbfpgcfnpdgaa
