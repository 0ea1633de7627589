/- Drawn walkers: what is known of them; the block that a draw builds its result in. -/
import Derived.Test.YtbbpipbemhggdaaDrawA
import Derived.Test.YtbbpipbemhggdaaFlowD
import Derived.Test.YtbbpipbemhggdaaFlowK
namespace Go.Proofs.Ytbbpipbemhggdaa
open Go.RowKit
set_option linter.unusedSimpArgs false
set_option linter.unusedVariables false

def WlkIn (x : Wlk) : Prop := (-1 ≤ x.id ∧ x.id ≤ 901) ∧ (-1 ≤ x.at_ ∧ x.at_ ≤ 901) ∧ (-1 ≤ x.coins ∧ x.coins ≤ 901) ∧ (-1 ≤ x.seq ∧ x.seq ≤ 901) ∧ (-1 ≤ x.last ∧ x.last ≤ 901)
def InW (v : Value) : Prop := ∃ x : Wlk, v = .agg #[.int .i64 x.id, .int .i64 x.at_, .int .i64 x.coins, .int .i64 x.seq, .int .i64 x.last] ∧ WlkIn x
def WlkB (R : Nat) (w : World) : Prop := ∃ x : Wlk, w.heap[R]? = some (.cells #[.int .i64 x.id, .int .i64 x.at_, .int .i64 x.coins, .int .i64 x.seq, .int .i64 x.last] 52 (0, 0))
def WlkAt (R : Nat) (w : World) : Prop := ∃ x : Wlk, w.heap[R]? = some (.cells #[.int .i64 x.id, .int .i64 x.at_, .int .i64 x.coins, .int .i64 x.seq, .int .i64 x.last] 52 (0, 0)) ∧ WlkIn x
theorem WlkB.chg {R : Nat} {w w' : World} {B : List Nat} (h : WlkB R w) (hc : Chg B w w') (hR : R ∉ B) : WlkB R w' := by
  obtain ⟨x, h⟩ := h
  exact ⟨x, (hc.block R (lt_blk h) hR).trans h⟩
theorem WlkB.of {R : Nat} {w w' : World} (h : WlkB R w) (hE : Ext w w') : WlkB R w' := h.chg (Chg.of_ext hE []) (by simp)
theorem WlkB.drw {R : Nat} {w : World} (h : WlkB R w) : WlkB R w.drew := h
theorem WlkAt.chg {R : Nat} {w w' : World} {B : List Nat} (h : WlkAt R w) (hc : Chg B w w') (hR : R ∉ B) : WlkAt R w' := by
  obtain ⟨x, h, hx⟩ := h
  exact ⟨x, (hc.block R (lt_blk h) hR).trans h, hx⟩
/-- Blocks added, then p and newer ones changed: p alone has changed. -/
theorem Ext.chg' {w V W : World} {p R : Nat} (hE : Ext w V) (hc : Chg [p, R] V W) (hR : w.heap.size ≤ R) : Chg [p] w W := by
  have h := (Chg.of_ext hE [p, R]).trans hc
  exact ⟨h.os, h.tape, h.output, h.size, fun k hk hn => h.block k hk (by simp at hn ⊢; omega)⟩
theorem wlk_store {w : World} {R : Nat} {x0 x : Wlk} (h : w.heap[R]? = some (.cells #[.int .i64 x0.id, .int .i64 x0.at_, .int .i64 x0.coins, .int .i64 x0.seq, .int .i64 x0.last] 52 (0, 0))) :
    (((((w.setCell ⟨R, 0, none⟩ (.int .i64 x.id)).setCell ⟨R, 1, none⟩ (.int .i64 x.at_)).setCell ⟨R, 2, none⟩ (.int .i64 x.coins)).setCell ⟨R, 3, none⟩ (.int .i64 x.seq)).setCell ⟨R, 4, none⟩ (.int .i64 x.last)).heap[R]? = some (.cells #[.int .i64 x.id, .int .i64 x.at_, .int .i64 x.coins, .int .i64 x.seq, .int .i64 x.last] 52 (0, 0)) := by
  refine Eq.trans (blk_set (blk_set (blk_set (blk_set (blk_set h))))) ?_
  simp only [List.setIfInBounds_toArray, List.set_cons_zero, List.set_cons_succ]
end Go.Proofs.Ytbbpipbemhggdaa
