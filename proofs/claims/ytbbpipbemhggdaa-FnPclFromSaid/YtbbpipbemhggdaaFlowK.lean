/- Claims of a region's operations: what they make. -/
import Derived.Test.YtbbpipbemhggdaaFlowB
import Derived.Test.YtbbpipbemhggdaaSegN
import Derived.Test.YtbbpipbemhggdaaRow
namespace Go.Proofs.Ytbbpipbemhggdaa
open Go.RowKit
set_option linter.unusedSimpArgs false
set_option linter.unusedVariables false

def MkS (n : Nat) (e : Sch) (d : Dat) (v : Value) (lo hi : Nat) (w : World) : Prop := ∃ a c, v = .slice a n c ∧ OwnR lo hi w (.sl e) [.slice a n c] d
theorem MkS.ext {n : Nat} {e : Sch} {d : Dat} {v : Value} {lo hi : Nat} {w w' : World} (h : MkS n e d v lo hi w) (hE : Ext w w') : MkS n e d v lo hi w' := by
  obtain ⟨a, c, h1, h2⟩ := h; exact ⟨a, c, h1, h2.of hE⟩
def MkA (arr : Array Value) (T : TypeId) (v : Value) (lo hi : Nat) (w : World) : Prop := ∃ b, v = .pointer (some ⟨b, 0, none⟩) ∧ lo ≤ b ∧ b < hi ∧ w.heap[b]? = some (.cells arr T (0, 0))
theorem MkA.ext {arr : Array Value} {T : TypeId} {v : Value} {lo hi : Nat} {w w' : World} (h : MkA arr T v lo hi w) (hE : Ext w w') : MkA arr T v lo hi w' := by
  obtain ⟨b, h1, h2, h3, h4⟩ := h; exact ⟨b, h1, h2, h3, (hE.block (lt_blk h4)).trans h4⟩
def MkE (v : Value) : Prop := ∃ g, v = .slice (some ⟨g, 0, none⟩) 0 0
theorem heap_new {X : World} {o : Obj} {b : Nat} (h : b = X.heap.size) : (X.alloc o).heap[b]? = some o := by subst h; exact heap_alloc_new _ _
theorem chg_left {B : List Nat} {Y X : World} (h : Chg B Y X) : ∃ Y', Y' = Y ∧ Chg B Y' X := ⟨Y, rfl, h⟩
theorem chg_one {Y X : World} {b o : Nat} {v : Value} (h : X = Y.setCell ⟨b, o, none⟩ v) : Chg [b] Y X := by rw [h]; exact Chg.set (Chg.refl _ _) (by simp) _
theorem flow_K {P : Program} {o : Oper} {a : Act} {w : World} {Post : Act → World → Prop} {Q : Exit → Act → World → Prop} (h : ∀ K : Act → World → Prop, (∀ a' w', Post a' w' → K a' w') → o.wp P a w K Q) : o.wp P a w Post Q := h Post fun _ _ h => h

def MkX {α : Type} (T : TypeId) (k : Nat) (cells : α → List Value) (xs : List α) (v : Value) (lo hi : Nat) (w : World) : Prop := ∃ a c B, v = .slice a xs.length c ∧ RowX w T k cells (.slice a xs.length c) xs B ∧ ∀ b ∈ B, lo ≤ b ∧ b < hi
theorem MkX.ext {α : Type} {T : TypeId} {k : Nat} {cells : α → List Value} {xs : List α} {v : Value} {lo hi : Nat} {w w' : World} (h : MkX T k cells xs v lo hi w) (hE : Ext w w') : MkX T k cells xs v lo hi w' := by
  obtain ⟨a, c, B, h1, h2, h3⟩ := h; exact ⟨a, c, B, h1, h2.of hE, h3⟩
def MkB (arr : Array Value) (T : TypeId) (n : Nat) (v : Value) (lo hi : Nat) (w : World) : Prop := ∃ b, v = .slice (some ⟨b, 0, none⟩) n n ∧ lo ≤ b ∧ b < hi ∧ w.heap[b]? = some (.cells arr T (0, 0))
theorem MkB.ext {arr : Array Value} {T : TypeId} {n : Nat} {v : Value} {lo hi : Nat} {w w' : World} (h : MkB arr T n v lo hi w) (hE : Ext w w') : MkB arr T n v lo hi w' := by
  obtain ⟨b, h1, h2, h3, h4⟩ := h; exact ⟨b, h1, h2, h3, (hE.block (lt_blk h4)).trans h4⟩
end Go.Proofs.Ytbbpipbemhggdaa
