/- Lists of walkers that are ok: each is, and they stand in the order of their numbers. -/
import Derived.Test.YtnfodkhfoegnaaaTWlk
import Derived.Test.YtnfodkhfoegnaaaAll
import Derived.Test.YtnfodkhfoegnaaaOk
namespace Go.Proofs.Ytnfodkhfoegnaaa
open Go.RowKit

/-- The element stands behind the one ahead of it. -/
def ordAt {α : Type} (key : α → Int) (xs : List α) (i : Nat) (x : α) : Bool := (i == 0) || decide (((xs[i - 1]?).map key).getD 0 < key x)
theorem ordAt_zero {α : Type} (key : α → Int) (xs : List α) (x : α) : ordAt key xs 0 x = true := rfl
theorem ordAt_succ {α : Type} {key : α → Int} {xs : List α} {j : Nat} {y : α} (h : xs[j]? = some y) (x : α) : ordAt key xs (j + 1) x = decide (key y < key x) := by
  simp [ordAt, h]
theorem ordAt_pos {α : Type} {key : α → Int} {xs : List α} {k j : Nat} {y : α} (e : k = j + 1) (h : xs[j]? = some y) (x : α) : ordAt key xs k x = decide (key y < key x) := by subst e; exact ordAt_succ h x
theorem ordAt_nul {α : Type} {key : α → Int} {xs : List α} {k : Nat} (e : k = 0) (x : α) : ordAt key xs k x = true := by subst e; rfl
def wlkAt (m : Mp) (xs : List Wlk) (i : Nat) (x : Wlk) : Bool := wlkOk m x && ordAt Wlk.id xs i x
def wlkAll (m : Mp) (xs : List Wlk) : Bool := allI (wlkAt m xs) 0 xs

end Go.Proofs.Ytnfodkhfoegnaaa
