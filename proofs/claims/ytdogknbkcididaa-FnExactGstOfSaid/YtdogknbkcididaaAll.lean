/- All elements of a list, with their places. -/
import Derived.Test.YtdogknbkcididaaMem
namespace Go.Proofs.Ytdogknbkcididaa

/-- All elements, with their places, pass. -/
def allI {α : Type} (p : Nat → α → Bool) : Nat → List α → Bool
  | _, [] => true
  | i, x :: r => p i x && allI p (i + 1) r
theorem allI_snoc {α : Type} (p : Nat → α → Bool) : ∀ (i : Nat) (l : List α) (x : α), allI p i (l ++ [x]) = (allI p i l && p (i + l.length) x)
  | i, [], x => by simp [allI]
  | i, y :: l, x => by simp [allI, allI_snoc p (i + 1) l x, Bool.and_assoc, Nat.add_comm l.length 1, ← Nat.add_assoc]
theorem take_snoc_of {α : Type} {xs : List α} {k : Nat} {x : α} (h : xs[k]? = some x) : xs.take (k + 1) = xs.take k ++ [x] := by
  rw [List.take_add_one, h]; rfl
theorem lt_of_get {α : Type} {xs : List α} {k : Nat} {x : α} (h : xs[k]? = some x) : k < xs.length := (List.getElem?_eq_some_iff.1 h).1
theorem allI_step {α : Type} {p : Nat → α → Bool} {xs : List α} {k : Nat} {x : α} (h : xs[k]? = some x) (h1 : allI p 0 (xs.take k) = true) (h2 : p k x = true) : allI p 0 (xs.take (k + 1)) = true := by
  have := lt_of_get h
  rw [take_snoc_of h, allI_snoc, h1]
  simp [List.length_take, Nat.min_eq_left (Nat.le_of_lt this), h2]
theorem allI_append {α : Type} (p : Nat → α → Bool) : ∀ (i : Nat) (l r : List α), allI p i (l ++ r) = (allI p i l && allI p (i + l.length) r)
  | i, [], r => by simp [allI]
  | i, y :: l, r => by simp [allI, allI_append p (i + 1) l r, Bool.and_assoc, Nat.add_comm l.length 1, ← Nat.add_assoc]
theorem allI_fail {α : Type} {p : Nat → α → Bool} {xs : List α} {k : Nat} {x : α} (h : xs[k]? = some x) (h2 : p k x = false) : allI p 0 xs = false := by
  have hk := lt_of_get h
  rw [← List.take_append_drop (k + 1) xs, allI_append, take_snoc_of h, allI_snoc]
  simp [List.length_take, Nat.min_eq_left (Nat.le_of_lt hk), h2]
theorem allI_all {α : Type} {p : Nat → α → Bool} {xs : List α} {k : Nat} (hk : xs.length ≤ k) (h1 : allI p 0 (xs.take k) = true) : allI p 0 xs = true := by
  rw [List.take_of_length_le hk] at h1; exact h1
theorem allI_iff {α : Type} {p : Nat → α → Bool} : ∀ {i : Nat} {xs : List α}, allI p i xs = true ↔ ∀ k x, xs[k]? = some x → p (i + k) x = true
  | i, [] => by simp [allI]
  | i, y :: l => by
    simp only [allI, Bool.and_eq_true, allI_iff (i := i + 1) (xs := l)]
    constructor
    · rintro ⟨h0, h1⟩ k x hx
      cases k with
      | zero => simp at hx; subst hx; exact h0
      | succ k => have := h1 k x (by simpa using hx); rwa [show i + (k + 1) = i + 1 + k by omega]
    · intro h
      refine ⟨h 0 y rfl, fun k x hx => ?_⟩
      have := h (k + 1) x (by simpa using hx)
      rwa [show i + (k + 1) = i + 1 + k by omega] at this
end Go.Proofs.Ytdogknbkcididaa
