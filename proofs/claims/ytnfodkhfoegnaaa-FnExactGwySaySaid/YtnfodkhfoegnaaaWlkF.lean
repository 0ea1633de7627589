/- Walkers in lists: the first with a number; all but those of a number. -/
import Derived.Test.YtnfodkhfoegnaaaTWlk
namespace Go.Proofs.Ytnfodkhfoegnaaa
open Go.RowKit

/-- The place of the first element that passes; -1 for none. -/
def idxFrom {α : Type} (p : α → Bool) : Nat → List α → Int
  | _, [] => -1
  | i, x :: r => if p x then (i : Int) else idxFrom p (i + 1) r
theorem idxFrom_hit {α : Type} {p : α → Bool} : ∀ {xs : List α} {i k : Nat} {x : α}, xs[k]? = some x → (∀ y ∈ xs.take k, p y = false) → p x = true → idxFrom p i xs = ((i + k : Nat) : Int)
  | y :: ys, i, 0, x, h, _, hp => by
    obtain rfl : y = x := by simpa using h
    simp [idxFrom, hp]
  | y :: ys, i, k + 1, x, h, ha, hp => by
    have h0 := ha y (by simp)
    simp only [idxFrom, h0, Bool.false_eq_true, if_false]
    rw [idxFrom_hit (i := i + 1) (k := k) (by simpa using h) (fun z hz => ha z (by simp [hz])) hp, show i + 1 + k = i + (k + 1) by omega]
theorem idxFrom_none {α : Type} {p : α → Bool} : ∀ {xs : List α} {i : Nat}, (∀ y ∈ xs, p y = false) → idxFrom p i xs = -1
  | [], _, _ => rfl
  | y :: ys, i, h => by
    simp only [idxFrom, h y (by simp), Bool.false_eq_true, if_false]
    exact idxFrom_none fun z hz => h z (by simp [hz])
theorem take_step {α : Type} {p : α → Bool} {xs : List α} {k : Nat} {x : α} (h : ∀ y ∈ xs.take k, p y = false) (hx : xs[k]? = some x) (hp : p x = false) : ∀ y ∈ xs.take (k + 1), p y = false := by
  rw [List.take_add_one, hx]
  intro y hy
  rcases List.mem_append.1 hy with h' | h'
  · exact h y h'
  · obtain rfl : y = x := by simpa using h'
    exact hp
theorem take_end {α : Type} {p : α → Bool} {xs : List α} {k : Nat} (h : ∀ y ∈ xs.take k, p y = false) (hk : xs.length ≤ k) : ∀ y ∈ xs, p y = false := by
  rwa [List.take_of_length_le hk] at h

def idIs (id : Int) (x : Wlk) : Bool := x.id == id
def wlkPlace (xs : List Wlk) (id : Int) : Int := idxFrom (idIs id) 0 xs
def wlkZ : Wlk := ⟨0, 0, 0, 0, 0⟩
/-- The first walker with a number. -/
def wlkGet (xs : List Wlk) (id : Int) : Wlk := (xs.find? (idIs id)).getD wlkZ
def wlkHas (xs : List Wlk) (id : Int) : Bool := (xs.find? (idIs id)).isSome
theorem find_hit {α : Type} {p : α → Bool} {xs : List α} {k : Nat} {x : α} (h : xs[k]? = some x) (ha : ∀ y ∈ xs.take k, p y = false) (hp : p x = true) : xs.find? p = some x := by
  have hk := (List.getElem?_eq_some_iff.1 h).1
  have e : xs = xs.take k ++ x :: xs.drop (k + 1) := by
    have := List.take_append_drop k xs
    rw [← (List.getElem?_eq_some_iff.1 h).2, ← List.drop_eq_getElem_cons hk]
    exact this.symm
  rw [e, List.find?_append, List.find?_eq_none.2 (fun y hy => by simp [ha y hy])]
  simp [hp]
theorem find_miss {α : Type} {p : α → Bool} {xs : List α} (h : ∀ y ∈ xs, p y = false) : xs.find? p = none := List.find?_eq_none.2 fun y hy => by simp [h y hy]

theorem place_lt {α : Type} {p : α → Bool} : ∀ {xs : List α} {i : Nat}, idxFrom p i xs = -1 ∧ (∀ y ∈ xs, p y = false) ∨ ∃ k x, idxFrom p i xs = ((i + k : Nat) : Int) ∧ xs[k]? = some x ∧ (∀ y ∈ xs.take k, p y = false) ∧ p x = true
  | [], _ => .inl ⟨rfl, by simp⟩
  | y :: ys, i => by
    cases hp : p y with
    | true => exact .inr ⟨0, y, by simp [idxFrom, hp], rfl, by simp, hp⟩
    | false =>
      rcases place_lt (p := p) (xs := ys) (i := i + 1) with ⟨h1, h2⟩ | ⟨k, x, h1, h2, h3, h4⟩
      · exact .inl ⟨by simp [idxFrom, hp, h1], by simp [hp]; simpa using h2⟩
      · refine .inr ⟨k + 1, x, by simp only [idxFrom, hp, Bool.false_eq_true, if_false, h1]; rw [show i + 1 + k = i + (k + 1) by omega], by simpa using h2, ?_, h4⟩
        intro z hz
        simp only [List.take_succ_cons, List.mem_cons] at hz
        rcases hz with rfl | hz
        · exact hp
        · exact h3 z hz

end Go.Proofs.Ytnfodkhfoegnaaa
