/- Sums over lists. -/
import Derived.Test.YteepfcdjaakdfaaAll
namespace Go.Proofs.Yteepfcdjaakdfaa
open Go.RowKit

def sumBy {α : Type} (f : α → Int) (xs : List α) : Int := (xs.map f).sum
theorem sumBy_step {α : Type} (f : α → Int) {xs : List α} {k : Nat} {x : α} (h : xs[k]? = some x) : sumBy f (xs.take (k + 1)) = sumBy f (xs.take k) + f x := by
  rw [take_snoc_of h]; simp [sumBy]
theorem sumBy_all {α : Type} (f : α → Int) {xs : List α} {k : Nat} (h : xs.length ≤ k) : sumBy f (xs.take k) = sumBy f xs := by rw [List.take_of_length_le h]
theorem sumBy_le {α : Type} (f : α → Int) (B : Int) : ∀ (xs : List α), (∀ x ∈ xs, 0 ≤ f x ∧ f x ≤ B) → 0 ≤ sumBy f xs ∧ sumBy f xs ≤ xs.length * B
  | [], _ => by simp [sumBy]
  | x :: xs, h => by
    have h1 := sumBy_le f B xs (fun y hy => h y (List.mem_cons_of_mem _ hy))
    have h2 := h x List.mem_cons_self
    have e : sumBy f (x :: xs) = f x + sumBy f xs := by simp [sumBy]
    have e2 : ((xs.length + 1 : Nat) : Int) * B = xs.length * B + B := by rw [Int.natCast_add, Int.add_mul]; simp
    rw [e, List.length_cons, e2]
    omega
end Go.Proofs.Yteepfcdjaakdfaa
