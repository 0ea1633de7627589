/- Plain law: what it says that a list of walkers, or a cell, is ok; a new cell is ok. -/
import Derived.Test.YtfmgjhlcedlgpaaCllN
namespace Go.Proofs.Ytfmgjhlcedlgpaa
open Go.RowKit
set_option linter.unusedSimpArgs false
set_option linter.unusedVariables false

theorem adj_pairwise {α : Type} {r : α → α → Prop} (ht : ∀ a b c, r a b → r b c → r a c) {xs : List α} (h : ∀ (i : Nat) (x y : α), xs[i]? = some x → xs[i + 1]? = some y → r x y) : xs.Pairwise r := by
  rw [List.pairwise_iff_getElem]
  intro i j hi hj hij
  obtain ⟨d, rfl⟩ : ∃ d, j = i + 1 + d := ⟨j - i - 1, by omega⟩
  induction d with
  | zero => exact h i _ _ (List.getElem?_eq_getElem hi) (List.getElem?_eq_getElem hj)
  | succ d ih => exact ht _ _ _ (ih (by omega) (by omega)) (h (i + 1 + d) _ _ (List.getElem?_eq_getElem (by omega)) (List.getElem?_eq_getElem hj))
def Asc (xs : List Wlk) : Prop := xs.Pairwise (fun a b => a.id < b.id)
theorem wlkAll_iff {m : Mp} {xs : List Wlk} : wlkAll m xs = true ↔ (∀ x ∈ xs, wlkOk m x = true) ∧ Asc xs := by
  unfold wlkAll
  rw [allI_iff]
  constructor
  · intro h
    refine ⟨fun x hx => ?_, adj_pairwise (r := fun a b : Wlk => a.id < b.id) (fun a b c h1 h2 => Int.lt_trans h1 h2) fun i x y hx hy => ?_⟩
    · obtain ⟨k, hk⟩ := List.getElem?_of_mem hx
      have := h k x hk
      simp only [wlkAt, Bool.and_eq_true] at this
      exact this.1
    · have := h (i + 1) y hy
      simp only [wlkAt, Bool.and_eq_true, Nat.zero_add] at this
      rw [ordAt_succ hx] at this
      simpa using this.2
  · rintro ⟨h1, h2⟩ k x hx
    simp only [wlkAt, Bool.and_eq_true, Nat.zero_add]
    refine ⟨h1 x (List.mem_of_getElem? hx), ?_⟩
    cases k with
    | zero => rfl
    | succ k =>
      obtain ⟨y, hy⟩ : ∃ y, xs[k]? = some y := ⟨_, List.getElem?_eq_getElem (by have := (List.getElem?_eq_some_iff.1 hx).1; omega)⟩
      rw [ordAt_succ hy, decide_eq_true_eq]
      obtain ⟨hk, rfl⟩ := List.getElem?_eq_some_iff.1 hx
      obtain ⟨hk', rfl⟩ := List.getElem?_eq_some_iff.1 hy
      exact List.pairwise_iff_getElem.1 h2 k (k + 1) hk' hk (by omega)
theorem home_iff {m : Mp} {c : Int} {xs : List Wlk} : allI (inCell m c) 0 xs = true ↔ ∀ x ∈ xs, plcCell m x.at_ = c := by
  rw [allI_iff]
  constructor
  · intro h x hx
    obtain ⟨k, hk⟩ := List.getElem?_of_mem hx
    simpa [inCell] using h k x hk
  · intro h k x hx
    simpa [inCell] using h x (List.mem_of_getElem? hx)
theorem cllNew_ok {m : Mp} {cell : Int} {xs : List Wlk} (h : newOk m cell xs = true) : cllOk m (cllNew m cell xs) = true := by
  have e : cllNew m cell xs = ⟨cell, xs.filter (homeIn m cell), 0, [[], []], [0, 0], [0, 0]⟩ := by rw [cllNew, h]; rfl
  simp only [newOk, Bool.and_eq_true] at h
  obtain ⟨⟨h1, h2⟩, h3⟩ := h
  obtain ⟨g1, g2⟩ := wlkAll_iff.1 h1
  rw [e]
  refine cllOk_true (cllHead_iff.2 ⟨h2, h3, wlkAll_iff.2 ⟨fun x hx => g1 x (List.mem_filter.1 hx).1, List.Pairwise.filter _ g2⟩, rfl, rfl, rfl, rfl⟩) ?_ fun j hj => ?_
  · refine home_iff.2 fun x hx => ?_
    simpa [homeIn] using (List.mem_filter.1 hx).2
  · match j, hj with
    | 0, _ => rw [sideAt_eq (o := []) (n := 0) (i := 0) rfl rfl rfl]; simp [sideOk, pclListOk, h2, inB, allI]
    | 1, _ => rw [sideAt_eq (o := []) (n := 0) (i := 0) rfl rfl rfl]; simp [sideOk, pclListOk, h2, inB, allI]
theorem cllZ_no (m : Mp) : cllOk m cllZ = false := cllOk_fail_head (by simp [cllHead, cllZ])
end Go.Proofs.Ytfmgjhlcedlgpaa
